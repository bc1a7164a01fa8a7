/- The law ViewRises, plain: over the printed functions; lemmas of the layers ring, name and view, and the law itself. -/
import Derived.Test.YtpdalofhekmbeaaPViewRisesy
import Derived.Lib.MapLaws
import Derived.Lib.ValidAsc
import Derived.Lib.SplitLaws
namespace Go.Proofs.Ytpdalofhekmbeaa.Pure
open Go.RowKit Go.Proofs.Ytpdalofhekmbeaa.PViewRises Go.Proofs.YtpdalofhekmbeaaW.PrintWords Go.Proofs.YtpdalofhekmbeaaW.PrintLast Go.Proofs.YtpdalofhekmbeaaW.PrintMore
set_option linter.unusedSimpArgs false
set_option linter.unusedVariables false
namespace RQ
variable {P : Int → Int}
def ah (P : Int → Int) (a b : Int) : Prop := P a < P b ∨ (P a = P b ∧ a < b)
instance (P : Int → Int) (a b : Int) : Decidable (ah P a b) := inferInstanceAs (Decidable (_ ∨ _))
theorem ah_as {a b : Int} (h : ah P a b) (k : ah P b a) : False := by unfold ah at *; omega
theorem ah_le {a b : Int} (h : ah P a b) : P a ≤ P b := by unfold ah at *; omega
theorem ah_irr {a : Int} (h : ah P a a) : False := ah_as h h
theorem ah_tot {a b : Int} (h : a ≠ b) : ah P a b ∨ ah P b a := by unfold ah; omega
theorem sorted_eq {s t : List Int} (hs : s.Pairwise (ah P)) (ht : t.Pairwise (ah P)) (h : s.Perm t) : s = t :=
  List.Perm.eq_of_pairwise (fun _ _ _ _ h1 h2 => (ah_as h1 h2).elim) hs ht h
/-- A ring cut at a key. -/
def heirsZ (P : Int → Int) (key : Int) (s : List Int) : List Int := s.filter (fun x => decide (key ≤ P x)) ++ s.filter (fun x => !decide (key ≤ P x))
theorem cut_at {s : List Int} (hs : s.Pairwise (ah P)) (key : Int) (i : Nat) (h1 : ∀ x, x ∈ s.take i → P x < key) (h2 : ∀ x, (s.drop i).head? = some x → key ≤ P x) :
    s.filter (fun x => decide (key ≤ P x)) = s.drop i ∧ s.filter (fun x => !decide (key ≤ P x)) = s.take i := by
  have hd : ∀ x, x ∈ s.drop i → key ≤ P x := by
    intro x hx
    have hp : (s.drop i).Pairwise (ah P) := List.Pairwise.sublist (List.drop_sublist i s) hs
    cases hq : s.drop i with
    | nil => rw [hq] at hx; cases hx
    | cons y ys =>
      rw [hq] at hx hp h2
      have hy := h2 y rfl
      rcases List.mem_cons.1 hx with rfl | hx
      · exact hy
      · have := ah_le ((List.pairwise_cons.1 hp).1 x hx)
        omega
  have e : s = s.take i ++ s.drop i := (List.take_append_drop i s).symm
  constructor
  · conv => lhs; rw [e]
    rw [List.filter_append, List.filter_eq_nil_iff.2 (by intro x hx; have := h1 x hx; simp; omega), List.filter_eq_self.2 (by intro x hx; have := hd x hx; simp; omega), List.nil_append]
  · conv => lhs; rw [e]
    rw [List.filter_append, List.filter_eq_self.2 (by intro x hx; have := h1 x hx; simp; omega), List.filter_eq_nil_iff.2 (by intro x hx; have := hd x hx; simp; omega), List.append_nil]
theorem heirs_at {s : List Int} (hs : s.Pairwise (ah P)) (key : Int) (i : Nat) (h1 : ∀ x, x ∈ s.take i → P x < key) (h2 : ∀ x, (s.drop i).head? = some x → key ≤ P x) : heirsZ P key s = s.drop i ++ s.take i := by
  obtain ⟨a, b⟩ := cut_at hs key i h1 h2
  unfold heirsZ
  rw [a, b]
theorem heirs_perm (key : Int) (s : List Int) : (heirsZ P key s).Perm s := List.filter_append_perm _ s
theorem heirs_mem (key : Int) (s : List Int) (x : Int) : x ∈ heirsZ P key s ↔ x ∈ s := (heirs_perm key s).mem_iff
theorem heirs_len (key : Int) (s : List Int) : (heirsZ P key s).length = s.length := (heirs_perm key s).length_eq
theorem heirs_filter (key : Int) (s : List Int) (p : Int → Bool) : heirsZ P key (s.filter p) = (heirsZ P key s).filter p := by
  unfold heirsZ
  rw [List.filter_append]
  simp only [List.filter_filter]
  congr 1 <;> (apply List.filter_congr; intro x _; exact Bool.and_comm _ _)
/-- The first place of an element for which p holds, or -1. -/
def idxQ (p : Int → Bool) : List Int → Int → Int
  | [], _ => -1
  | x :: l, i => if p x then i else idxQ p l (i + 1)
theorem idxQ_spec (p : Int → Bool) : ∀ (l : List Int) (i : Int), (idxQ p l i = -1 ∧ ∀ x, x ∈ l → p x = false) ∨ ∃ j : Nat, idxQ p l i = i + j ∧ (∀ x, x ∈ l.take j → p x = false) ∧ ∃ x, (l.drop j).head? = some x ∧ p x = true
  | [], i => .inl ⟨rfl, by intro x hx; cases hx⟩
  | y :: l, i => by
    unfold idxQ
    by_cases h : p y = true
    · right
      rw [if_pos h]
      exact ⟨0, by simp, (by intro x hx; cases hx), y, rfl, h⟩
    · rw [if_neg h]
      have h := Bool.eq_false_iff.2 h
      rcases idxQ_spec p l (i + 1) with ⟨h1, h2⟩ | ⟨j, h1, h2, x, h3, h4⟩
      · exact .inl ⟨h1, by intro x hx; rcases List.mem_cons.1 hx with rfl | hx; exact h; exact h2 x hx⟩
      · right
        refine ⟨j + 1, by rw [h1]; omega, ?_, x, h3, h4⟩
        intro z hz
        rcases List.mem_cons.1 hz with rfl | hz
        · exact h
        · exact h2 z hz
/-- The program's cut: the place of the first one at or behind the key, or 0. -/
theorem heirs_idx {s : List Int} (hs : s.Pairwise (ah P)) (key : Int) :
    s.drop (max (idxQ (fun x => decide (key ≤ P x)) s 0) 0).toNat ++ s.take (max (idxQ (fun x => decide (key ≤ P x)) s 0) 0).toNat = heirsZ P key s := by
  rcases idxQ_spec (fun x => decide (key ≤ P x)) s 0 with ⟨h1, h2⟩ | ⟨j, h1, h2, x, h3, h4⟩
  · rw [h1]
    have h2' : ∀ x, x ∈ s → P x < key := by intro x hx; have := h2 x hx; simp at this; omega
    have := heirs_at hs key s.length (by intro x hx; rw [List.take_length] at hx; exact h2' x hx) (by intro x hx; simp at hx)
    rw [this, show (max (-1 : Int) 0).toNat = 0 from rfl]
    simp
  · rw [h1]
    have e : (max (0 + (j : Int)) 0).toNat = j := by omega
    rw [e]
    refine (heirs_at hs key j ?_ ?_).symm
    · intro x hx
      have := h2 x hx
      simp at this
      omega
    · intro y hy
      rw [h3] at hy
      injection hy with hy
      subst hy
      simpa using h4
/-- Nodes, in order. -/
def NL (l : List Int) : Prop := (∀ n, n ∈ l → 1 ≤ n ∧ n ≤ 15) ∧ l.Pairwise (· < ·)
theorem NL.nodup {l : List Int} (h : NL l) : l.Nodup := h.2.imp (fun h => by omega)
theorem NL.filter {l : List Int} (h : NL l) (p : Int → Bool) : NL (l.filter p) := ⟨fun n hn => h.1 n (List.mem_filter.1 hn).1, h.2.filter p⟩
theorem nl_len : ∀ (l : List Int) (a : Int), l.Pairwise (· < ·) → (∀ n, n ∈ l → a ≤ n ∧ n ≤ 15) → a ≤ 16 → (l.length : Int) ≤ 16 - a
  | [], a, _, _, h => by simp; omega
  | x :: l, a, hp, hm, h => by
    have hx := hm x List.mem_cons_self
    have hq := List.pairwise_cons.1 hp
    have := nl_len l (x + 1) hq.2 (fun n hn => ⟨by have := hq.1 n hn; omega, (hm n (List.mem_cons_of_mem _ hn)).2⟩) (by omega)
    simp only [List.length_cons]
    omega
theorem NL.len {l : List Int} (h : NL l) : l.length ≤ 15 := by
  have := nl_len l 1 h.2 h.1 (by omega)
  omega
/-- A ring of nodes: they in the order of their points. -/
structure IsRing (P : Int → Int) (l s : List Int) : Prop where
  perm : s.Perm l
  ord : s.Pairwise (ah P)
theorem IsRing.filter {l s : List Int} (h : IsRing P l s) (p : Int → Bool) : IsRing P (l.filter p) (s.filter p) := ⟨h.perm.filter p, h.ord.filter p⟩
theorem IsRing.uniq {l s t : List Int} (h : IsRing P l s) (k : IsRing P l t) : s = t := sorted_eq h.ord k.ord (h.perm.trans k.perm.symm)
/-- How many stand ahead. -/
def rank (P : Int → Int) (l : List Int) (x : Int) : Nat := l.countP (fun y => decide (ah P y x))
theorem rank_at {l s : List Int} (h : IsRing P l s) (j : Nat) (hj : j < s.length) : rank P l s[j] = j := by
  unfold rank
  rw [← h.perm.countP_eq]
  have ho := h.ord
  rw [List.pairwise_iff_getElem] at ho
  have e : s = s.take j ++ s[j] :: s.drop (j + 1) := by rw [List.getElem_cons_drop, List.take_append_drop]
  have h1 : (s.take j).countP (fun y => decide (ah P y s[j])) = (s.take j).length := by
    rw [List.countP_eq_length]
    intro x hx
    obtain ⟨i, hi, rfl⟩ := List.getElem_of_mem hx
    rw [List.getElem_take]
    simp only [decide_eq_true_eq]
    simp at hi
    exact ho i j (by omega) hj (by omega)
  have h2 : (s.drop (j + 1)).countP (fun y => decide (ah P y s[j])) = 0 := by
    rw [List.countP_eq_zero]
    intro x hx
    obtain ⟨i, hi, rfl⟩ := List.getElem_of_mem hx
    rw [List.getElem_drop]
    have := ho j (j + 1 + i) hj (by simp at hi; omega) (by omega)
    simp only [decide_eq_true_eq]
    exact fun k => ah_as this k
  generalize s[j] = y at *
  rw [e, List.countP_append, List.countP_cons, h1, h2, if_neg (by simp; exact fun h => ah_irr h)]
  simp
  omega
theorem filter_one {p : Int → Bool} {y : Int} : ∀ (l : List Int), l.Nodup → y ∈ l → (∀ x, x ∈ l → (p x = true ↔ x = y)) → l.filter p = [y]
  | [], _, h, _ => by cases h
  | x :: l, hn, hm, key => by
    rw [List.nodup_cons] at hn
    by_cases hx : x = y
    · subst hx
      rw [List.filter_cons_of_pos ((key x List.mem_cons_self).2 rfl), List.filter_eq_nil_iff.2]
      intro z hz hp
      have := (key z (List.mem_cons_of_mem _ hz)).1 hp
      subst this
      exact hn.1 hz
    · rw [List.filter_cons_of_neg (fun hp => hx ((key x List.mem_cons_self).1 hp))]
      refine filter_one l hn.2 ?_ (fun z hz => key z (List.mem_cons_of_mem _ hz))
      rcases List.mem_cons.1 hm with h | h
      · exact absurd h.symm hx
      · exact h
/-- Of each place one of the nodes. -/
theorem rank_pick {l s : List Int} (h : IsRing P l s) (hn : l.Nodup) (j : Nat) (hj : j < s.length) : l.filter (fun x => decide (rank P l x = j)) = [s[j]] := by
  refine filter_one l hn (h.perm.mem_iff.1 (List.getElem_mem hj)) ?_
  intro x hx
  obtain ⟨i, hi, rfl⟩ := List.getElem_of_mem (h.perm.mem_iff.2 hx)
  rw [decide_eq_true_eq, rank_at h i hi]
  constructor
  · rintro rfl; rfl
  · intro e
    have ho := h.ord
    rw [List.pairwise_iff_getElem] at ho
    rcases Nat.lt_trichotomy i j with k | k | k
    · have := ho i j hi hj k; rw [e] at this; exact (ah_irr this).elim
    · exact k
    · have := ho j i hj hi k; rw [e] at this; exact (ah_irr this).elim
/-- The document's ring: place by place. -/
theorem by_rank {l s : List Int} (h : IsRing P l s) (hn : l.Nodup) : (List.range l.length).flatMap (fun j => l.filter (fun x => decide (rank P l x = j))) = s := by
  rw [← h.perm.length_eq]
  have : ∀ m, m ≤ s.length → (List.range m).flatMap (fun j => l.filter (fun x => decide (rank P l x = j))) = s.take m := by
    intro m
    induction m with
    | zero => intro _; simp
    | succ m ih =>
      intro hm
      rw [List.range_succ, List.flatMap_append, ih (by omega)]
      simp only [List.flatMap_cons, List.flatMap_nil, List.append_nil]
      rw [rank_pick h hn m (by omega), List.take_succ_eq_append_getElem (by omega)]
  rw [this _ (Nat.le_refl _), List.take_length]
theorem nodup_sub_len : ∀ {l m : List Int}, l.Nodup → (∀ x, x ∈ l → x ∈ m) → l.length ≤ m.length
  | [], m, _, _ => Nat.zero_le _
  | x :: l, m, hn, hs => by
    rw [List.nodup_cons] at hn
    have hx := hs x List.mem_cons_self
    have h1 := nodup_sub_len (l := l) (m := m.erase x) hn.2 (fun y hy => by
      refine (List.mem_erase_of_ne ?_).2 (hs y (List.mem_cons_of_mem _ hy))
      rintro rfl
      exact hn.1 hy)
    rw [List.length_erase_of_mem hx] at h1
    have : 0 < m.length := List.length_pos_of_mem hx
    simp only [List.length_cons]
    omega
/-- The owner of a key. -/
def OwnQ (P : Int → Int) (key : Int) (s : List Int) (o : Int) : Prop := o ∈ s ∧ ((key ≤ P o ∧ ∀ x, x ∈ s → key ≤ P x → P o ≤ P x) ∨ ((∀ x, x ∈ s → P x < key) ∧ ∀ x, x ∈ s → P o ≤ P x))
theorem own_head {s : List Int} (hs : s.Pairwise (ah P)) (key o : Int) (r : List Int) (h : heirsZ P key s = o :: r) : OwnQ P key s o := by
  have hm : o ∈ s := (heirs_mem (P := P) key s o).1 (by rw [h]; exact List.mem_cons_self)
  refine ⟨hm, ?_⟩
  unfold heirsZ at h
  cases hf : s.filter (fun x => decide (key ≤ P x)) with
  | nil =>
    right
    rw [hf, List.nil_append] at h
    have hlt : ∀ x, x ∈ s → P x < key := by
      intro x hx
      have := List.filter_eq_nil_iff.1 hf x hx
      simp at this
      omega
    refine ⟨hlt, fun x hx => ?_⟩
    have hs2 : s.filter (fun x => !decide (key ≤ P x)) = s := List.filter_eq_self.2 (by intro x hx; have := hlt x hx; simp; omega)
    rw [hs2] at h
    subst h
    rcases List.mem_cons.1 hx with rfl | hx
    · exact Int.le_refl _
    · exact ah_le ((List.pairwise_cons.1 hs).1 x hx)
  | cons y ys =>
    left
    rw [hf] at h
    obtain ⟨rfl, _⟩ := List.cons.inj h
    have hp : (s.filter (fun x => decide (key ≤ P x))).Pairwise (ah P) := hs.filter _
    have hy : y ∈ s.filter (fun x => decide (key ≤ P x)) := by rw [hf]; exact List.mem_cons_self
    refine ⟨by simpa using (List.mem_filter.1 hy).2, fun x hx hk => ?_⟩
    have hx : x ∈ s.filter (fun x => decide (key ≤ P x)) := List.mem_filter.2 ⟨hx, by simpa using hk⟩
    rw [hf] at hx hp
    rcases List.mem_cons.1 hx with rfl | hx
    · exact Int.le_refl _
    · exact ah_le ((List.pairwise_cons.1 hp).1 x hx)
/-- How far from a node to a key. -/
def far (P : Int → Int) (key n : Int) : Int := (key - P n) % 18446744073709551616
theorem far_is {key n : Int} (k0 : 0 ≤ key) (k1 : key < 18446744073709551616) (p0 : 0 ≤ P n) (p1 : P n < 18446744073709551616) : far P key n = if P n ≤ key then key - P n else key - P n + 18446744073709551616 := by
  unfold far
  split <;> omega
theorem next_near {s : List Int} {key k1 from_ o nx : Int} (hb : ∀ x, x ∈ s → 0 ≤ P x ∧ P x < 18446744073709551616) (inj : ∀ x y, x ∈ s → y ∈ s → P x = P y → x = y)
    (a0 : 0 ≤ key) (a1 : key < 18446744073709551616) (hf : from_ ∈ s) (ho : OwnQ P key s o) (hk : k1 = (P from_ + 1) % 18446744073709551616) (hn : OwnQ P k1 s nx) (h1 : from_ ≠ o) (h2 : nx ≠ o) : far P key nx < far P key from_ := by
  obtain ⟨om, ho⟩ := ho
  obtain ⟨nm, hn⟩ := hn
  have bf := hb _ hf
  have bo := hb _ om
  have bn := hb _ nm
  rw [far_is a0 a1 bf.1 bf.2, far_is a0 a1 bn.1 bn.2]
  have e1 : P from_ ≠ P o := fun h => h1 (inj _ _ hf om h)
  have e2 : P nx ≠ P o := fun h => h2 (inj _ _ nm om h)
  rcases ho with ⟨u1, u2⟩ | ⟨u1, u2⟩ <;> rcases hn with ⟨v1, v2⟩ | ⟨v1, v2⟩
  · have x1 := u2 _ hf; have x2 := u2 _ nm; have y1 := v2 _ hf; have y2 := v2 _ om
    split <;> split <;> omega
  · have x1 := u2 _ hf; have x2 := u2 _ nm; have y1 := v2 _ hf; have y2 := v2 _ om; have z1 := v1 _ om; have z2 := v1 _ nm
    split <;> split <;> omega
  · have x1 := u2 _ hf; have x2 := u2 _ nm; have y1 := v2 _ hf; have y2 := v2 _ om; have z1 := u1 _ hf; have z2 := u1 _ nm; have z3 := u1 _ om
    split <;> split <;> omega
  · have x1 := u2 _ hf; have x2 := u2 _ nm; have y1 := v2 _ hf; have y2 := v2 _ om; have z1 := u1 _ hf; have z2 := u1 _ nm; have z3 := u1 _ om; have w1 := v1 _ om; have w2 := v1 _ nm
    split <;> split <;> omega
theorem next_ne {s : List Int} {k1 from_ nx y : Int} (hb : ∀ x, x ∈ s → 0 ≤ P x ∧ P x < 18446744073709551616) (inj : ∀ x y, x ∈ s → y ∈ s → P x = P y → x = y)
    (hf : from_ ∈ s) (hy : y ∈ s) (hne : y ≠ from_) (hk : k1 = (P from_ + 1) % 18446744073709551616) (hn : OwnQ P k1 s nx) : nx ≠ from_ := by
  rintro rfl
  obtain ⟨nm, hn⟩ := hn
  have bf := hb _ hf
  have bo := hb _ hy
  have e1 : P y ≠ P nx := fun h => hne (inj _ _ hy hf h)
  rcases hn with ⟨v1, v2⟩ | ⟨v1, v2⟩
  · have y1 := v2 _ hy; omega
  · have y1 := v2 _ hy; have y2 := v1 _ hy; omega
/-- A way: each step comes by another node; it ends at the owner. -/
structure IsWay (s : List Int) (hop : Int → Int) (o : Int) (w : List Int) : Prop where
  mem : ∀ x, x ∈ w → x ∈ s
  last : w.getLast? = some o
  step : ∀ i a b, w[i]? = some a → w[i + 1]? = some b → a ≠ o ∧ hop a = b
  nodup : w.Nodup
theorem way_of {s : List Int} {hop : Int → Int} {o : Int} {D : Int → Int} (ho : o ∈ s) (hD : ∀ x, 0 ≤ D x) (hh : ∀ a, a ∈ s → a ≠ o → hop a ∈ s ∧ (hop a = o ∨ hop a ≠ o ∧ D (hop a) < D a)) :
    ∀ (d : Nat) (a : Int), a ∈ s → (D a).toNat < d → ∃ w, IsWay s hop o (a :: w) ∧ ∀ x, x ∈ w → x = o ∨ D x < D a := by
  intro d
  induction d with
  | zero => intro a _ h; omega
  | succ d ih =>
    intro a ha hd
    by_cases hao : a = o
    · subst hao
      exact ⟨[], ⟨by intro x hx; rcases List.mem_singleton.1 hx with rfl; exact ho, rfl, by intro i a b h1 h2; simp at h2, by simp⟩, by intro x hx; cases hx⟩
    · obtain ⟨hm, h | ⟨h1, h2⟩⟩ := hh a ha hao
      · refine ⟨[o], ⟨?_, rfl, ?_, ?_⟩, ?_⟩
        · intro x hx
          simp at hx
          rcases hx with rfl | rfl <;> assumption
        · intro i x y h3 h4
          cases i with
          | zero =>
            simp at h3 h4
            subst h3 h4
            exact ⟨hao, h⟩
          | succ i => simp at h4
        · simp [hao]
        · intro x hx; simp at hx; exact .inl hx
      · have hda := hD (hop a)
        obtain ⟨w, hw, hl⟩ := ih (hop a) hm (by omega)
        refine ⟨hop a :: w, ⟨?_, ?_, ?_, ?_⟩, ?_⟩
        · intro x hx
          rcases List.mem_cons.1 hx with rfl | hx
          · exact ha
          · exact hw.mem x hx
        · rw [List.getLast?_cons_cons]; exact hw.last
        · intro i x y h3 h4
          cases i with
          | zero =>
            simp at h3 h4
            subst h3 h4
            exact ⟨hao, rfl⟩
          | succ i => exact hw.step i x y (by simpa using h3) (by simpa using h4)
        · rw [List.nodup_cons]
          refine ⟨?_, hw.nodup⟩
          intro hx
          rcases List.mem_cons.1 hx with e | hx
          · rw [← e] at h2; omega
          · rcases hl a hx with e | e
            · exact hao e
            · omega
        · intro x hx
          rcases List.mem_cons.1 hx with rfl | hx
          · exact .inr h2
          · rcases hl x hx with e | e
            · exact .inl e
            · right; omega
end RQ
open RQ
theorem wrap1 {i : Int} (h0 : 0 ≤ i) (h : i < 4611686018427387904) : wrap64 (i + 1) = i + 1 := by unfold wrap64; omega
theorem wrapm {i : Int} (h0 : 0 < i) (h : i < 4611686018427387904) : wrap64 (i - 1) = i - 1 := by unfold wrap64; omega
theorem rd_at {l : List Int} {i : Nat} : rd l (i : Int) = l.getD i 0 := rfl
theorem node_is (a : Int) : ring_node.f a = some (decide (1 ≤ a ∧ a ≤ 15)) := by
  unfold ring_node.f
  split
  · congr 1; simp; omega
  · congr 1; simp; omega
def okAt (l : List Int) (i : Nat) : Bool := decide (1 ≤ l.getD i 0 ∧ l.getD i 0 ≤ 15 ∧ (0 < i → l.getD (i - 1) 0 < l.getD i 0))
theorem nodes_l0 (l : List Int) (hl : l.length < 4611686018427387904) : ∀ (d k i : Nat), i + d = l.length → d < k → ring_Nodes.l0 k l l (l.length : Int) (i : Int) = some ((List.range' i d).all (okAt l)) := by
  intro d
  induction d with
  | zero =>
    intro k i h hk
    obtain ⟨k, rfl⟩ : ∃ m, k = m + 1 := ⟨k - 1, by omega⟩
    simp only [ring_Nodes.l0]
    rw [if_neg (by omega)]
    rfl
  | succ d ih =>
    intro k i h hk
    obtain ⟨k, rfl⟩ : ∃ m, k = m + 1 := ⟨k - 1, by omega⟩
    have ihh := ih k (i + 1) (by omega) (by omega)
    rw [List.range'_succ, List.all_cons]
    simp only [ring_Nodes.l0]
    rw [if_pos (by omega), if_pos (by omega), if_pos (by omega), node_is, Option.bind_some, rd_at, wrap1 (by omega) (by omega), show ((i : Int) + 1) = ((i + 1 : Nat) : Int) from by omega, ihh]
    unfold okAt
    by_cases h1 : 1 ≤ l.getD i 0 ∧ l.getD i 0 ≤ 15
    · rw [decide_eq_true h1, if_pos rfl]
      by_cases h2 : (i : Int) > 0
      · rw [if_pos h2, wrapm (by omega) (by omega), if_pos (by omega), if_pos (by omega), show ((i : Int) - 1) = ((i - 1 : Nat) : Int) from by omega, rd_at]
        by_cases h3 : l.getD (i - 1) 0 ≥ l.getD i 0
        · rw [if_pos h3, decide_eq_false (by omega)]; rfl
        · rw [if_neg h3, decide_eq_true (by omega)]; rfl
      · rw [if_neg h2, decide_eq_true (by omega)]; rfl
    · rw [decide_eq_false h1, if_neg (by decide), decide_eq_false (by omega)]; rfl
def nodesB (l : List Int) : Bool := (List.range' 0 l.length).all (okAt l)
theorem nodes_is (l : List Int) (hl : l.length < 4611686018427387904) (k : Nat) (hk : l.length < k) : ring_Nodes.f k l = some (nodesB l) := nodes_l0 l hl l.length k 0 (by omega) hk
theorem nodesB_at {l : List Int} (h : nodesB l = true) (i : Nat) (hi : i < l.length) : 1 ≤ l[i] ∧ l[i] ≤ 15 ∧ (∀ h0 : 0 < i, l[i - 1] < l[i]) := by
  have := List.all_eq_true.1 h i (by simp; exact hi)
  unfold okAt at this
  have := of_decide_eq_true this
  rw [List.getD_eq_getElem?_getD, List.getElem?_eq_getElem hi, List.getD_eq_getElem?_getD, List.getElem?_eq_getElem (show i - 1 < l.length by omega)] at this
  exact this
theorem nodesB_NL {l : List Int} (h : nodesB l = true) : NL l := by
  have key : ∀ d i : Nat, ∀ hd : i + d + 1 < l.length, l[i] < l[i + d + 1] := by
    intro d
    induction d with
    | zero => intro i hd; exact (nodesB_at h (i + 1) hd).2.2 (by omega)
    | succ d ih =>
      intro i hd
      have h1 := ih i (by omega)
      have h2 := (nodesB_at h (i + d + 1 + 1) hd).2.2 (by omega)
      have h3 : l[i + d + 1 + 1 - 1] = l[i + d + 1] := rfl
      have h4 : l[i + (d + 1) + 1] = l[i + d + 1 + 1] := rfl
      omega
  refine ⟨fun n hn => ?_, ?_⟩
  · obtain ⟨i, hi, rfl⟩ := List.getElem_of_mem hn
    have := nodesB_at h i hi
    exact ⟨this.1, this.2.1⟩
  · rw [List.pairwise_iff_getElem]
    intro i j hi hj hij
    obtain ⟨d, rfl⟩ : ∃ d, j = i + d + 1 := ⟨j - i - 1, by omega⟩
    exact key d i hj
theorem nodesB_len {l : List Int} (h : nodesB l = true) : l.length ≤ 15 := (nodesB_NL h).len
theorem wr (x : Int) (h0 : -9223372036854775808 ≤ x) (h1 : x ≤ 9223372036854775807) : wrap64 x = x := by unfold wrap64; omega
theorem e2 (a b : Int) (ha : 0 ≤ a ∧ a < 256) (hb : 0 ≤ b ∧ b < 256) : wrap64 ((wrap64 ((wrap64 (64 * (wrap64 (a - 192)))) + (wrap64 b))) - 128) = 64 * (a - 192) + b - 128 := by
  rw [wr (a - 192) (by omega) (by omega), wr (64 * (a - 192)) (by omega) (by omega), wr b (by omega) (by omega), wr (64 * (a - 192) + b) (by omega) (by omega), wr _ (by omega) (by omega)]
theorem lift {α : Type} {f : Nat → Option α} (hm : ∀ k, LeO (f k) (f (k + 1))) {a b : Nat} (h : a ≤ b) {r : α} (e : f a = some r) : f b = some r := by
  obtain ⟨d, rfl⟩ : ∃ d, b = a + d := ⟨b - a, by omega⟩
  clear h
  induction d with
  | zero => exact e
  | succ d ih => exact hm _ _ ih
theorem wrapn {n : Nat} (h : n ≤ 1000000) : wrap64 ((n : Int) + 1) = ((n + 1 : Nat) : Int) := by unfold wrap64; omega
theorem wrapp {n : Nat} (h : n ≤ 1000000) (h0 : 0 < n) : wrap64 ((n : Int) - 1) = ((n - 1 : Nat) : Int) := by unfold wrap64; omega
theorem drop_parts {α : Type} {l : List α} {i : Nat} {x : α} {r : List α} (h : l.drop i = x :: r) : l[i]? = some x ∧ i < l.length ∧ l.drop (i + 1) = r := by
  have hi : i < l.length := by
    rcases Nat.lt_or_ge i l.length with g | g
    · exact g
    · rw [List.drop_eq_nil_of_le g] at h; cases h
  rw [List.drop_eq_getElem_cons hi] at h
  injection h with h1 h2
  exact ⟨by rw [List.getElem?_eq_getElem hi, h1], hi, h2⟩
theorem rd_int {l : List Int} {i : Nat} {x : Int} (h : l[i]? = some x) : rd l (i : Int) = x := by
  unfold rd; rw [Int.toNat_natCast, List.getD_eq_getElem?_getD, h]; rfl
theorem rd_M {l : List S53} {i : Nat} {x : S53} (h : l[i]? = some x) : rd_T53 l (i : Int) = x := by
  unfold rd_T53; rw [Int.toNat_natCast, List.getD_eq_getElem?_getD, h]; rfl
theorem view_nodes_is (l : List S53) (hl : l.length ≤ 1000) : ∀ (r : List S53) (i k : Nat) (acc : List Int), l.drop i = r → i + r.length = l.length → acc.length = i → r.length < k → view_nodes.l0 k acc l (l.length : Int) (i : Int) = some (acc ++ r.map (·.f0)) := by
  intro r
  induction r with
  | nil =>
    intro i k acc hd hi ha hk
    obtain ⟨k, rfl⟩ : ∃ q, k = q + 1 := ⟨k - 1, by simp at hk; omega⟩
    simp only [view_nodes.l0]
    rw [if_neg (by simp at hi; omega)]
    simp
  | cons x r ih =>
    intro i k acc hd hi ha hk
    obtain ⟨k, rfl⟩ : ∃ q, k = q + 1 := ⟨k - 1, by simp at hk; omega⟩
    obtain ⟨hx, hlt, hd2⟩ := drop_parts hd
    simp only [view_nodes.l0]
    rw [if_pos (by omega), if_pos (by omega), if_pos (by omega), if_pos (by omega), rd_M hx, wrapn (by omega), ih (i + 1) k _ hd2 (by simp at hi; omega) (by simp; omega) (by simp at hk; omega)]
    simp
theorem view_nodes_f (l : List S53) (hl : l.length ≤ 1000) (k : Nat) (hk : l.length < k) : view_nodes.f k l = some (l.map (·.f0)) := by
  have h := view_nodes_is l hl l 0 k [] rfl (by omega) rfl hk
  simpa [view_nodes.f] using h
def nodeB (n : Int) : Bool := decide (1 ≤ n) && decide (n ≤ 15)
theorem ring_node_is (n : Int) : ring_node.f n = some (nodeB n) := by
  unfold ring_node.f nodeB
  by_cases h : n ≥ 1
  · rw [if_pos h, decide_eq_true (show 1 ≤ n from h), Bool.true_and]
  · rw [if_neg h, decide_eq_false (show ¬ 1 ≤ n from h), Bool.false_and]
def nodesF : Option Int → List Int → Bool
  | _, [] => true
  | p, n :: r => nodeB n && (p.all (fun q => decide (q < n))) && nodesF (some n) r
theorem ring_Nodes_is (l : List Int) (hl : l.length ≤ 1000) : ∀ (r : List Int) (i k : Nat) (p : Option Int), l.drop i = r → i + r.length = l.length → (i = 0 ∧ p = none ∨ 0 < i ∧ ∃ q, p = some q ∧ l[i - 1]? = some q) → r.length < k → ring_Nodes.l0 k l l (l.length : Int) (i : Int) = some (nodesF p r) := by
  intro r
  induction r with
  | nil =>
    intro i k p hd hi hp hk
    obtain ⟨k, rfl⟩ : ∃ q, k = q + 1 := ⟨k - 1, by simp at hk; omega⟩
    simp only [ring_Nodes.l0]
    rw [if_neg (by simp at hi; omega)]
    rfl
  | cons x r ih =>
    intro i k p hd hi hp hk
    obtain ⟨k, rfl⟩ : ∃ q, k = q + 1 := ⟨k - 1, by simp at hk; omega⟩
    obtain ⟨hx, hlt, hd2⟩ := drop_parts hd
    have ih' := ih (i + 1) k (some x) hd2 (by simp at hi; omega) (.inr ⟨by omega, x, rfl, by simpa using hx⟩) (by simp at hk; omega)
    simp only [ring_Nodes.l0]
    rw [if_pos (by omega), if_pos (by omega), if_pos (by omega), rd_int hx, ring_node_is, Option.bind_some, wrapn (by omega)]
    simp only [nodesF]
    by_cases hn : nodeB x = true
    · rw [if_pos hn, hn, Bool.true_and]
      rcases hp with ⟨rfl, rfl⟩ | ⟨h0, q, rfl, hq⟩
      · rw [if_neg (by omega), ih']
        rfl
      · rw [if_pos (by omega), wrapp (by omega) h0, if_pos (by omega), if_pos (by omega), rd_int hq]
        by_cases hlt2 : q < x
        · rw [if_neg (by omega), ih']
          simp [hlt2]
        · rw [if_pos (by omega)]
          simp [hlt2]
    · rw [if_neg hn]
      have hn' : nodeB x = false := by simpa using hn
      rw [hn']
      rfl
theorem ring_Nodes_f (l : List Int) (hl : l.length ≤ 1000) (k : Nat) (hk : l.length < k) : ring_Nodes.f k l = some (nodesF none l) :=
  ring_Nodes_is l hl l 0 k none rfl (by omega) (.inl ⟨rfl, rfl⟩) hk
def countB (n : Int) : Bool := decide (1 ≤ n) && decide (n ≤ 1099511627775)
def chkF (e : Int) (l : List S53) : Bool := countB e && (decide (0 < l.length) && (nodesF none (l.map (·.f0)) && l.all (fun m => countB m.f1)))
theorem idxF_all (p : S53 → Bool) : ∀ (l : List S53) (i : Int), 0 ≤ i → (!(decide (0 ≤ idxF p l i))) = l.all (fun x => !p x) := by
  intro l
  induction l with
  | nil => intro i hi; rfl
  | cons x l ih =>
    intro i hi
    rw [List.all_cons]
    by_cases h : p x = true
    · have e : idxF p (x :: l) i = i := by unfold idxF; rw [if_pos h]
      rw [e, decide_eq_true hi, h]; rfl
    · have h' : p x = false := by simpa using h
      have e : idxF p (x :: l) i = idxF p l (i + 1) := by rw [idxF, if_neg h]
      rw [e, ih (i + 1) (by omega), h']
      rfl
theorem view_Check_f (e : Int) (l : List S53) (hl : l.length ≤ 1000) (k : Nat) (hk : l.length < k) : view_Check.f k e l = some (chkF e l) := by
  unfold view_Check.f chkF
  rw [view_count_is, Option.bind_some]
  show (if countB e = true then _ else _) = _
  by_cases h1 : countB e = true
  · rw [if_pos h1, h1, Bool.true_and]
    by_cases h2 : (l.length : Int) > 0
    · rw [if_pos h2, view_nodes_f l hl k hk, Option.bind_some, ring_Nodes_f _ (by simpa using hl) k (by simpa using hk), Option.bind_some, decide_eq_true (show 0 < l.length by omega), Bool.true_and]
      by_cases h3 : nodesF none (l.map (·.f0)) = true
      · rw [if_pos h3, h3, Bool.true_and, idxF_all _ _ _ (by omega)]
        congr 2
        funext m
        simp [lifeBad, countB]
      · rw [if_neg h3]
        have h3' : nodesF none (l.map (·.f0)) = false := by simpa using h3
        rw [h3']; rfl
    · rw [if_neg h2, decide_eq_false (show ¬ 0 < l.length by omega)]; rfl
  · rw [if_neg h1]
    have h1' : countB e = false := by simpa using h1
    rw [h1']; rfl
theorem nodes_beyond : ∀ (l : List Int) (q : Int), nodesF (some q) l = true → ∀ n ∈ l, q < n := by
  intro l
  induction l with
  | nil => intro q _ n hn; cases hn
  | cons x l ih =>
    intro q h n hn
    simp only [nodesF, Bool.and_eq_true] at h
    obtain ⟨⟨_, h2⟩, h3⟩ := h
    have hq : q < x := by simpa using h2
    rcases List.mem_cons.1 hn with rfl | hn
    · exact hq
    · have := ih x h3 n hn; omega
theorem nodes_apart : ∀ (xs : List Int) (p : Option Int) (n : Int) (ys : List Int), nodesF p (xs ++ n :: ys) = true → (∀ x ∈ xs, x < n) ∧ (∀ y ∈ ys, n < y) := by
  intro xs
  induction xs with
  | nil =>
    intro p n ys h
    simp only [List.nil_append, nodesF, Bool.and_eq_true] at h
    exact ⟨fun _ hx => (by cases hx), nodes_beyond ys n h.2⟩
  | cons x xs ih =>
    intro p n ys h
    simp only [List.cons_append, nodesF, Bool.and_eq_true] at h
    obtain ⟨_, h3⟩ := h
    have h4 := nodes_beyond _ _ h3
    obtain ⟨h5, h6⟩ := ih (some x) n ys h3
    refine ⟨fun y hy => ?_, h6⟩
    rcases List.mem_cons.1 hy with rfl | hy
    · exact h4 n (by simp)
    · exact h5 y hy
theorem idxF_split (p : S53 → Bool) : ∀ (l : List S53) (i : Int), ((∀ x ∈ l, p x = false) ∧ idxF p l i = -1) ∨ ∃ pre m post, l = pre ++ m :: post ∧ p m = true ∧ (∀ x ∈ pre, p x = false) ∧ idxF p l i = i + pre.length := by
  intro l
  induction l with
  | nil => intro i; exact .inl ⟨fun _ hx => (by cases hx), rfl⟩
  | cons x l ih =>
    intro i
    by_cases h : p x = true
    · exact .inr ⟨[], x, l, rfl, h, fun _ hx => (by cases hx), by unfold idxF; rw [if_pos h]; simp⟩
    · have h' : p x = false := by simpa using h
      have e : idxF p (x :: l) i = idxF p l (i + 1) := by rw [idxF, if_neg h]
      rw [e]
      rcases ih (i + 1) with ⟨h1, h2⟩ | ⟨pre, m, post, rfl, h2, h3, h4⟩
      · exact .inl ⟨fun y hy => by rcases List.mem_cons.1 hy with rfl | hy; exact h'; exact h1 y hy, h2⟩
      · exact .inr ⟨x :: pre, m, post, rfl, h2, fun y hy => by rcases List.mem_cons.1 hy with rfl | hy; exact h'; exact h3 y hy, by rw [h4, List.length_cons]; omega⟩
def turnF (e : Int) (pre post : List S53) (m : S53) (up : Bool) : Int × List S53 × Int :=
  if m.f2 = up then (0, [], if up then 5 else 12)
  else if e = 1099511627775 then (0, [], 13)
  else if up = true ∧ m.f1 = 1099511627775 then (0, [], 13)
  else (e + 1, pre ++ ⟨m.f0, if up then m.f1 + 1 else m.f1, up⟩ :: post, 0)
theorem chk_parts {e : Int} {l : List S53} (h : chkF e l = true) : (1 ≤ e ∧ e ≤ 1099511627775) ∧ 0 < l.length ∧ nodesF none (l.map (·.f0)) = true ∧ ∀ m ∈ l, 1 ≤ m.f1 ∧ m.f1 ≤ 1099511627775 := by
  simp only [chkF, countB, Bool.and_eq_true, decide_eq_true_eq, List.all_eq_true] at h
  exact ⟨h.1, h.2.1, h.2.2.1, h.2.2.2⟩
theorem find_none {l : List S53} {node : Int} (hn : ∀ x ∈ l, x.f0 ≠ node) : idxF (fun x => decide (x.f0 = node)) l 0 = -1 := by
  rcases idxF_split (fun x => decide (x.f0 = node)) l 0 with ⟨_, h⟩ | ⟨pre, m, post, rfl, h, _⟩
  · exact h
  · exact absurd (by simpa using h) (hn m (by simp))
theorem find_at {pre post : List S53} {m : S53} (hn : ∀ x ∈ pre, x.f0 ≠ m.f0) : ∀ i : Int, idxF (fun x => decide (x.f0 = m.f0)) (pre ++ m :: post) i = i + pre.length := by
  induction pre with
  | nil => intro i; simp [idxF]
  | cons x pre ih =>
    intro i
    have h := hn x (by simp)
    rw [List.cons_append, idxF, if_neg (by simpa using h), ih (fun y hy => hn y (by simp [hy])), List.length_cons]
    omega
theorem step_at (e : Int) (pre post : List S53) (m : S53) (n l : Int) (u : Bool) (hl : (pre ++ m :: post).length ≤ 1000) (he : 1 ≤ e ∧ e < 1099511627775) :
    view_step.f e (pre ++ m :: post) (pre.length : Int) n l u = some (e + 1, pre ++ ⟨n, l, u⟩ :: post) := by
  have hlen : (pre ++ m :: post).length = pre.length + 1 + post.length := by simp; omega
  unfold view_step.f api_Member_48.f
  rw [if_pos (by omega), Option.bind_some, if_pos (by omega), if_pos (by omega), Int.toNat_natCast]
  have hw : wrap64 (e + 1) = e + 1 := by unfold wrap64; omega
  rw [hw]
  simp
theorem view_Down_found (e : Int) (pre post : List S53) (m : S53) (hl : (pre ++ m :: post).length ≤ 1000) (hc : chkF e (pre ++ m :: post) = true) (k : Nat) (hk : (pre ++ m :: post).length + 10 < k) :
    view_Down.f k e (pre ++ m :: post) m.f0 = some (turnF e pre post m false) := by
  obtain ⟨he, _, hn, hlife⟩ := chk_parts hc
  rw [List.map_append, List.map_cons] at hn
  obtain ⟨hpre, hpost⟩ := nodes_apart _ _ _ _ hn
  have hpre' : ∀ x ∈ pre, x.f0 ≠ m.f0 := fun x hx => by have := hpre x.f0 (List.mem_map_of_mem hx); omega
  have hm := hlife m (by simp)
  have hlen : (pre ++ m :: post).length = pre.length + 1 + post.length := by simp; omega
  have hx : (pre ++ m :: post)[pre.length]? = some m := by simp
  unfold view_Down.f view_find.f
  rw [Option.bind_some, find_at hpre', view_Check_f e _ hl k (by omega), Option.bind_some, if_pos hc, Int.zero_add, if_neg (by omega), if_pos (by omega), if_pos (by omega), rd_M hx]
  unfold turnF
  by_cases h1 : m.f2 = true
  · rw [if_pos h1, if_neg (show ¬ m.f2 = false by rw [h1]; decide)]
    by_cases h2 : e = 1099511627775
    · rw [if_pos (by omega), if_pos h2]
    · rw [if_neg (by omega), if_neg h2, step_at e pre post m _ _ _ hl (by omega), if_neg (fun h => by cases h.1)]
      rfl
  · rw [if_neg h1, if_pos (by simpa using h1)]
    rfl
theorem view_Up_found (e : Int) (pre post : List S53) (m : S53) (hl : (pre ++ m :: post).length ≤ 1000) (hc : chkF e (pre ++ m :: post) = true) (k : Nat) (hk : (pre ++ m :: post).length + 10 < k) :
    view_Up.f k e (pre ++ m :: post) m.f0 = some (turnF e pre post m true) := by
  obtain ⟨he, _, hn, hlife⟩ := chk_parts hc
  rw [List.map_append, List.map_cons] at hn
  obtain ⟨hpre, hpost⟩ := nodes_apart _ _ _ _ hn
  have hpre' : ∀ x ∈ pre, x.f0 ≠ m.f0 := fun x hx => by have := hpre x.f0 (List.mem_map_of_mem hx); omega
  have hm := hlife m (by simp)
  have hlen : (pre ++ m :: post).length = pre.length + 1 + post.length := by simp; omega
  have hx : (pre ++ m :: post)[pre.length]? = some m := by simp
  have hw : wrap64 (m.f1 + 1) = m.f1 + 1 := by unfold wrap64; omega
  unfold view_Up.f view_find.f
  rw [Option.bind_some, find_at hpre', view_Check_f e _ hl k (by omega), Option.bind_some, if_pos hc, Int.zero_add, if_neg (by omega), if_pos (by omega), if_pos (by omega), rd_M hx]
  unfold turnF
  by_cases h1 : m.f2 = true
  · rw [if_pos h1, if_pos h1]
    rfl
  · rw [if_neg h1, if_neg h1]
    by_cases h2 : e = 1099511627775
    · rw [if_pos (by omega), if_pos h2]
    · rw [if_neg (by omega), if_neg h2]
      by_cases h3 : m.f1 = 1099511627775
      · rw [if_pos (by omega), if_pos ⟨rfl, h3⟩]
      · rw [if_neg (by omega), if_neg (fun h => h3 h.2), hw, step_at e pre post m _ _ _ hl (by omega)]
        rfl
theorem view_Turn_none (e : Int) (l : List S53) (node : Int) (hl : l.length ≤ 1000) (hc : chkF e l = true) (hn : ∀ x ∈ l, x.f0 ≠ node) (k : Nat) (hk : l.length + 10 < k) :
    view_Down.f k e l node = some (0, [], 4) ∧ view_Up.f k e l node = some (0, [], 4) := by
  unfold view_Down.f view_Up.f view_find.f
  rw [Option.bind_some, find_none hn, view_Check_f e _ hl k (by omega), Option.bind_some, if_pos hc, if_pos (by omega)]
  rw [Option.bind_some, Option.bind_some, if_pos hc, if_pos (by omega)]
  exact ⟨rfl, rfl⟩
theorem awake60 : caduceuslaw14_awake.f 60 = some true := by kernel_rfl
theorem awake_f (k : Nat) (hk : 60 ≤ k) : caduceuslaw14_awake.f k = some true := lift (f := fun k => caduceuslaw14_awake.f k) (fun k => caduceuslaw14_awake.mono k) hk awake60
def newM (n : Int) : S53 := ⟨n, 1, true⟩
theorem view_First_l0 (l : List Int) (hl : l.length ≤ 1000) (e : Int) : ∀ (r : List Int) (i k : Nat) (acc : List S53), l.drop i = r → i + r.length = l.length → acc.length = i → r.length < k → view_First.l0 k l (l.length : Int) (i : Int) e acc = some (e, acc ++ r.map newM, 0) := by
  intro r
  induction r with
  | nil =>
    intro i k acc hd hi ha hk
    obtain ⟨k, rfl⟩ : ∃ q, k = q + 1 := ⟨k - 1, by simp at hk; omega⟩
    simp only [view_First.l0]
    rw [if_neg (by simp at hi; omega)]
    simp
  | cons x r ih =>
    intro i k acc hd hi ha hk
    obtain ⟨k, rfl⟩ : ∃ q, k = q + 1 := ⟨k - 1, by simp at hk; omega⟩
    obtain ⟨hx, hlt, hd2⟩ := drop_parts hd
    simp only [view_First.l0]
    rw [if_pos (by omega), if_pos (by omega), if_pos (by omega), if_pos (by omega), rd_int hx, wrapn (by omega), ih (i + 1) k _ hd2 (by simp at hi; omega) (by simp; omega) (by simp at hk; omega)]
    simp [newM]
def firstF (l : List Int) : Int × List S53 × Int := if l.length = 0 then (0, [], 1) else if nodesF none l then (1, l.map newM, 0) else (0, [], 1)
theorem view_First_f (l : List Int) (hl : l.length ≤ 1000) (k : Nat) (hk : l.length + 2 < k) : view_First.f k l = some (firstF l) := by
  obtain ⟨k, rfl⟩ : ∃ q, k = q + 1 := ⟨k - 1, by omega⟩
  unfold view_First.f firstF
  by_cases h : l.length = 0
  · rw [if_pos (by omega), if_pos h, view_First.j0, if_pos rfl]
  · rw [if_neg (by omega), if_neg h, ring_Nodes_f l hl _ (by omega), Option.bind_some, view_First.j0]
    by_cases h2 : nodesF none l = true
    · rw [if_neg (by rw [h2]; decide), if_pos h2]
      have h3 := view_First_l0 l hl 1 l 0 k [] rfl (by omega) rfl (by omega)
      rw [show ((0 : Nat) : Int) = 0 from rfl] at h3
      rw [h3, List.nil_append]
    · have h2' : nodesF none l = false := by simpa using h2
      rw [if_pos (by rw [h2']; rfl), if_neg h2]
def eqM (y x : S53) : Bool := y.f0 == x.f0 && (y.f1 == x.f1 && (y.f2 == x.f2))
theorem memM_any (l : List S53) (x : S53) : memM l x = l.any (fun y => eqM y x) := by
  unfold memM eqM
  congr 1
  funext y
  rw [Bool.eq_iff_iff]
  simp only [Bool.and_eq_true, beq_iff_eq]
  constructor
  · rintro ⟨a, b, c⟩; exact ⟨a.symm, b.symm, c.symm⟩
  · rintro ⟨a, b, c⟩; exact ⟨a.symm, b.symm, c.symm⟩
def goneF (e1 : Int) (A : List S53) (e2 : Int) (B : List S53) : List Int := if chkF e1 A = true ∧ chkF e2 B = true then goneOf A B else []
theorem view_Gone_f (e1 e2 : Int) (A B : List S53) (hA : A.length ≤ 100) (hB : B.length ≤ 100) (k : Nat) (hk : 40000 ≤ k) : view_Gone.f k e1 A e2 B = some (goneF e1 A e2 B) := by
  unfold view_Gone.f goneF
  rw [view_Check_f e1 A (by omega) k (by omega), Option.bind_some, view_Check_f e2 B (by omega) k (by omega), Option.bind_some]
  by_cases h1 : chkF e1 A = true
  · rw [if_pos h1]
    by_cases h2 : chkF e2 B = true
    · rw [if_pos h2, if_pos (by omega), if_pos (by omega), if_pos (by omega), if_pos ⟨h1, h2⟩]
    · rw [if_neg h2, if_neg (fun h => h2 h.2)]
  · rw [if_neg h1, if_neg (fun h => h1 h.1)]

theorem goneF_yes {e1 e2 : Int} {A B : List S53} (h1 : chkF e1 A = true) (h2 : chkF e2 B = true) : goneF e1 A e2 B = goneOf A B := if_pos ⟨h1, h2⟩
theorem memM_iff (l : List S53) (x : S53) : memM l x = true ↔ x ∈ l := by
  rw [memM_any, List.any_eq_true]
  constructor
  · rintro ⟨y, hy, h⟩
    unfold eqM at h
    simp only [Bool.and_eq_true, beq_iff_eq] at h
    obtain ⟨h1, h2, h3⟩ := h
    have : y = x := by cases y; cases x; simp_all
    rw [← this]; exact hy
  · intro h
    exact ⟨x, h, by unfold eqM; simp⟩
/-- The member that turned. -/
def turnM (m : S53) (up : Bool) : S53 := ⟨m.f0, if up then m.f1 + 1 else m.f1, up⟩
theorem turn_cases (e : Int) (l : List S53) (node : Int) (up : Bool) (hl : l.length ≤ 900) (hc : chkF e l = true) (k : Nat) (hk : l.length + 10 < k) :
    (∃ e1 l1 x, (if up then view_Up.f k e l node else view_Down.f k e l node) = some (e1, l1, x) ∧ x ≠ 0) ∨
    ∃ pre m post, l = pre ++ m :: post ∧ m.f0 = node ∧ m.f2 = !up ∧ e ≠ 1099511627775 ∧ (up = true → m.f1 ≠ 1099511627775) ∧ (if up then view_Up.f k e l node else view_Down.f k e l node) = some (e + 1, pre ++ turnM m up :: post, 0) := by
  by_cases hn : ∀ x ∈ l, x.f0 ≠ node
  · obtain ⟨h1, h2⟩ := view_Turn_none e l node (by omega) hc hn k hk
    left
    refine ⟨0, [], 4, ?_, by decide⟩
    cases up with
    | true => exact h2
    | false => exact h1
  · obtain ⟨m, hm, hmn⟩ : ∃ m ∈ l, m.f0 = node := by
      rcases Classical.em (∃ m ∈ l, m.f0 = node) with h | h
      · exact h
      · exact absurd (fun x hx hxn => h ⟨x, hx, hxn⟩) hn
    obtain ⟨pre, post, rfl⟩ := List.append_of_mem hm
    subst hmn
    have hx : (if up then view_Up.f k e (pre ++ m :: post) m.f0 else view_Down.f k e (pre ++ m :: post) m.f0) = some (turnF e pre post m up) := by
      cases up with
      | true => exact view_Up_found e pre post m (by omega) hc k hk
      | false => exact view_Down_found e pre post m (by omega) hc k hk
    rw [hx]
    unfold turnF
    by_cases h1 : m.f2 = up
    · rw [if_pos h1]
      exact .inl ⟨0, [], _, rfl, by split <;> decide⟩
    · rw [if_neg h1]
      by_cases h2 : e = 1099511627775
      · rw [if_pos h2]
        exact .inl ⟨0, [], 13, rfl, by decide⟩
      · rw [if_neg h2]
        by_cases h3 : up = true ∧ m.f1 = 1099511627775
        · rw [if_pos h3]
          exact .inl ⟨0, [], 13, rfl, by decide⟩
        · rw [if_neg h3]
          exact .inr ⟨pre, m, post, rfl, rfl, by cases hm2 : m.f2 <;> cases hu : up <;> simp_all, h2, fun hu hf => h3 ⟨hu, hf⟩, rfl⟩
theorem chk_turn {e : Int} {pre post : List S53} {m : S53} {up : Bool} (hc : chkF e (pre ++ m :: post) = true) (he : e ≠ 1099511627775) (hf : up = true → m.f1 ≠ 1099511627775) : chkF (e + 1) (pre ++ turnM m up :: post) = true := by
  obtain ⟨he2, _, hn, hlife⟩ := chk_parts hc
  have hm := hlife m (by simp)
  unfold chkF
  have h1 : (pre ++ turnM m up :: post).map (·.f0) = (pre ++ m :: post).map (·.f0) := by simp [turnM]
  have h3 : (pre ++ turnM m up :: post).all (fun m => countB m.f1) = true := by
    rw [List.all_eq_true]
    intro x hx
    rcases List.mem_append.1 hx with hx | hx
    · have := hlife x (by simp [hx])
      unfold countB
      simp [this]
    · rcases List.mem_cons.1 hx with rfl | hx
      · unfold countB turnM
        cases up with
        | true => have := hf rfl; simp; omega
        | false => simp; omega
      · have := hlife x (by simp [hx])
        unfold countB
        simp [this]
  rw [h1, h3, hn]
  unfold countB
  simp
  omega
/-- Place by place: all stay but the one that turned. -/
theorem turn_at {e : Int} {pre post : List S53} {m : S53} {up : Bool} (hc : chkF e (pre ++ m :: post) = true) (j : Nat) (a b : S53) (ha : (pre ++ m :: post)[j]? = some a) (hb : (pre ++ turnM m up :: post)[j]? = some b) :
    (a = b ∧ a.f0 ≠ m.f0) ∨ (a = m ∧ b = turnM m up) := by
  obtain ⟨_, _, hn, _⟩ := chk_parts hc
  rw [List.map_append, List.map_cons] at hn
  obtain ⟨hpre, hpost⟩ := nodes_apart _ _ _ _ hn
  rcases Nat.lt_trichotomy j pre.length with h | h | h
  · rw [List.getElem?_append_left h] at ha hb
    rw [ha] at hb
    obtain rfl := Option.some.inj hb
    have := hpre a.f0 (List.mem_map_of_mem (List.mem_of_getElem? ha))
    exact .inl ⟨rfl, by omega⟩
  · subst h
    rw [List.getElem?_append_right (by omega), Nat.sub_self] at ha hb
    obtain rfl := Option.some.inj ha
    obtain rfl := Option.some.inj hb
    exact .inr ⟨rfl, rfl⟩
  · obtain ⟨d, hd⟩ : ∃ d, j - pre.length = d + 1 := ⟨j - pre.length - 1, by omega⟩
    rw [List.getElem?_append_right (by omega), hd, List.getElem?_cons_succ] at ha hb
    rw [ha] at hb
    obtain rfl := Option.some.inj hb
    have := hpost a.f0 (List.mem_map_of_mem (List.mem_of_getElem? ha))
    exact .inl ⟨rfl, by omega⟩
theorem gone_turn {e : Int} {pre post : List S53} {m : S53} {up : Bool} (hc : chkF e (pre ++ m :: post) = true) (hu : m.f2 = !up) : goneOf (pre ++ m :: post) (pre ++ turnM m up :: post) = if up then [] else [m.f0] := by
  obtain ⟨_, _, hn, _⟩ := chk_parts hc
  rw [List.map_append, List.map_cons] at hn
  obtain ⟨hpre, hpost⟩ := nodes_apart _ _ _ _ hn
  have hin : ∀ x, x ∈ pre ∨ x ∈ post → memM (pre ++ turnM m up :: post) x = true := by
    intro x hx
    rw [memM_iff]
    rcases hx with hx | hx
    · simp [hx]
    · simp [hx]
  have e1 : (pre.filter (·.f2)).filter (fun x => !memM (pre ++ turnM m up :: post) x) = [] := by
    rw [List.filter_eq_nil_iff]
    intro x hx
    have := hin x (.inl (List.mem_filter.1 hx).1)
    simp [this]
  have e2 : (post.filter (·.f2)).filter (fun x => !memM (pre ++ turnM m up :: post) x) = [] := by
    rw [List.filter_eq_nil_iff]
    intro x hx
    have := hin x (.inr (List.mem_filter.1 hx).1)
    simp [this]
  unfold goneOf
  rw [List.filter_append, List.filter_append, e1, List.nil_append]
  cases up with
  | true =>
    rw [List.filter_cons_of_neg (by simp [hu]), e2]
    rfl
  | false =>
    have hnm : memM (pre ++ turnM m false :: post) m = false := by
      rw [Bool.eq_false_iff]
      intro h
      rw [memM_iff] at h
      rcases List.mem_append.1 h with h | h
      · have := hpre m.f0 (List.mem_map_of_mem h); omega
      · rcases List.mem_cons.1 h with h | h
        · have := congrArg S53.f2 h
          rw [hu] at this
          simp [turnM] at this
        · have := hpost m.f0 (List.mem_map_of_mem h); omega
    rw [List.filter_cons_of_pos (by simp [hu]), List.filter_cons_of_pos (by simp [hnm]), e2]
    rfl
theorem rd_step {l : List S51} {i : Nat} {x : S51} (h : l[i]? = some x) : rd_T51 l (i : Int) = x := by
  unfold rd_T51; rw [Int.toNat_natCast, List.getD_eq_getElem?_getD, h]; rfl
theorem rises_l1 (steps : List S51) (i : Nat) (s : S51) (hs : steps[i]? = some s) (e : Int) (pre post : List S53) (m : S53) (hl : (pre ++ m :: post).length ≤ 100) (hc : chkF e (pre ++ m :: post) = true) (hn : m.f0 = s.f0) (hu : m.f2 = !s.f1) (he : e ≠ 1099511627775) (hf : s.f1 = true → m.f1 ≠ 1099511627775) (K : Nat)
    (hR : ∀ k, K ≤ k → caduceuslaw14_ViewRises.l0 k steps ((i + 1 : Nat) : Int) (e + 1) (pre ++ turnM m s.f1 :: post) = some true) (hi : i ≤ 1000) :
    ∀ (d j k : Nat), j + d = (pre ++ m :: post).length → d + K + 40000 < k → caduceuslaw14_ViewRises.l1 k steps (i : Int) (j : Int) e (pre ++ m :: post) (e + 1) (pre ++ turnM m s.f1 :: post) = some true := by
  have hil : i < steps.length := (List.getElem?_eq_some_iff.1 hs).1
  have hlen : (pre ++ turnM m s.f1 :: post).length = (pre ++ m :: post).length := by simp
  have hc2 := chk_turn hc he hf
  intro d
  induction d with
  | zero =>
    intro j k hj hk
    obtain ⟨k, rfl⟩ : ∃ q, k = q + 1 := ⟨k - 1, by omega⟩
    have hg := gone_turn (up := s.f1) hc hu
    have hr := hR k (by omega)
    simp only [caduceuslaw14_ViewRises.l1]
    rw [if_neg (by rw [hlen]; omega), view_Gone_f e (e + 1) _ _ (by omega) (by rw [hlen]; omega) k (by omega), Option.bind_some, if_pos (by omega), if_pos (by omega), rd_step hs, wrapn (by omega)]
    rw [goneF_yes hc hc2, hg]
    by_cases hup : s.f1 = true
    · rw [if_pos hup, if_pos hup, if_pos (by rfl), if_pos hup]
      exact hr
    · rw [if_neg hup, if_neg hup, if_neg hup, if_pos (by rfl), if_pos (by simp), if_pos (show rd [m.f0] 0 = s.f0 from hn)]
      exact hr
  | succ d ih =>
    intro j k hj hk
    obtain ⟨k, rfl⟩ : ∃ q, k = q + 1 := ⟨k - 1, by omega⟩
    have hjl : j < (pre ++ m :: post).length := by omega
    have hjl2 : j < (pre ++ turnM m s.f1 :: post).length := by omega
    have ha := List.getElem?_eq_getElem hjl
    have hb := List.getElem?_eq_getElem hjl2
    have ht := turn_at (up := s.f1) hc j _ _ ha hb
    have ih2 := ih (j + 1) k (by omega) (by omega)
    have hlm := (chk_parts hc).2.2.2 m (by simp)
    generalize (pre ++ m :: post)[j] = a at ha ht
    generalize (pre ++ turnM m s.f1 :: post)[j] = b at hb ht
    simp only [caduceuslaw14_ViewRises.l1]
    rw [if_pos (by omega), if_pos (by omega), if_pos (by omega), if_pos (show (0 : Int) ≤ (i : Int) by omega), if_pos (show (i : Int) < (steps.length : Int) by omega), rd_M ha, rd_M hb, rd_step hs, wrapn (by omega)]
    rcases ht with ⟨rfl, hne⟩ | ⟨rfl, rfl⟩
    · rw [if_pos rfl, if_neg (by omega), if_neg (by simp)]
      exact ih2
    · have h1 : (turnM a s.f1).f0 = a.f0 := rfl
      have h2 : (turnM a s.f1).f2 = s.f1 := rfl
      have h3 : (turnM a s.f1).f1 = if s.f1 then a.f1 + 1 else a.f1 := rfl
      rw [h1, h2, h3, if_pos rfl, if_pos hn, if_neg (by simp), if_neg (by rw [hu]; cases s.f1 <;> decide), if_neg (by split <;> omega)]
      by_cases hup : s.f1 = true
      · rw [if_pos hup, if_pos (by rw [if_pos hup]; unfold wrap64; omega)]
        exact ih2
      · rw [if_neg hup]
        exact ih2
set_option maxRecDepth 100000 in
theorem rises_l0 (steps : List S51) : ∀ (d i k : Nat) (e : Int) (l : List S53), i + d = 40 → l.length ≤ 100 → chkF e l = true → d * 50000 + 50000 < k → caduceuslaw14_ViewRises.l0 k steps (i : Int) e l = some true := by
  have hend : ∀ (i k : Nat) (e : Int) (l : List S53), 100 ≤ k → caduceuslaw14_ViewRises.j1 k steps (i : Int) false e l = some true := by
    intro i k e l hk
    obtain ⟨k, rfl⟩ : ∃ q, k = q + 1 := ⟨k - 1, by omega⟩
    simp only [caduceuslaw14_ViewRises.j1]
    rw [if_neg (by decide), awake_f _ (by omega)]
    rfl
  intro d
  induction d with
  | zero =>
    intro i k e l hi hl hc hk
    obtain ⟨k, rfl⟩ : ∃ q, k = q + 1 := ⟨k - 1, by omega⟩
    simp only [caduceuslaw14_ViewRises.l0]
    rw [decide_eq_false (by omega), hend i k e l (by omega)]
    split <;> rfl
  | succ d ih =>
    intro i k e l hi hl hc hk
    obtain ⟨k, rfl⟩ : ∃ q, k = q + 4 := ⟨k - 4, by omega⟩
    rw [Nat.succ_mul] at hk
    generalize hD : d * 50000 = D at *
    have hk1 : D + 50000 < k + 1 := by omega
    have hk2 : ∀ k', D + 50001 ≤ k' → D + 50000 < k' := fun k' h => h
    have hk4 : D + 90200 < k := by omega
    have hk3 : ∀ n : Nat, n ≤ 100 → n + (D + 50001) + 40000 < k := fun n hn => Nat.lt_of_le_of_lt (by omega) hk4
    simp only [caduceuslaw14_ViewRises.l0]
    by_cases hlt : (i : Int) < (steps.length : Int)
    · rw [if_pos hlt, decide_eq_true (by omega)]
      have hil : i < steps.length := by omega
      obtain ⟨s, hs⟩ : ∃ s, steps[i]? = some s := ⟨_, List.getElem?_eq_getElem hil⟩
      simp only [caduceuslaw14_ViewRises.j1]
      rw [if_pos trivial, if_pos (by omega), if_pos hlt, rd_step hs]
      -- Down answers, whatever it is
      obtain ⟨xd, hxd⟩ : ∃ x, view_Down.f (k + 2) e l s.f0 = some x := by
        rcases turn_cases e l s.f0 false (by omega) hc (k + 2) (by omega) with ⟨e1, l1, x, h, _⟩ | ⟨pre, m, post, _, _, _, _, _, h⟩
        · exact ⟨_, h⟩
        · exact ⟨_, h⟩
      have key : ∀ (e1 : Int) (l1 : List S53) (x : Int), (if s.f1 then view_Up.f (k + 2) e l s.f0 else view_Down.f (k + 2) e l s.f0) = some (e1, l1, x) → caduceuslaw14_ViewRises.j2 (k + 2) steps (i : Int) x e l e1 l1 = some true := by
        intro e1 l1 x hx
        simp only [caduceuslaw14_ViewRises.j2]
        rcases turn_cases e l s.f0 s.f1 (by omega) hc (k + 2) (by omega) with ⟨e2, l2, x2, h, hx2⟩ | ⟨pre, m, post, rfl, hn, hu, he, hf, h⟩
        · rw [h] at hx
          have hx := Option.some.inj hx
          simp only [Prod.mk.injEq] at hx
          obtain ⟨rfl, rfl, rfl⟩ := hx
          rw [if_neg hx2, wrapn (by omega)]
          exact ih (i + 1) (k + 1) e l (by omega) hl hc hk1
        · rw [h] at hx
          have hx := Option.some.inj hx
          simp only [Prod.mk.injEq] at hx
          obtain ⟨rfl, rfl, rfl⟩ := hx
          have hlen : (pre ++ turnM m s.f1 :: post).length = (pre ++ m :: post).length := by simp
          have he2 := (chk_parts hc).1
          rw [if_pos rfl, view_Check_f _ _ (by omega) _ (by omega), Option.bind_some, chk_turn hc he hf, if_pos rfl, if_pos (by unfold wrap64; omega)]
          simp only [caduceuslaw14_ViewRises.j3]
          rw [if_neg (by rw [hlen]; simp)]
          exact rises_l1 steps i s hs e pre post m hl hc hn hu he hf (D + 50001) (fun k' hk' => ih (i + 1) k' (e + 1) _ (by omega) (by rw [hlen]; exact hl) (chk_turn hc he hf) (hk2 k' hk')) (by omega) (pre ++ m :: post).length 0 k (Nat.zero_add _) (hk3 _ hl)
      rw [hxd, Option.bind_some]
      by_cases hup : s.f1 = true
      · rw [if_pos hup]
        obtain ⟨xu, hxu⟩ : ∃ x, view_Up.f (k + 2) e l s.f0 = some x := by
          rcases turn_cases e l s.f0 true (by omega) hc (k + 2) (by omega) with ⟨e1, l1, x, h, _⟩ | ⟨pre, m, post, _, _, _, _, _, h⟩
          · exact ⟨_, h⟩
          · exact ⟨_, h⟩
        rw [hxu, Option.bind_some]
        exact key _ _ _ (by rw [if_pos hup, hxu])
      · rw [if_neg hup]
        exact key _ _ _ (by rw [if_neg hup, hxd])
    · rw [if_neg hlt]
      exact hend i (k + 3) e l (by omega)
theorem nodes_l0' (l : List Int) (hl : l.length < 9223372036854775808) : ∀ (d k i : Nat), i + d = l.length → d < k → ring_Nodes.l0 k l l (l.length : Int) (i : Int) = some ((List.range' i d).all (okAt l)) := by
  intro d
  induction d with
  | zero =>
    intro k i h hk
    obtain ⟨k, rfl⟩ : ∃ m, k = m + 1 := ⟨k - 1, by omega⟩
    simp only [ring_Nodes.l0]
    rw [if_neg (by omega)]
    rfl
  | succ d ih =>
    intro k i h hk
    obtain ⟨k, rfl⟩ : ∃ m, k = m + 1 := ⟨k - 1, by omega⟩
    have ihh := ih k (i + 1) (by omega) (by omega)
    rw [List.range'_succ, List.all_cons]
    simp only [ring_Nodes.l0]
    rw [if_pos (by omega), if_pos (by omega), if_pos (by omega), node_is, Option.bind_some, rd_at, show wrap64 ((i : Int) + 1) = (i : Int) + 1 from by unfold wrap64; omega, show ((i : Int) + 1) = ((i + 1 : Nat) : Int) from by omega, ihh]
    unfold okAt
    by_cases h1 : 1 ≤ l.getD i 0 ∧ l.getD i 0 ≤ 15
    · rw [decide_eq_true h1, if_pos rfl]
      by_cases h2 : (i : Int) > 0
      · rw [if_pos h2, show wrap64 ((i : Int) - 1) = (i : Int) - 1 from by unfold wrap64; omega, if_pos (by omega), if_pos (by omega), show ((i : Int) - 1) = ((i - 1 : Nat) : Int) from by omega, rd_at]
        by_cases h3 : l.getD (i - 1) 0 ≥ l.getD i 0
        · rw [if_pos h3, decide_eq_false (by omega)]; rfl
        · rw [if_neg h3, decide_eq_true (by omega)]; rfl
      · rw [if_neg h2, decide_eq_true (by omega)]; rfl
    · rw [decide_eq_false h1, if_neg (by decide), decide_eq_false (by omega)]; rfl
theorem nodes_is' (l : List Int) (hl : l.length < 9223372036854775808) (k : Nat) (hk : l.length < k) : ring_Nodes.f k l = some (nodesB l) := nodes_l0' l hl l.length k 0 (by omega) hk
theorem nodes_same (l : List Int) (hl : l.length ≤ 1000) : nodesF none l = nodesB l := by
  have a := ring_Nodes_f l hl (l.length + 1) (by omega)
  have b := nodes_is l (by omega) (l.length + 1) (by omega)
  rw [a] at b
  exact Option.some.inj b
theorem ViewRises : caduceuslaw14_ViewRises.Pure := by
  intro l steps _ hlm _ _
  have hlm : l.length < 9223372036854775808 := by unfold maxLen at hlm; omega
  refine ⟨l.length + 3000000, ?_⟩
  unfold caduceuslaw14_ViewRises.f
  have hbad : view_First.f (l.length + 3000000) l = some (0, [], 1) → ((view_First.f (l.length + 3000000) l).bind fun bt215 => (if bt215.2.2 = 0 then (caduceuslaw14_ViewRises.l0 (l.length + 3000000) steps 0 bt215.1 bt215.2.1) else ((caduceuslaw14_awake.f (l.length + 3000000)).bind fun t221 => (if t221 = true then ((view_Check.f (l.length + 3000000) bt215.1 bt215.2.1).bind fun t222 => (some (!t222))) else none)))) = some true := by
    intro h
    rw [h, Option.bind_some]
    show (if (1 : Int) = 0 then _ else _) = _
    rw [if_neg (by decide), awake_f _ (by omega), Option.bind_some, if_pos rfl, view_Check_f 0 [] (by simp) _ (by simp)]
    rfl
  by_cases h0 : l.length = 0
  · refine hbad ?_
    unfold view_First.f
    rw [if_pos (by omega), view_First.j0, if_pos rfl]
  · by_cases hb : nodesB l = true
    · have h15 := nodesB_len hb
      have hfirst : view_First.f (l.length + 3000000) l = some (1, l.map newM, 0) := by
        rw [view_First_f l (by omega) _ (by omega)]
        unfold firstF
        rw [if_neg h0, nodes_same l (by omega), if_pos hb]
      rw [hfirst, Option.bind_some]
      show (if (0 : Int) = 0 then _ else _) = _
      rw [if_pos rfl]
      refine rises_l0 steps 40 0 _ 1 (l.map newM) (by omega) (by rw [List.length_map]; omega) ?_ (by omega)
      unfold chkF
      have e1 : (l.map newM).map (·.f0) = l := by rw [List.map_map]; simp [Function.comp_def, newM]
      have e2 : (l.map newM).all (fun m => countB m.f1) = true := by rw [List.all_eq_true]; intro x hx; obtain ⟨n, _, rfl⟩ := List.mem_map.1 hx; rfl
      rw [e1, e2, nodes_same l (by omega), hb]
      unfold countB
      simp
      omega
    · refine hbad ?_
      unfold view_First.f
      rw [if_neg (by omega), nodes_is' l hlm _ (by omega), Option.bind_some, Bool.eq_false_iff.2 hb, view_First.j0, if_pos (by rfl)]

end Go.Proofs.Ytpdalofhekmbeaa.Pure
