/- The law ViewHeirs, plain: over the printed functions; lemmas of the layers ring, name and view, and the law itself. -/
import Derived.Test.YtpdalofhekmbeaaDoorPViewHeirsy
import Derived.Lib.MapLaws
import Derived.Lib.ValidAsc
import Derived.Lib.SplitLaws
namespace Go.Proofs.YtpdalofhekmbeaaDoor.Pure
open Go.Lib Go.Shelf Go.RowKit Go.Proofs.YtpdalofhekmbeaaDoor.PViewHeirs Go.Proofs.YtpdalofhekmbeaaDoorW.PrintWords Go.Proofs.YtpdalofhekmbeaaDoorW.PrintLast Go.Proofs.YtpdalofhekmbeaaDoorW.PrintMore
set_option linter.unusedSimpArgs false
set_option linter.unusedVariables false
namespace RQ
variable {P : Int → Int}
def ah (P : Int → Int) (a b : Int) : Prop := P a < P b ∨ (P a = P b ∧ a < b)
instance (P : Int → Int) (a b : Int) : Decidable (ah P a b) := inferInstanceAs (Decidable (_ ∨ _))
theorem ah_as {a b : Int} (h : ah P a b) (k : ah P b a) : False := by unfold ah at *; omega
theorem ah_le {a b : Int} (h : ah P a b) : P a ≤ P b := by unfold ah at *; omega
theorem ah_irr {a : Int} (h : ah P a a) : False := ah_as h h
theorem ah_tot {a b : Int} (h : a ≠ b) : ah P a b ∨ ah P b a := by unfold ah; omega
theorem sorted_eq {s t : List Int} (hs : s.Pairwise (ah P)) (ht : t.Pairwise (ah P)) (h : s.Perm t) : s = t :=
  List.Perm.eq_of_pairwise (fun _ _ _ _ h1 h2 => (ah_as h1 h2).elim) hs ht h
/-- A ring cut at a key. -/
def heirsZ (P : Int → Int) (key : Int) (s : List Int) : List Int := s.filter (fun x => decide (key ≤ P x)) ++ s.filter (fun x => !decide (key ≤ P x))
theorem cut_at {s : List Int} (hs : s.Pairwise (ah P)) (key : Int) (i : Nat) (h1 : ∀ x, x ∈ s.take i → P x < key) (h2 : ∀ x, (s.drop i).head? = some x → key ≤ P x) :
    s.filter (fun x => decide (key ≤ P x)) = s.drop i ∧ s.filter (fun x => !decide (key ≤ P x)) = s.take i := by
  have hd : ∀ x, x ∈ s.drop i → key ≤ P x := by
    intro x hx
    have hp : (s.drop i).Pairwise (ah P) := List.Pairwise.sublist (List.drop_sublist i s) hs
    cases hq : s.drop i with
    | nil => rw [hq] at hx; cases hx
    | cons y ys =>
      rw [hq] at hx hp h2
      have hy := h2 y rfl
      rcases List.mem_cons.1 hx with rfl | hx
      · exact hy
      · have := ah_le ((List.pairwise_cons.1 hp).1 x hx)
        omega
  have e : s = s.take i ++ s.drop i := (List.take_append_drop i s).symm
  constructor
  · conv => lhs; rw [e]
    rw [List.filter_append, List.filter_eq_nil_iff.2 (by intro x hx; have := h1 x hx; simp; omega), List.filter_eq_self.2 (by intro x hx; have := hd x hx; simp; omega), List.nil_append]
  · conv => lhs; rw [e]
    rw [List.filter_append, List.filter_eq_self.2 (by intro x hx; have := h1 x hx; simp; omega), List.filter_eq_nil_iff.2 (by intro x hx; have := hd x hx; simp; omega), List.append_nil]
theorem heirs_at {s : List Int} (hs : s.Pairwise (ah P)) (key : Int) (i : Nat) (h1 : ∀ x, x ∈ s.take i → P x < key) (h2 : ∀ x, (s.drop i).head? = some x → key ≤ P x) : heirsZ P key s = s.drop i ++ s.take i := by
  obtain ⟨a, b⟩ := cut_at hs key i h1 h2
  unfold heirsZ
  rw [a, b]
theorem heirs_perm (key : Int) (s : List Int) : (heirsZ P key s).Perm s := List.filter_append_perm _ s
theorem heirs_mem (key : Int) (s : List Int) (x : Int) : x ∈ heirsZ P key s ↔ x ∈ s := (heirs_perm key s).mem_iff
theorem heirs_len (key : Int) (s : List Int) : (heirsZ P key s).length = s.length := (heirs_perm key s).length_eq
theorem heirs_filter (key : Int) (s : List Int) (p : Int → Bool) : heirsZ P key (s.filter p) = (heirsZ P key s).filter p := by
  unfold heirsZ
  rw [List.filter_append]
  simp only [List.filter_filter]
  congr 1 <;> (apply List.filter_congr; intro x _; exact Bool.and_comm _ _)
/-- The first place of an element for which p holds, or -1. -/
def idxQ (p : Int → Bool) : List Int → Int → Int
  | [], _ => -1
  | x :: l, i => if p x then i else idxQ p l (i + 1)
theorem idxQ_spec (p : Int → Bool) : ∀ (l : List Int) (i : Int), (idxQ p l i = -1 ∧ ∀ x, x ∈ l → p x = false) ∨ ∃ j : Nat, idxQ p l i = i + j ∧ (∀ x, x ∈ l.take j → p x = false) ∧ ∃ x, (l.drop j).head? = some x ∧ p x = true
  | [], i => .inl ⟨rfl, by intro x hx; cases hx⟩
  | y :: l, i => by
    unfold idxQ
    by_cases h : p y = true
    · right
      rw [if_pos h]
      exact ⟨0, by simp, (by intro x hx; cases hx), y, rfl, h⟩
    · rw [if_neg h]
      have h := Bool.eq_false_iff.2 h
      rcases idxQ_spec p l (i + 1) with ⟨h1, h2⟩ | ⟨j, h1, h2, x, h3, h4⟩
      · exact .inl ⟨h1, by intro x hx; rcases List.mem_cons.1 hx with rfl | hx; exact h; exact h2 x hx⟩
      · right
        refine ⟨j + 1, by rw [h1]; omega, ?_, x, h3, h4⟩
        intro z hz
        rcases List.mem_cons.1 hz with rfl | hz
        · exact h
        · exact h2 z hz
/-- The program's cut: the place of the first one at or behind the key, or 0. -/
theorem heirs_idx {s : List Int} (hs : s.Pairwise (ah P)) (key : Int) :
    s.drop (max (idxQ (fun x => decide (key ≤ P x)) s 0) 0).toNat ++ s.take (max (idxQ (fun x => decide (key ≤ P x)) s 0) 0).toNat = heirsZ P key s := by
  rcases idxQ_spec (fun x => decide (key ≤ P x)) s 0 with ⟨h1, h2⟩ | ⟨j, h1, h2, x, h3, h4⟩
  · rw [h1]
    have h2' : ∀ x, x ∈ s → P x < key := by intro x hx; have := h2 x hx; simp at this; omega
    have := heirs_at hs key s.length (by intro x hx; rw [List.take_length] at hx; exact h2' x hx) (by intro x hx; simp at hx)
    rw [this, show (max (-1 : Int) 0).toNat = 0 from rfl]
    simp
  · rw [h1]
    have e : (max (0 + (j : Int)) 0).toNat = j := by omega
    rw [e]
    refine (heirs_at hs key j ?_ ?_).symm
    · intro x hx
      have := h2 x hx
      simp at this
      omega
    · intro y hy
      rw [h3] at hy
      injection hy with hy
      subst hy
      simpa using h4
/-- Nodes, in order. -/
def NL (l : List Int) : Prop := (∀ n, n ∈ l → 1 ≤ n ∧ n ≤ 15) ∧ l.Pairwise (· < ·)
theorem NL.nodup {l : List Int} (h : NL l) : l.Nodup := h.2.imp (fun h => by omega)
theorem NL.filter {l : List Int} (h : NL l) (p : Int → Bool) : NL (l.filter p) := ⟨fun n hn => h.1 n (List.mem_filter.1 hn).1, h.2.filter p⟩
theorem nl_len : ∀ (l : List Int) (a : Int), l.Pairwise (· < ·) → (∀ n, n ∈ l → a ≤ n ∧ n ≤ 15) → a ≤ 16 → (l.length : Int) ≤ 16 - a
  | [], a, _, _, h => by simp; omega
  | x :: l, a, hp, hm, h => by
    have hx := hm x List.mem_cons_self
    have hq := List.pairwise_cons.1 hp
    have := nl_len l (x + 1) hq.2 (fun n hn => ⟨by have := hq.1 n hn; omega, (hm n (List.mem_cons_of_mem _ hn)).2⟩) (by omega)
    simp only [List.length_cons]
    omega
theorem NL.len {l : List Int} (h : NL l) : l.length ≤ 15 := by
  have := nl_len l 1 h.2 h.1 (by omega)
  omega
/-- A ring of nodes: they in the order of their points. -/
structure IsRing (P : Int → Int) (l s : List Int) : Prop where
  perm : s.Perm l
  ord : s.Pairwise (ah P)
theorem IsRing.filter {l s : List Int} (h : IsRing P l s) (p : Int → Bool) : IsRing P (l.filter p) (s.filter p) := ⟨h.perm.filter p, h.ord.filter p⟩
theorem IsRing.uniq {l s t : List Int} (h : IsRing P l s) (k : IsRing P l t) : s = t := sorted_eq h.ord k.ord (h.perm.trans k.perm.symm)
/-- How many stand ahead. -/
def rank (P : Int → Int) (l : List Int) (x : Int) : Nat := l.countP (fun y => decide (ah P y x))
theorem rank_at {l s : List Int} (h : IsRing P l s) (j : Nat) (hj : j < s.length) : rank P l s[j] = j := by
  unfold rank
  rw [← h.perm.countP_eq]
  have ho := h.ord
  rw [List.pairwise_iff_getElem] at ho
  have e : s = s.take j ++ s[j] :: s.drop (j + 1) := by rw [List.getElem_cons_drop, List.take_append_drop]
  have h1 : (s.take j).countP (fun y => decide (ah P y s[j])) = (s.take j).length := by
    rw [List.countP_eq_length]
    intro x hx
    obtain ⟨i, hi, rfl⟩ := List.getElem_of_mem hx
    rw [List.getElem_take]
    simp only [decide_eq_true_eq]
    simp at hi
    exact ho i j (by omega) hj (by omega)
  have h2 : (s.drop (j + 1)).countP (fun y => decide (ah P y s[j])) = 0 := by
    rw [List.countP_eq_zero]
    intro x hx
    obtain ⟨i, hi, rfl⟩ := List.getElem_of_mem hx
    rw [List.getElem_drop]
    have := ho j (j + 1 + i) hj (by simp at hi; omega) (by omega)
    simp only [decide_eq_true_eq]
    exact fun k => ah_as this k
  generalize s[j] = y at *
  rw [e, List.countP_append, List.countP_cons, h1, h2, if_neg (by simp; exact fun h => ah_irr h)]
  simp
  omega
theorem filter_one {p : Int → Bool} {y : Int} : ∀ (l : List Int), l.Nodup → y ∈ l → (∀ x, x ∈ l → (p x = true ↔ x = y)) → l.filter p = [y]
  | [], _, h, _ => by cases h
  | x :: l, hn, hm, key => by
    rw [List.nodup_cons] at hn
    by_cases hx : x = y
    · subst hx
      rw [List.filter_cons_of_pos ((key x List.mem_cons_self).2 rfl), List.filter_eq_nil_iff.2]
      intro z hz hp
      have := (key z (List.mem_cons_of_mem _ hz)).1 hp
      subst this
      exact hn.1 hz
    · rw [List.filter_cons_of_neg (fun hp => hx ((key x List.mem_cons_self).1 hp))]
      refine filter_one l hn.2 ?_ (fun z hz => key z (List.mem_cons_of_mem _ hz))
      rcases List.mem_cons.1 hm with h | h
      · exact absurd h.symm hx
      · exact h
/-- Of each place one of the nodes. -/
theorem rank_pick {l s : List Int} (h : IsRing P l s) (hn : l.Nodup) (j : Nat) (hj : j < s.length) : l.filter (fun x => decide (rank P l x = j)) = [s[j]] := by
  refine filter_one l hn (h.perm.mem_iff.1 (List.getElem_mem hj)) ?_
  intro x hx
  obtain ⟨i, hi, rfl⟩ := List.getElem_of_mem (h.perm.mem_iff.2 hx)
  rw [decide_eq_true_eq, rank_at h i hi]
  constructor
  · rintro rfl; rfl
  · intro e
    have ho := h.ord
    rw [List.pairwise_iff_getElem] at ho
    rcases Nat.lt_trichotomy i j with k | k | k
    · have := ho i j hi hj k; rw [e] at this; exact (ah_irr this).elim
    · exact k
    · have := ho j i hj hi k; rw [e] at this; exact (ah_irr this).elim
/-- The document's ring: place by place. -/
theorem by_rank {l s : List Int} (h : IsRing P l s) (hn : l.Nodup) : (List.range l.length).flatMap (fun j => l.filter (fun x => decide (rank P l x = j))) = s := by
  rw [← h.perm.length_eq]
  have : ∀ m, m ≤ s.length → (List.range m).flatMap (fun j => l.filter (fun x => decide (rank P l x = j))) = s.take m := by
    intro m
    induction m with
    | zero => intro _; simp
    | succ m ih =>
      intro hm
      rw [List.range_succ, List.flatMap_append, ih (by omega)]
      simp only [List.flatMap_cons, List.flatMap_nil, List.append_nil]
      rw [rank_pick h hn m (by omega), List.take_succ_eq_append_getElem (by omega)]
  rw [this _ (Nat.le_refl _), List.take_length]
theorem nodup_sub_len : ∀ {l m : List Int}, l.Nodup → (∀ x, x ∈ l → x ∈ m) → l.length ≤ m.length
  | [], m, _, _ => Nat.zero_le _
  | x :: l, m, hn, hs => by
    rw [List.nodup_cons] at hn
    have hx := hs x List.mem_cons_self
    have h1 := nodup_sub_len (l := l) (m := m.erase x) hn.2 (fun y hy => by
      refine (List.mem_erase_of_ne ?_).2 (hs y (List.mem_cons_of_mem _ hy))
      rintro rfl
      exact hn.1 hy)
    rw [List.length_erase_of_mem hx] at h1
    have : 0 < m.length := List.length_pos_of_mem hx
    simp only [List.length_cons]
    omega
/-- The owner of a key. -/
def OwnQ (P : Int → Int) (key : Int) (s : List Int) (o : Int) : Prop := o ∈ s ∧ ((key ≤ P o ∧ ∀ x, x ∈ s → key ≤ P x → P o ≤ P x) ∨ ((∀ x, x ∈ s → P x < key) ∧ ∀ x, x ∈ s → P o ≤ P x))
theorem own_head {s : List Int} (hs : s.Pairwise (ah P)) (key o : Int) (r : List Int) (h : heirsZ P key s = o :: r) : OwnQ P key s o := by
  have hm : o ∈ s := (heirs_mem (P := P) key s o).1 (by rw [h]; exact List.mem_cons_self)
  refine ⟨hm, ?_⟩
  unfold heirsZ at h
  cases hf : s.filter (fun x => decide (key ≤ P x)) with
  | nil =>
    right
    rw [hf, List.nil_append] at h
    have hlt : ∀ x, x ∈ s → P x < key := by
      intro x hx
      have := List.filter_eq_nil_iff.1 hf x hx
      simp at this
      omega
    refine ⟨hlt, fun x hx => ?_⟩
    have hs2 : s.filter (fun x => !decide (key ≤ P x)) = s := List.filter_eq_self.2 (by intro x hx; have := hlt x hx; simp; omega)
    rw [hs2] at h
    subst h
    rcases List.mem_cons.1 hx with rfl | hx
    · exact Int.le_refl _
    · exact ah_le ((List.pairwise_cons.1 hs).1 x hx)
  | cons y ys =>
    left
    rw [hf] at h
    obtain ⟨rfl, _⟩ := List.cons.inj h
    have hp : (s.filter (fun x => decide (key ≤ P x))).Pairwise (ah P) := hs.filter _
    have hy : y ∈ s.filter (fun x => decide (key ≤ P x)) := by rw [hf]; exact List.mem_cons_self
    refine ⟨by simpa using (List.mem_filter.1 hy).2, fun x hx hk => ?_⟩
    have hx : x ∈ s.filter (fun x => decide (key ≤ P x)) := List.mem_filter.2 ⟨hx, by simpa using hk⟩
    rw [hf] at hx hp
    rcases List.mem_cons.1 hx with rfl | hx
    · exact Int.le_refl _
    · exact ah_le ((List.pairwise_cons.1 hp).1 x hx)
/-- How far from a node to a key. -/
def far (P : Int → Int) (key n : Int) : Int := (key - P n) % 18446744073709551616
theorem far_is {key n : Int} (k0 : 0 ≤ key) (k1 : key < 18446744073709551616) (p0 : 0 ≤ P n) (p1 : P n < 18446744073709551616) : far P key n = if P n ≤ key then key - P n else key - P n + 18446744073709551616 := by
  unfold far
  split <;> omega
theorem next_near {s : List Int} {key k1 from_ o nx : Int} (hb : ∀ x, x ∈ s → 0 ≤ P x ∧ P x < 18446744073709551616) (inj : ∀ x y, x ∈ s → y ∈ s → P x = P y → x = y)
    (a0 : 0 ≤ key) (a1 : key < 18446744073709551616) (hf : from_ ∈ s) (ho : OwnQ P key s o) (hk : k1 = (P from_ + 1) % 18446744073709551616) (hn : OwnQ P k1 s nx) (h1 : from_ ≠ o) (h2 : nx ≠ o) : far P key nx < far P key from_ := by
  obtain ⟨om, ho⟩ := ho
  obtain ⟨nm, hn⟩ := hn
  have bf := hb _ hf
  have bo := hb _ om
  have bn := hb _ nm
  rw [far_is a0 a1 bf.1 bf.2, far_is a0 a1 bn.1 bn.2]
  have e1 : P from_ ≠ P o := fun h => h1 (inj _ _ hf om h)
  have e2 : P nx ≠ P o := fun h => h2 (inj _ _ nm om h)
  rcases ho with ⟨u1, u2⟩ | ⟨u1, u2⟩ <;> rcases hn with ⟨v1, v2⟩ | ⟨v1, v2⟩
  · have x1 := u2 _ hf; have x2 := u2 _ nm; have y1 := v2 _ hf; have y2 := v2 _ om
    split <;> split <;> omega
  · have x1 := u2 _ hf; have x2 := u2 _ nm; have y1 := v2 _ hf; have y2 := v2 _ om; have z1 := v1 _ om; have z2 := v1 _ nm
    split <;> split <;> omega
  · have x1 := u2 _ hf; have x2 := u2 _ nm; have y1 := v2 _ hf; have y2 := v2 _ om; have z1 := u1 _ hf; have z2 := u1 _ nm; have z3 := u1 _ om
    split <;> split <;> omega
  · have x1 := u2 _ hf; have x2 := u2 _ nm; have y1 := v2 _ hf; have y2 := v2 _ om; have z1 := u1 _ hf; have z2 := u1 _ nm; have z3 := u1 _ om; have w1 := v1 _ om; have w2 := v1 _ nm
    split <;> split <;> omega
theorem next_ne {s : List Int} {k1 from_ nx y : Int} (hb : ∀ x, x ∈ s → 0 ≤ P x ∧ P x < 18446744073709551616) (inj : ∀ x y, x ∈ s → y ∈ s → P x = P y → x = y)
    (hf : from_ ∈ s) (hy : y ∈ s) (hne : y ≠ from_) (hk : k1 = (P from_ + 1) % 18446744073709551616) (hn : OwnQ P k1 s nx) : nx ≠ from_ := by
  rintro rfl
  obtain ⟨nm, hn⟩ := hn
  have bf := hb _ hf
  have bo := hb _ hy
  have e1 : P y ≠ P nx := fun h => hne (inj _ _ hy hf h)
  rcases hn with ⟨v1, v2⟩ | ⟨v1, v2⟩
  · have y1 := v2 _ hy; omega
  · have y1 := v2 _ hy; have y2 := v1 _ hy; omega
/-- A way: each step comes by another node; it ends at the owner. -/
structure IsWay (s : List Int) (hop : Int → Int) (o : Int) (w : List Int) : Prop where
  mem : ∀ x, x ∈ w → x ∈ s
  last : w.getLast? = some o
  step : ∀ i a b, w[i]? = some a → w[i + 1]? = some b → a ≠ o ∧ hop a = b
  nodup : w.Nodup
theorem way_of {s : List Int} {hop : Int → Int} {o : Int} {D : Int → Int} (ho : o ∈ s) (hD : ∀ x, 0 ≤ D x) (hh : ∀ a, a ∈ s → a ≠ o → hop a ∈ s ∧ (hop a = o ∨ hop a ≠ o ∧ D (hop a) < D a)) :
    ∀ (d : Nat) (a : Int), a ∈ s → (D a).toNat < d → ∃ w, IsWay s hop o (a :: w) ∧ ∀ x, x ∈ w → x = o ∨ D x < D a := by
  intro d
  induction d with
  | zero => intro a _ h; omega
  | succ d ih =>
    intro a ha hd
    by_cases hao : a = o
    · subst hao
      exact ⟨[], ⟨by intro x hx; rcases List.mem_singleton.1 hx with rfl; exact ho, rfl, by intro i a b h1 h2; simp at h2, by simp⟩, by intro x hx; cases hx⟩
    · obtain ⟨hm, h | ⟨h1, h2⟩⟩ := hh a ha hao
      · refine ⟨[o], ⟨?_, rfl, ?_, ?_⟩, ?_⟩
        · intro x hx
          simp at hx
          rcases hx with rfl | rfl <;> assumption
        · intro i x y h3 h4
          cases i with
          | zero =>
            simp at h3 h4
            subst h3 h4
            exact ⟨hao, h⟩
          | succ i => simp at h4
        · simp [hao]
        · intro x hx; simp at hx; exact .inl hx
      · have hda := hD (hop a)
        obtain ⟨w, hw, hl⟩ := ih (hop a) hm (by omega)
        refine ⟨hop a :: w, ⟨?_, ?_, ?_, ?_⟩, ?_⟩
        · intro x hx
          rcases List.mem_cons.1 hx with rfl | hx
          · exact ha
          · exact hw.mem x hx
        · rw [List.getLast?_cons_cons]; exact hw.last
        · intro i x y h3 h4
          cases i with
          | zero =>
            simp at h3 h4
            subst h3 h4
            exact ⟨hao, rfl⟩
          | succ i => exact hw.step i x y (by simpa using h3) (by simpa using h4)
        · rw [List.nodup_cons]
          refine ⟨?_, hw.nodup⟩
          intro hx
          rcases List.mem_cons.1 hx with e | hx
          · rw [← e] at h2; omega
          · rcases hl a hx with e | e
            · exact hao e
            · omega
        · intro x hx
          rcases List.mem_cons.1 hx with rfl | hx
          · exact .inr h2
          · rcases hl x hx with e | e
            · exact .inl e
            · right; omega
end RQ
open RQ
theorem wrap1 {i : Int} (h0 : 0 ≤ i) (h : i < 4611686018427387904) : wrap64 (i + 1) = i + 1 := by unfold wrap64; omega
theorem wrapm {i : Int} (h0 : 0 < i) (h : i < 4611686018427387904) : wrap64 (i - 1) = i - 1 := by unfold wrap64; omega
theorem rd_at {l : List Int} {i : Nat} : rd l (i : Int) = l.getD i 0 := rfl
theorem rd_lt {l : List Int} {i : Nat} (h : i < l.length) : rd l (i : Int) = l[i] := by rw [rd_at, List.getD_eq_getElem?_getD, List.getElem?_eq_getElem h]; rfl
theorem node_is (a : Int) : ring_node.f a = some (decide (1 ≤ a ∧ a ≤ 15)) := by
  unfold ring_node.f
  split
  · congr 1; simp; omega
  · congr 1; simp; omega
def okAt (l : List Int) (i : Nat) : Bool := decide (1 ≤ l.getD i 0 ∧ l.getD i 0 ≤ 15 ∧ (0 < i → l.getD (i - 1) 0 < l.getD i 0))
theorem nodes_l0 (l : List Int) (hl : l.length < 4611686018427387904) : ∀ (d k i : Nat), i + d = l.length → d < k → ring_Nodes.l0 k l l (l.length : Int) (i : Int) = some ((List.range' i d).all (okAt l)) := by
  intro d
  induction d with
  | zero =>
    intro k i h hk
    obtain ⟨k, rfl⟩ : ∃ m, k = m + 1 := ⟨k - 1, by omega⟩
    simp only [ring_Nodes.l0]
    rw [if_neg (by omega)]
    rfl
  | succ d ih =>
    intro k i h hk
    obtain ⟨k, rfl⟩ : ∃ m, k = m + 1 := ⟨k - 1, by omega⟩
    have ihh := ih k (i + 1) (by omega) (by omega)
    rw [List.range'_succ, List.all_cons]
    simp only [ring_Nodes.l0]
    rw [if_pos (by omega), if_pos (by omega), if_pos (by omega), node_is, Option.bind_some, rd_at, wrap1 (by omega) (by omega), show ((i : Int) + 1) = ((i + 1 : Nat) : Int) from by omega, ihh]
    unfold okAt
    by_cases h1 : 1 ≤ l.getD i 0 ∧ l.getD i 0 ≤ 15
    · rw [decide_eq_true h1, if_pos rfl]
      by_cases h2 : (i : Int) > 0
      · rw [if_pos h2, wrapm (by omega) (by omega), if_pos (by omega), if_pos (by omega), show ((i : Int) - 1) = ((i - 1 : Nat) : Int) from by omega, rd_at]
        by_cases h3 : l.getD (i - 1) 0 ≥ l.getD i 0
        · rw [if_pos h3, decide_eq_false (by omega)]; rfl
        · rw [if_neg h3, decide_eq_true (by omega)]; rfl
      · rw [if_neg h2, decide_eq_true (by omega)]; rfl
    · rw [decide_eq_false h1, if_neg (by decide), decide_eq_false (by omega)]; rfl
def nodesB (l : List Int) : Bool := (List.range' 0 l.length).all (okAt l)
theorem nodes_is (l : List Int) (hl : l.length < 4611686018427387904) (k : Nat) (hk : l.length < k) : ring_Nodes.f k l = some (nodesB l) := nodes_l0 l hl l.length k 0 (by omega) hk
theorem nodesB_at {l : List Int} (h : nodesB l = true) (i : Nat) (hi : i < l.length) : 1 ≤ l[i] ∧ l[i] ≤ 15 ∧ (∀ h0 : 0 < i, l[i - 1] < l[i]) := by
  have := List.all_eq_true.1 h i (by simp; exact hi)
  unfold okAt at this
  have := of_decide_eq_true this
  rw [List.getD_eq_getElem?_getD, List.getElem?_eq_getElem hi, List.getD_eq_getElem?_getD, List.getElem?_eq_getElem (show i - 1 < l.length by omega)] at this
  exact this
theorem nodesB_NL {l : List Int} (h : nodesB l = true) : NL l := by
  have key : ∀ d i : Nat, ∀ hd : i + d + 1 < l.length, l[i] < l[i + d + 1] := by
    intro d
    induction d with
    | zero => intro i hd; exact (nodesB_at h (i + 1) hd).2.2 (by omega)
    | succ d ih =>
      intro i hd
      have h1 := ih i (by omega)
      have h2 := (nodesB_at h (i + d + 1 + 1) hd).2.2 (by omega)
      have h3 : l[i + d + 1 + 1 - 1] = l[i + d + 1] := rfl
      have h4 : l[i + (d + 1) + 1] = l[i + d + 1 + 1] := rfl
      omega
  refine ⟨fun n hn => ?_, ?_⟩
  · obtain ⟨i, hi, rfl⟩ := List.getElem_of_mem hn
    have := nodesB_at h i hi
    exact ⟨this.1, this.2.1⟩
  · rw [List.pairwise_iff_getElem]
    intro i j hi hj hij
    obtain ⟨d, rfl⟩ : ∃ d, j = i + d + 1 := ⟨j - i - 1, by omega⟩
    exact key d i hj
theorem ltOf_ah (x y : Int) : ltOf cmpZ x y = decide (ah pointZ x y) := by
  rw [Bool.eq_iff_iff, lt_iff, decide_eq_true_eq]
  rfl
theorem sortZ_ring (l : List Int) (hn : l.Nodup) : IsRing pointZ l (sortZ l) := by
  have hp : (sortZ l).Perm l := List.mergeSort_perm l _
  have ho := List.pairwise_mergeSort (le := fun x y : Int => !(ltOf cmpZ y x))
    (fun a b c h1 h2 => by
      rw [ltOf_ah, Bool.not_eq_true', decide_eq_false_iff_not] at *
      unfold ah at *
      omega)
    (fun a b => by
      rw [ltOf_ah, ltOf_ah, Bool.or_eq_true, Bool.not_eq_true', Bool.not_eq_true', decide_eq_false_iff_not, decide_eq_false_iff_not]
      unfold ah
      omega) l
  refine ⟨hp, ?_⟩
  have hd : (sortZ l).Nodup := hp.nodup_iff.2 hn
  have := List.Pairwise.and ho hd
  refine List.Pairwise.imp ?_ this
  rintro a b ⟨h1, h2⟩
  simp only [ltOf_ah, Bool.not_eq_true', decide_eq_false_iff_not] at h1
  rcases ah_tot (P := pointZ) h2 with h | h
  · exact h
  · exact absurd h h1
def ringZ (l : List Int) : List Int := if nodesB l = true then sortZ l else []
theorem nodesB_len {l : List Int} (h : nodesB l = true) : l.length ≤ 15 := (nodesB_NL h).len
theorem ring_is (l : List Int) (hl : l.length < 4611686018427387904) (k : Nat) (hk : l.length < k) : ring_Ring.f k l = some (ringZ l) := by
  unfold ring_Ring.f ringZ
  rw [nodes_is l hl k hk, Option.bind_some]
  split
  · rename_i h
    have := nodesB_len h
    rw [if_pos (by omega)]
  · rfl
theorem nodesB_ring {l : List Int} (h : nodesB l = true) : IsRing pointZ l (ringZ l) := by
  unfold ringZ
  rw [if_pos h]
  exact sortZ_ring l (nodesB_NL h).nodup
theorem ring_ord (l : List Int) : (ringZ l).Pairwise (ah pointZ) := by
  by_cases h : nodesB l = true
  · exact (nodesB_ring h).ord
  · unfold ringZ; rw [if_neg h]; exact List.Pairwise.nil
theorem ring_nodup (l : List Int) : (ringZ l).Nodup := (ring_ord l).imp (by rintro a _ h rfl; exact ah_irr h)
theorem ring_node {l : List Int} {x : Int} (h : x ∈ ringZ l) : nodesB l = true ∧ x ∈ l ∧ 1 ≤ x ∧ x ≤ 15 := by
  by_cases hn : nodesB l = true
  · have hx := (nodesB_ring hn).perm.mem_iff.1 h
    exact ⟨hn, hx, (nodesB_NL hn).1 x hx⟩
  · unfold ringZ at h; rw [if_neg hn] at h; cases h
theorem ring_first_is (key : Int) (l : List Int) : ring_first.f key l = some (max (idxFR (fun x => decide (key ≤ pointZ x)) l 0) 0) := rfl
theorem idxF_eq (p : Int → Bool) : ∀ (l : List Int) (i : Int), idxFR p l i = idxQ p l i
  | [], i => rfl
  | x :: l, i => by unfold idxFR idxQ; rw [idxF_eq p l]
theorem heirs_first {s : List Int} (hs : s.Pairwise (ah pointZ)) (key : Int) (hne : s ≠ []) : ∃ i : Nat, ∃ h : i < s.length, ring_first.f key s = some (i : Int) ∧ heirsZ pointZ key s = s.drop i ++ s.take i ∧ (heirsZ pointZ key s).head? = some s[i] := by
  have hl : 0 < s.length := List.length_pos_iff.2 hne
  have e := heirs_idx hs key
  rw [ring_first_is, idxF_eq]
  have hb : (max (idxQ (fun x => decide (key ≤ pointZ x)) s 0) 0).toNat < s.length := by
    rcases idxQ_spec (fun x => decide (key ≤ pointZ x)) s 0 with ⟨h1, _⟩ | ⟨j, h1, _, x, h3, _⟩
    · rw [h1]
      have : (max (-1 : Int) 0).toNat = 0 := rfl
      omega
    · rw [h1]
      have : j < s.length := by
        rcases Nat.lt_or_ge j s.length with h | h
        · exact h
        · rw [List.drop_eq_nil_of_le h] at h3; cases h3
      omega
  refine ⟨_, hb, by rw [Int.toNat_of_nonneg (by omega)], e.symm, ?_⟩
  rw [← e, List.drop_eq_getElem_cons hb]
  rfl
def ownZ (key : Int) (s : List Int) : Int := ((heirsZ pointZ key s).head?).getD 0
theorem ownZ_own {l : List Int} (key : Int) (h : ringZ l ≠ []) : OwnQ pointZ key (ringZ l) (ownZ key (ringZ l)) := by
  obtain ⟨i, hi, _, _, h3⟩ := heirs_first (ring_ord l) key h
  unfold ownZ
  cases hq : heirsZ pointZ key (ringZ l) with
  | nil => rw [hq] at h3; cases h3
  | cons o r => exact own_head (ring_ord l) key o r hq
theorem owner_is (key : Int) (l : List Int) (hl : l.length < 4611686018427387904) (k : Nat) (hk : l.length < k) : ring_Owner.f k key l = some (ownZ key (ringZ l), decide (ringZ l ≠ [])) := by
  unfold ring_Owner.f
  rw [ring_is l hl k hk, Option.bind_some]
  by_cases h : ringZ l = []
  · rw [h]
    rfl
  · have hl0 : 0 < (ringZ l).length := List.length_pos_iff.2 h
    rw [if_neg (by omega)]
    obtain ⟨i, hi, h1, _, h3⟩ := heirs_first (ring_ord l) key h
    rw [h1, Option.bind_some, if_pos (by omega), if_pos (by omega), rd_lt hi, decide_eq_true h]
    unfold ownZ
    rw [h3]
    rfl
theorem index_l0 (l : List Int) (x : Int) (hl : l.length < 4611686018427387904) : ∀ (d k i : Nat), i + d = l.length → d < k → ∃ r, slices_Index_int_int.l0 k l x (l.length : Int) (i : Int) = some r ∧ decide (r ≥ 0) = decide (x ∈ l.drop i) := by
  intro d
  induction d with
  | zero =>
    intro k i h hk
    obtain ⟨k, rfl⟩ : ∃ m, k = m + 1 := ⟨k - 1, by omega⟩
    simp only [slices_Index_int_int.l0]
    rw [if_neg (by omega)]
    exact ⟨_, rfl, by rw [List.drop_eq_nil_of_le (by omega)]; simp⟩
  | succ d ih =>
    intro k i h hk
    obtain ⟨k, rfl⟩ : ∃ m, k = m + 1 := ⟨k - 1, by omega⟩
    have hi : i < l.length := by omega
    simp only [slices_Index_int_int.l0]
    rw [if_pos (by omega), if_pos (by omega), if_pos (by omega), rd_lt hi, List.drop_eq_getElem_cons hi]
    by_cases e : x = l[i]
    · rw [if_pos e]
      exact ⟨_, rfl, by rw [decide_eq_true (by omega), decide_eq_true (by rw [← e]; exact List.mem_cons_self)]⟩
    · rw [if_neg e, wrap1 (by omega) (by omega), show ((i : Int) + 1) = ((i + 1 : Nat) : Int) from by omega]
      obtain ⟨r, h1, h2⟩ := ih k (i + 1) (by omega) (by omega)
      exact ⟨r, h1, by rw [h2, decide_eq_decide, List.mem_cons]; exact ⟨.inr, fun h => h.resolve_left e⟩⟩
theorem contains_is (l : List Int) (x : Int) (hl : l.length < 4611686018427387904) (k : Nat) (hk : l.length < k) : slices_Contains_int_int.f k l x = some (decide (x ∈ l)) := by
  unfold slices_Contains_int_int.f slices_Index_int_int.f
  obtain ⟨r, h1, h2⟩ := index_l0 l x hl l.length k 0 (by omega) hk
  rw [show ((0 : Nat) : Int) = 0 from rfl] at h1
  rw [h1, Option.bind_some, h2, List.drop_zero]
theorem has_l0 (l : List Int) (x : Int) (hl : l.length < 4611686018427387904) : ∀ (d k i : Nat), i + d = l.length → d < k → caduceusref10_Has.l0 k l x (i : Int) = some (decide (x ∈ l.drop i)) := by
  intro d
  induction d with
  | zero =>
    intro k i h hk
    obtain ⟨k, rfl⟩ : ∃ m, k = m + 1 := ⟨k - 1, by omega⟩
    simp only [caduceusref10_Has.l0]
    rw [if_neg (by omega), List.drop_eq_nil_of_le (by omega)]
    simp
  | succ d ih =>
    intro k i h hk
    obtain ⟨k, rfl⟩ : ∃ m, k = m + 1 := ⟨k - 1, by omega⟩
    have hi : i < l.length := by omega
    simp only [caduceusref10_Has.l0]
    rw [if_pos (by omega), if_pos (by omega), rd_lt hi, List.drop_eq_getElem_cons hi]
    by_cases e : l[i] = x
    · rw [if_pos e, decide_eq_true (by rw [e]; exact List.mem_cons_self)]
    · rw [if_neg e, wrap1 (by omega) (by omega), show ((i : Int) + 1) = ((i + 1 : Nat) : Int) from by omega, ih k (i + 1) (by omega) (by omega)]
      congr 1
      rw [decide_eq_decide, List.mem_cons]
      exact ⟨.inr, fun h => h.resolve_left (fun h => e h.symm)⟩
theorem has_is (l : List Int) (x : Int) (hl : l.length < 4611686018427387904) (k : Nat) (hk : l.length < k) : caduceusref10_Has.f k l x = some (decide (x ∈ l)) := by
  have := has_l0 l x hl l.length k 0 (by omega) hk
  rw [List.drop_zero] at this
  exact this
theorem same_l0 (l m : List Int) (he : l.length = m.length) (hl : l.length < 4611686018427387904) : ∀ (d k i : Nat), i + d = l.length → d < k → caduceusref10_Same.l0 k l m (i : Int) = some (decide (l.drop i = m.drop i)) := by
  intro d
  induction d with
  | zero =>
    intro k i h hk
    obtain ⟨k, rfl⟩ : ∃ m, k = m + 1 := ⟨k - 1, by omega⟩
    simp only [caduceusref10_Same.l0]
    rw [if_neg (by omega), List.drop_eq_nil_of_le (by omega), List.drop_eq_nil_of_le (by omega)]
    simp
  | succ d ih =>
    intro k i h hk
    obtain ⟨k, rfl⟩ : ∃ m, k = m + 1 := ⟨k - 1, by omega⟩
    have hi : i < l.length := by omega
    have hj : i < m.length := by omega
    simp only [caduceusref10_Same.l0]
    rw [if_pos (by omega), if_pos (by omega), if_pos (by omega), rd_lt hi, rd_lt hj, List.drop_eq_getElem_cons hi, List.drop_eq_getElem_cons hj]
    by_cases e : l[i] = m[i]
    · rw [if_pos e, wrap1 (by omega) (by omega), show ((i : Int) + 1) = ((i + 1 : Nat) : Int) from by omega, ih k (i + 1) (by omega) (by omega)]
      congr 1
      rw [decide_eq_decide, List.cons.injEq]
      exact ⟨fun h => ⟨e, h⟩, fun h => h.2⟩
    · rw [if_neg e, decide_eq_false]
      rw [List.cons.injEq]
      exact fun h => e h.1
theorem same_is (l m : List Int) (hl : l.length < 4611686018427387904) (k : Nat) (hk : l.length < k) : caduceusref10_Same.f k l m = some (decide (l = m)) := by
  unfold caduceusref10_Same.f
  by_cases he : l.length = m.length
  · rw [if_pos (by omega)]
    have := same_l0 l m he hl l.length k 0 (by omega) hk
    rw [List.drop_zero, List.drop_zero] at this
    exact this
  · rw [if_neg (by omega), decide_eq_false (fun h => he (by rw [h]))]
theorem same_self (l : List Int) (hl : l.length < 4611686018427387904) (k : Nat) (hk : l.length < k) : caduceusref10_Same.f k l l = some true := by rw [same_is l l hl k hk, decide_eq_true rfl]
theorem ring_len {l : List Int} (h : nodesB l = true) : (ringZ l).length = l.length := (nodesB_ring h).perm.length_eq
theorem heirs_is (key : Int) (l : List Int) (most : Int) (hl : l.length < 4611686018427387904) (k : Nat) (hk : l.length < k) : ring_Heirs.f k key l most = some ((heirsZ pointZ key (ringZ l)).take (min (max most 0) (ringZ l).length).toNat) := by
  unfold ring_Heirs.f
  rw [ring_is l hl k hk, Option.bind_some]
  by_cases h : ringZ l = []
  · rw [h]; simp [heirsZ]
  · have hl0 : 0 < (ringZ l).length := List.length_pos_iff.2 h
    rw [if_neg (by omega)]
    obtain ⟨i, hi, h1, h2, h3⟩ := heirs_first (ring_ord l) key h
    rw [h1, Option.bind_some, h2]
    rfl
theorem all_mem_okAt {l : List Int} (h : NL l) : nodesB l = true := by
  unfold nodesB
  rw [List.all_eq_true]
  intro i hi
  have hi : i < l.length := by simpa using hi
  unfold okAt
  rw [decide_eq_true_eq, List.getD_eq_getElem?_getD, List.getElem?_eq_getElem hi]
  have h1 := h.1 _ (List.getElem_mem hi)
  refine ⟨h1.1, h1.2, fun h0 => ?_⟩
  rw [List.getD_eq_getElem?_getD, List.getElem?_eq_getElem (show i - 1 < l.length by omega)]
  exact List.pairwise_iff_getElem.1 h.2 (i - 1) i (by omega) hi (by omega)
theorem nodesB_filter {l : List Int} (h : nodesB l = true) (p : Int → Bool) : nodesB (l.filter p) = true := all_mem_okAt ((nodesB_NL h).filter p)
theorem ring_filter {l : List Int} (h : nodesB l = true) (p : Int → Bool) : ringZ (l.filter p) = (ringZ l).filter p := IsRing.uniq (nodesB_ring (nodesB_filter h p)) ((nodesB_ring h).filter p)
def bad (l : List UInt8) : Bool := decide ((decodeL l).1 = 65533 ∧ (decodeL l).2 = 1)
theorem wr (x : Int) (h0 : -9223372036854775808 ≤ x) (h1 : x ≤ 9223372036854775807) : wrap64 x = x := by unfold wrap64; omega
theorem bt_getD (t : ByteArray) (j : Nat) : bt t (j : Int) = ((t.data.toList.getD j 0).toNat : Int) := by
  unfold bt
  rw [Int.toNat_natCast]
  by_cases h : j < t.size
  · have h' : j < t.data.toList.length := by rw [← size_eq]; exact h
    rw [dif_pos h]
    simp [List.getD_eq_getElem?_getD, List.getElem?_eq_getElem h']
    rfl
  · have h' : t.data.toList.length ≤ j := by rw [← size_eq]; omega
    rw [dif_neg h]
    simp [List.getD_eq_getElem?_getD, List.getElem?_eq_none h']
theorem e2 (a b : Int) (ha : 0 ≤ a ∧ a < 256) (hb : 0 ≤ b ∧ b < 256) : wrap64 ((wrap64 ((wrap64 (64 * (wrap64 (a - 192)))) + (wrap64 b))) - 128) = 64 * (a - 192) + b - 128 := by
  rw [wr (a - 192) (by omega) (by omega), wr (64 * (a - 192)) (by omega) (by omega), wr b (by omega) (by omega), wr (64 * (a - 192) + b) (by omega) (by omega), wr _ (by omega) (by omega)]
theorem drop_end (s : ByteArray) (i : Nat) (h : ¬ i < s.size) : s.data.toList.drop i = [] := List.drop_eq_nil_of_le (by rw [← size_eq]; omega)
def hashL : Int → List UInt8 → Int
  | h, [] => h
  | h, b :: l => hashL (IntKind.u64.wrap ((Go.bits .xor .u64 h (IntKind.u64.wrap (b.toNat : Int))) * 1099511628211)) l
def hashB (s : ByteArray) : Int := hashL 14695981039346656037 s.data.toList
theorem drop_cons (s : ByteArray) (i : Nat) (h : i < s.size) : s.data.toList.drop i = s.data.toList.getD i 0 :: s.data.toList.drop (i + 1) := by
  have h' : i < s.data.toList.length := by rw [← size_eq]; exact h
  rw [List.drop_eq_getElem_cons h']
  simp [List.getD_eq_getElem?_getD, List.getElem?_eq_getElem h']
theorem name_Hash_l (s : ByteArray) (hs : s.size ≤ 1099511627776) : ∀ (d i k : Nat) (h : Int), s.size - i ≤ d → d + 1 ≤ k → i ≤ s.size → name_Hash.l0 k s h (s.size : Int) (i : Int) = some (hashL h (s.data.toList.drop i)) := by
  intro d
  induction d with
  | zero =>
    intro i k h hd hk hi
    obtain ⟨k, rfl⟩ : ∃ m, k = m + 1 := ⟨k - 1, by omega⟩
    rw [name_Hash.l0, if_neg (by omega), drop_end s i (by omega)]
    rfl
  | succ d ih =>
    intro i k h hd hk hi
    obtain ⟨k, rfl⟩ : ∃ m, k = m + 1 := ⟨k - 1, by omega⟩
    by_cases hlt : i < s.size
    · rw [name_Hash.l0, if_pos (by omega), if_pos (by omega), if_pos (by omega), bt_getD, show wrap64 ((i : Int) + 1) = ((i + 1 : Nat) : Int) by rw [wr _ (by omega) (by omega)]; omega, ih _ _ _ (by omega) (by omega) (by omega), drop_cons s i hlt]
      rfl
    · rw [name_Hash.l0, if_neg (by omega), drop_end s i hlt]
      rfl
theorem name_Hash_is (s : ByteArray) (hs : s.size ≤ 1099511627776) (k : Nat) (hk : s.size + 1 ≤ k) : name_Hash.f k s = some (hashB s) :=
  name_Hash_l s hs s.size 0 k _ (by omega) hk (by omega)
theorem name_Fold_is (s : ByteArray) (hs : s.size ≤ 1099511627776) : name_Fold.f s = some (NC.foldB s) := by unfold name_Fold.f; rw [if_pos (by omega)]
theorem fold_size (s : ByteArray) : (NC.foldB s).size ≤ 4 * s.size := by
  unfold NC.foldB
  split
  · have h1 := runesBytes_size_le ((NC.runes s).map NC.smallZ)
    have h2 := NC.runes_len s
    rw [List.length_map] at h1
    omega
  · omega
theorem name_Key_is (s : ByteArray) (hs : s.size ≤ 4294967296) (k : Nat) (hk : 4 * s.size + 1 ≤ k) : name_Key.f k s = some (hashB (NC.foldB s)) := by
  unfold name_Key.f
  have := fold_size s
  rw [name_Fold_is s (by omega), Option.bind_some, name_Hash_is _ (by omega) k (by omega)]
  rfl
theorem lift {α : Type} {f : Nat → Option α} (hm : ∀ k, LeO (f k) (f (k + 1))) {a b : Nat} (h : a ≤ b) {r : α} (e : f a = some r) : f b = some r := by
  obtain ⟨d, rfl⟩ : ∃ d, b = a + d := ⟨b - a, by omega⟩
  clear h
  induction d with
  | zero => exact e
  | succ d ih => exact hm _ _ ih
theorem wrapn {n : Nat} (h : n ≤ 1000000) : wrap64 ((n : Int) + 1) = ((n + 1 : Nat) : Int) := by unfold wrap64; omega
theorem wrapp {n : Nat} (h : n ≤ 1000000) (h0 : 0 < n) : wrap64 ((n : Int) - 1) = ((n - 1 : Nat) : Int) := by unfold wrap64; omega
theorem drop_parts {α : Type} {l : List α} {i : Nat} {x : α} {r : List α} (h : l.drop i = x :: r) : l[i]? = some x ∧ i < l.length ∧ l.drop (i + 1) = r := by
  have hi : i < l.length := by
    rcases Nat.lt_or_ge i l.length with g | g
    · exact g
    · rw [List.drop_eq_nil_of_le g] at h; cases h
  rw [List.drop_eq_getElem_cons hi] at h
  injection h with h1 h2
  exact ⟨by rw [List.getElem?_eq_getElem hi, h1], hi, h2⟩
theorem rd_int {l : List Int} {i : Nat} {x : Int} (h : l[i]? = some x) : rd l (i : Int) = x := by
  unfold rd; rw [Int.toNat_natCast, List.getD_eq_getElem?_getD, h]; rfl
theorem rd_M {l : List S44} {i : Nat} {x : S44} (h : l[i]? = some x) : rd_T44 l (i : Int) = x := by
  unfold rd_T44; rw [Int.toNat_natCast, List.getD_eq_getElem?_getD, h]; rfl
theorem view_nodes_is (l : List S44) (hl : l.length ≤ 1000) : ∀ (r : List S44) (i k : Nat) (acc : List Int), l.drop i = r → i + r.length = l.length → acc.length = i → r.length < k → view_nodes.l0 k acc l (l.length : Int) (i : Int) = some (acc ++ r.map (·.f0)) := by
  intro r
  induction r with
  | nil =>
    intro i k acc hd hi ha hk
    obtain ⟨k, rfl⟩ : ∃ q, k = q + 1 := ⟨k - 1, by simp at hk; omega⟩
    simp only [view_nodes.l0]
    rw [if_neg (by simp at hi; omega)]
    simp
  | cons x r ih =>
    intro i k acc hd hi ha hk
    obtain ⟨k, rfl⟩ : ∃ q, k = q + 1 := ⟨k - 1, by simp at hk; omega⟩
    obtain ⟨hx, hlt, hd2⟩ := drop_parts hd
    simp only [view_nodes.l0]
    rw [if_pos (by omega), if_pos (by omega), if_pos (by omega), if_pos (by omega), rd_M hx, wrapn (by omega), ih (i + 1) k _ hd2 (by simp at hi; omega) (by simp; omega) (by simp at hk; omega)]
    simp
theorem view_nodes_f (l : List S44) (hl : l.length ≤ 1000) (k : Nat) (hk : l.length < k) : view_nodes.f k l = some (l.map (·.f0)) := by
  have h := view_nodes_is l hl l 0 k [] rfl (by omega) rfl hk
  simpa [view_nodes.f] using h
def nodeB (n : Int) : Bool := decide (1 ≤ n) && decide (n ≤ 15)
theorem ring_node_is (n : Int) : ring_node.f n = some (nodeB n) := by
  unfold ring_node.f nodeB
  by_cases h : n ≥ 1
  · rw [if_pos h, decide_eq_true (show 1 ≤ n from h), Bool.true_and]
  · rw [if_neg h, decide_eq_false (show ¬ 1 ≤ n from h), Bool.false_and]
def nodesF : Option Int → List Int → Bool
  | _, [] => true
  | p, n :: r => nodeB n && (p.all (fun q => decide (q < n))) && nodesF (some n) r
theorem ring_Nodes_is (l : List Int) (hl : l.length ≤ 1000) : ∀ (r : List Int) (i k : Nat) (p : Option Int), l.drop i = r → i + r.length = l.length → (i = 0 ∧ p = none ∨ 0 < i ∧ ∃ q, p = some q ∧ l[i - 1]? = some q) → r.length < k → ring_Nodes.l0 k l l (l.length : Int) (i : Int) = some (nodesF p r) := by
  intro r
  induction r with
  | nil =>
    intro i k p hd hi hp hk
    obtain ⟨k, rfl⟩ : ∃ q, k = q + 1 := ⟨k - 1, by simp at hk; omega⟩
    simp only [ring_Nodes.l0]
    rw [if_neg (by simp at hi; omega)]
    rfl
  | cons x r ih =>
    intro i k p hd hi hp hk
    obtain ⟨k, rfl⟩ : ∃ q, k = q + 1 := ⟨k - 1, by simp at hk; omega⟩
    obtain ⟨hx, hlt, hd2⟩ := drop_parts hd
    have ih' := ih (i + 1) k (some x) hd2 (by simp at hi; omega) (.inr ⟨by omega, x, rfl, by simpa using hx⟩) (by simp at hk; omega)
    simp only [ring_Nodes.l0]
    rw [if_pos (by omega), if_pos (by omega), if_pos (by omega), rd_int hx, ring_node_is, Option.bind_some, wrapn (by omega)]
    simp only [nodesF]
    by_cases hn : nodeB x = true
    · rw [if_pos hn, hn, Bool.true_and]
      rcases hp with ⟨rfl, rfl⟩ | ⟨h0, q, rfl, hq⟩
      · rw [if_neg (by omega), ih']
        rfl
      · rw [if_pos (by omega), wrapp (by omega) h0, if_pos (by omega), if_pos (by omega), rd_int hq]
        by_cases hlt2 : q < x
        · rw [if_neg (by omega), ih']
          simp [hlt2]
        · rw [if_pos (by omega)]
          simp [hlt2]
    · rw [if_neg hn]
      have hn' : nodeB x = false := by simpa using hn
      rw [hn']
      rfl
theorem ring_Nodes_f (l : List Int) (hl : l.length ≤ 1000) (k : Nat) (hk : l.length < k) : ring_Nodes.f k l = some (nodesF none l) :=
  ring_Nodes_is l hl l 0 k none rfl (by omega) (.inl ⟨rfl, rfl⟩) hk
def countB (n : Int) : Bool := decide (1 ≤ n) && decide (n ≤ 1099511627775)
def chkF (e : Int) (l : List S44) : Bool := countB e && (decide (0 < l.length) && (nodesF none (l.map (·.f0)) && l.all (fun m => countB m.f1)))
theorem idxF_all (p : S44 → Bool) : ∀ (l : List S44) (i : Int), 0 ≤ i → (!(decide (0 ≤ idxF p l i))) = l.all (fun x => !p x) := by
  intro l
  induction l with
  | nil => intro i hi; rfl
  | cons x l ih =>
    intro i hi
    rw [List.all_cons]
    by_cases h : p x = true
    · have e : idxF p (x :: l) i = i := by unfold idxF; rw [if_pos h]
      rw [e, decide_eq_true hi, h]; rfl
    · have h' : p x = false := by simpa using h
      have e : idxF p (x :: l) i = idxF p l (i + 1) := by rw [idxF, if_neg h]
      rw [e, ih (i + 1) (by omega), h']
      rfl
theorem view_Check_f (e : Int) (l : List S44) (hl : l.length ≤ 1000) (k : Nat) (hk : l.length < k) : view_Check.f k e l = some (chkF e l) := by
  unfold view_Check.f chkF
  rw [view_count_is, Option.bind_some]
  show (if countB e = true then _ else _) = _
  by_cases h1 : countB e = true
  · rw [if_pos h1, h1, Bool.true_and]
    by_cases h2 : (l.length : Int) > 0
    · rw [if_pos h2, view_nodes_f l hl k hk, Option.bind_some, ring_Nodes_f _ (by simpa using hl) k (by simpa using hk), Option.bind_some, decide_eq_true (show 0 < l.length by omega), Bool.true_and]
      by_cases h3 : nodesF none (l.map (·.f0)) = true
      · rw [if_pos h3, h3, Bool.true_and, idxF_all _ _ _ (by omega)]
        congr 2
        funext m
        simp [lifeBad, countB]
      · rw [if_neg h3]
        have h3' : nodesF none (l.map (·.f0)) = false := by simpa using h3
        rw [h3']; rfl
    · rw [if_neg h2, decide_eq_false (show ¬ 0 < l.length by omega)]; rfl
  · rw [if_neg h1]
    have h1' : countB e = false := by simpa using h1
    rw [h1']; rfl
theorem nodes_beyond : ∀ (l : List Int) (q : Int), nodesF (some q) l = true → ∀ n ∈ l, q < n := by
  intro l
  induction l with
  | nil => intro q _ n hn; cases hn
  | cons x l ih =>
    intro q h n hn
    simp only [nodesF, Bool.and_eq_true] at h
    obtain ⟨⟨_, h2⟩, h3⟩ := h
    have hq : q < x := by simpa using h2
    rcases List.mem_cons.1 hn with rfl | hn
    · exact hq
    · have := ih x h3 n hn; omega
theorem nodes_apart : ∀ (xs : List Int) (p : Option Int) (n : Int) (ys : List Int), nodesF p (xs ++ n :: ys) = true → (∀ x ∈ xs, x < n) ∧ (∀ y ∈ ys, n < y) := by
  intro xs
  induction xs with
  | nil =>
    intro p n ys h
    simp only [List.nil_append, nodesF, Bool.and_eq_true] at h
    exact ⟨fun _ hx => (by cases hx), nodes_beyond ys n h.2⟩
  | cons x xs ih =>
    intro p n ys h
    simp only [List.cons_append, nodesF, Bool.and_eq_true] at h
    obtain ⟨_, h3⟩ := h
    have h4 := nodes_beyond _ _ h3
    obtain ⟨h5, h6⟩ := ih (some x) n ys h3
    refine ⟨fun y hy => ?_, h6⟩
    rcases List.mem_cons.1 hy with rfl | hy
    · exact h4 n (by simp)
    · exact h5 y hy
theorem idxF_split (p : S44 → Bool) : ∀ (l : List S44) (i : Int), ((∀ x ∈ l, p x = false) ∧ idxF p l i = -1) ∨ ∃ pre m post, l = pre ++ m :: post ∧ p m = true ∧ (∀ x ∈ pre, p x = false) ∧ idxF p l i = i + pre.length := by
  intro l
  induction l with
  | nil => intro i; exact .inl ⟨fun _ hx => (by cases hx), rfl⟩
  | cons x l ih =>
    intro i
    by_cases h : p x = true
    · exact .inr ⟨[], x, l, rfl, h, fun _ hx => (by cases hx), by unfold idxF; rw [if_pos h]; simp⟩
    · have h' : p x = false := by simpa using h
      have e : idxF p (x :: l) i = idxF p l (i + 1) := by rw [idxF, if_neg h]
      rw [e]
      rcases ih (i + 1) with ⟨h1, h2⟩ | ⟨pre, m, post, rfl, h2, h3, h4⟩
      · exact .inl ⟨fun y hy => by rcases List.mem_cons.1 hy with rfl | hy; exact h'; exact h1 y hy, h2⟩
      · exact .inr ⟨x :: pre, m, post, rfl, h2, fun y hy => by rcases List.mem_cons.1 hy with rfl | hy; exact h'; exact h3 y hy, by rw [h4, List.length_cons]; omega⟩
def turnF (e : Int) (pre post : List S44) (m : S44) (up : Bool) : Int × List S44 × Int :=
  if m.f2 = up then (0, [], if up then 5 else 12)
  else if e = 1099511627775 then (0, [], 13)
  else if up = true ∧ m.f1 = 1099511627775 then (0, [], 13)
  else (e + 1, pre ++ ⟨m.f0, if up then m.f1 + 1 else m.f1, up⟩ :: post, 0)
theorem chk_parts {e : Int} {l : List S44} (h : chkF e l = true) : (1 ≤ e ∧ e ≤ 1099511627775) ∧ 0 < l.length ∧ nodesF none (l.map (·.f0)) = true ∧ ∀ m ∈ l, 1 ≤ m.f1 ∧ m.f1 ≤ 1099511627775 := by
  simp only [chkF, countB, Bool.and_eq_true, decide_eq_true_eq, List.all_eq_true] at h
  exact ⟨h.1, h.2.1, h.2.2.1, h.2.2.2⟩
theorem find_none {l : List S44} {node : Int} (hn : ∀ x ∈ l, x.f0 ≠ node) : idxF (fun x => decide (x.f0 = node)) l 0 = -1 := by
  rcases idxF_split (fun x => decide (x.f0 = node)) l 0 with ⟨_, h⟩ | ⟨pre, m, post, rfl, h, _⟩
  · exact h
  · exact absurd (by simpa using h) (hn m (by simp))
theorem find_at {pre post : List S44} {m : S44} (hn : ∀ x ∈ pre, x.f0 ≠ m.f0) : ∀ i : Int, idxF (fun x => decide (x.f0 = m.f0)) (pre ++ m :: post) i = i + pre.length := by
  induction pre with
  | nil => intro i; simp [idxF]
  | cons x pre ih =>
    intro i
    have h := hn x (by simp)
    rw [List.cons_append, idxF, if_neg (by simpa using h), ih (fun y hy => hn y (by simp [hy])), List.length_cons]
    omega
theorem step_at (e : Int) (pre post : List S44) (m : S44) (n l : Int) (u : Bool) (hl : (pre ++ m :: post).length ≤ 1000) (he : 1 ≤ e ∧ e < 1099511627775) :
    view_step.f e (pre ++ m :: post) (pre.length : Int) n l u = some (e + 1, pre ++ ⟨n, l, u⟩ :: post) := by
  have hlen : (pre ++ m :: post).length = pre.length + 1 + post.length := by simp; omega
  unfold view_step.f api_Member.f
  rw [if_pos (by omega), Option.bind_some, if_pos (by omega), if_pos (by omega), Int.toNat_natCast]
  have hw : wrap64 (e + 1) = e + 1 := by unfold wrap64; omega
  rw [hw]
  simp
theorem view_Down_found (e : Int) (pre post : List S44) (m : S44) (hl : (pre ++ m :: post).length ≤ 1000) (hc : chkF e (pre ++ m :: post) = true) (k : Nat) (hk : (pre ++ m :: post).length + 10 < k) :
    view_Down.f k e (pre ++ m :: post) m.f0 = some (turnF e pre post m false) := by
  obtain ⟨he, _, hn, hlife⟩ := chk_parts hc
  rw [List.map_append, List.map_cons] at hn
  obtain ⟨hpre, hpost⟩ := nodes_apart _ _ _ _ hn
  have hpre' : ∀ x ∈ pre, x.f0 ≠ m.f0 := fun x hx => by have := hpre x.f0 (List.mem_map_of_mem hx); omega
  have hm := hlife m (by simp)
  have hlen : (pre ++ m :: post).length = pre.length + 1 + post.length := by simp; omega
  have hx : (pre ++ m :: post)[pre.length]? = some m := by simp
  unfold view_Down.f view_find.f
  rw [Option.bind_some, find_at hpre', view_Check_f e _ hl k (by omega), Option.bind_some, if_pos hc, Int.zero_add, if_neg (by omega), if_pos (by omega), if_pos (by omega), rd_M hx]
  unfold turnF
  by_cases h1 : m.f2 = true
  · rw [if_pos h1, if_neg (show ¬ m.f2 = false by rw [h1]; decide)]
    by_cases h2 : e = 1099511627775
    · rw [if_pos (by omega), if_pos h2]
    · rw [if_neg (by omega), if_neg h2, step_at e pre post m _ _ _ hl (by omega), if_neg (fun h => by cases h.1)]
      rfl
  · rw [if_neg h1, if_pos (by simpa using h1)]
    rfl
theorem view_Turn_none (e : Int) (l : List S44) (node : Int) (hl : l.length ≤ 1000) (hc : chkF e l = true) (hn : ∀ x ∈ l, x.f0 ≠ node) (k : Nat) (hk : l.length + 10 < k) :
    view_Down.f k e l node = some (0, [], 4) ∧ view_Up.f k e l node = some (0, [], 4) := by
  unfold view_Down.f view_Up.f view_find.f
  rw [Option.bind_some, find_none hn, view_Check_f e _ hl k (by omega), Option.bind_some, if_pos hc, if_pos (by omega)]
  rw [Option.bind_some, Option.bind_some, if_pos hc, if_pos (by omega)]
  exact ⟨rfl, rfl⟩
theorem awake60 : caduceuslaw14_awake.f 60 = some true := by kernel_rfl
theorem awake_f (k : Nat) (hk : 60 ≤ k) : caduceuslaw14_awake.f k = some true := lift (f := fun k => caduceuslaw14_awake.f k) (fun k => caduceuslaw14_awake.mono k) hk awake60
def liveF (e : Int) (l : List S44) : List Int := if chkF e l then numsOf l else []
theorem numsOf_len (l : List S44) : (numsOf l).length ≤ l.length := by unfold numsOf; rw [List.length_map]; exact List.length_filter_le _ _
theorem liveF_len (e : Int) (l : List S44) : (liveF e l).length ≤ l.length := by unfold liveF; split; exact numsOf_len l; simp
theorem view_Live_f (e : Int) (l : List S44) (hl : l.length ≤ 300) (k : Nat) (hk : 1000 ≤ k) : view_Live.f k e l = some (liveF e l) := by
  unfold view_Live.f liveF
  rw [view_Check_f e l (by omega) _ (by omega), Option.bind_some]
  by_cases hc : chkF e l = true
  · rw [if_pos hc, if_pos hc, if_pos (by omega)]
  · rw [if_neg hc, if_neg hc]
theorem nodes_same (l : List Int) (hl : l.length ≤ 1000) : nodesF none l = nodesB l := by
  have a := ring_Nodes_f l hl (l.length + 1) (by omega)
  have b := nodes_is l (by omega) (l.length + 1) (by omega)
  rw [a] at b
  exact Option.some.inj b
theorem liveF_nodes (e : Int) (l : List S44) (hl : l.length ≤ 300) : nodesB (liveF e l) = true := by
  unfold liveF
  split
  · rename_i h
    have hp := (chk_parts h).2.2.1
    rw [nodes_same _ (by rw [List.length_map]; omega)] at hp
    have := nodesB_NL hp
    refine all_mem_okAt ⟨?_, ?_⟩
    · intro n hn
      obtain ⟨m, hm, rfl⟩ := List.mem_map.1 hn
      exact this.1 _ (List.mem_map_of_mem (List.mem_filter.1 hm).1)
    · exact List.Pairwise.sublist (List.Sublist.map _ List.filter_sublist) this.2
  · decide
/-- A name's key. -/
def keyZ (s : ByteArray) : Int := hashB (NC.foldB s)
/-- All heirs of a name in a view. -/
def hrZ (e : Int) (l : List S44) (s : ByteArray) : List Int := heirsZ pointZ (keyZ s) (ringZ (liveF e l))
theorem hr_len (e : Int) (l : List S44) (s : ByteArray) (hl : l.length ≤ 300) : (hrZ e l s).length = (liveF e l).length := by
  unfold hrZ
  rw [heirs_len, ring_len (liveF_nodes e l hl)]
theorem view_Heirs_f (e : Int) (l : List S44) (s : ByteArray) (hl : l.length ≤ 300) (hs : s.size ≤ 1000) (k : Nat) (hk : 5000 ≤ k) : view_Heirs.f k e l s = some ((hrZ e l s).take 3) := by
  have := liveF_len e l
  unfold view_Heirs.f
  rw [name_Key_is s (by omega) k (by omega), Option.bind_some, view_Live_f e l hl k (by omega), Option.bind_some, heirs_is _ _ _ (by omega) k (by omega), Option.bind_some]
  congr 1
  show List.take _ (hrZ e l s) = _
  have h1 := hr_len e l s hl
  have h2 := ring_len (liveF_nodes e l hl)
  by_cases h : (ringZ (liveF e l)).length ≤ 3
  · rw [List.take_of_length_le (by omega), List.take_of_length_le (by omega)]
  · have : (min (max 3 0) ((ringZ (liveF e l)).length : Int)).toNat = 3 := by omega
    rw [this]
theorem view_Owner_f (e : Int) (l : List S44) (s : ByteArray) (hl : l.length ≤ 300) (hs : s.size ≤ 1000) (k : Nat) (hk : 5000 ≤ k) : view_Owner.f k e l s = some (ownZ (keyZ s) (ringZ (liveF e l)), decide (ringZ (liveF e l) ≠ [])) := by
  have := liveF_len e l
  unfold view_Owner.f ring_Keeper.f
  rw [view_Live_f e l hl k (by omega), Option.bind_some, name_Key_is s (by omega) k (by omega), Option.bind_some, owner_is _ _ (by omega) k (by omega), Option.bind_some]
  rfl
theorem take_filter {p : Int → Bool} : ∀ (n : Nat) (H : List Int), (∀ x, x ∈ H.take n → p x = true) → (H.filter p).take n = H.take n
  | 0, H, _ => by simp
  | n + 1, [], _ => by simp
  | n + 1, a :: H, h => by
    rw [List.filter_cons_of_pos (h a (by simp)), List.take_succ_cons, List.take_succ_cons, take_filter n H (fun x hx => h x (by rw [List.take_succ_cons]; exact List.mem_cons_of_mem _ hx))]
theorem numsOf_append (a b : List S44) : numsOf (a ++ b) = numsOf a ++ numsOf b := by unfold numsOf; rw [List.filter_append, List.map_append]
theorem numsOf_ne {l : List S44} {n : Int} (h : ∀ x ∈ l, x.f0 ≠ n) : (numsOf l).filter (fun x => !decide (x = n)) = numsOf l := by
  rw [List.filter_eq_self]
  intro x hx
  obtain ⟨m, hm, rfl⟩ := List.mem_map.1 hx
  have := h m (List.mem_filter.1 hm).1
  simp [this]
/-- Who is up when a node went. -/
theorem live_down (e : Int) (pre post : List S44) (m : S44) (hl : (pre ++ m :: post).length ≤ 300) (hc : chkF e (pre ++ m :: post) = true) (hu : m.f2 = true) (he : e ≠ 1099511627775) :
    liveF (e + 1) (pre ++ ⟨m.f0, m.f1, false⟩ :: post) = (liveF e (pre ++ m :: post)).filter (fun x => !decide (x = m.f0)) ∧ m.f0 ∈ liveF e (pre ++ m :: post) := by
  obtain ⟨he2, _, hn, hlife⟩ := chk_parts hc
  have hn0 := hn
  rw [List.map_append, List.map_cons] at hn
  obtain ⟨hpre, hpost⟩ := nodes_apart _ _ _ _ hn
  have hc2 : chkF (e + 1) (pre ++ ⟨m.f0, m.f1, false⟩ :: post) = true := by
    unfold chkF
    have h1 : (pre ++ (⟨m.f0, m.f1, false⟩ : S44) :: post).map (·.f0) = (pre ++ m :: post).map (·.f0) := by simp
    have h2 : (pre ++ (⟨m.f0, m.f1, false⟩ : S44) :: post).all (fun m => countB m.f1) = (pre ++ m :: post).all (fun m => countB m.f1) := by simp
    have h3 : (pre ++ m :: post).all (fun m => countB m.f1) = true := by
      rw [List.all_eq_true]
      intro x hx
      have := hlife x hx
      unfold countB
      simp [this]
    rw [h1, h2, h3, hn0]
    unfold countB
    simp
    omega
  unfold liveF
  rw [if_pos hc, if_pos hc2, numsOf_append, numsOf_append]
  have e1 : numsOf ((⟨m.f0, m.f1, false⟩ : S44) :: post) = numsOf post := by unfold numsOf; rw [List.filter_cons_of_neg (by simp)]
  have e2 : numsOf (m :: post) = m.f0 :: numsOf post := by unfold numsOf; rw [List.filter_cons_of_pos (by simp [hu])]; rfl
  rw [e1, e2, List.filter_append, List.filter_cons_of_neg (by simp), numsOf_ne (fun x hx => by have := hpre x.f0 (List.mem_map_of_mem hx); omega), numsOf_ne (fun x hx => by have := hpost x.f0 (List.mem_map_of_mem hx); omega)]
  exact ⟨rfl, by simp⟩
theorem few_is (e : Int) (l : List S44) : caduceuslaw14_few.f e l = some (decide ((l.length : Int) ≤ 40)) := rfl
theorem ViewHeirs : caduceuslaw14_ViewHeirs.Pure := by
  intro v s node _ _ _
  refine ⟨60010, ?_⟩
  generalize v.f0 = e
  generalize v.f1 = l
  unfold caduceuslaw14_ViewHeirs.f
  rw [few_is, Option.bind_some]
  have hj0 : caduceuslaw14_ViewHeirs.j0 60010 s node true e l = some true := by
    simp only [caduceuslaw14_ViewHeirs.j0]
    rw [if_pos trivial, awake_f _ (by omega)]
    rfl
  by_cases h : (l.length : Int) ≤ 40
  · rw [decide_eq_true h, if_pos rfl]
    by_cases hS : (s.size : Int) > 200
    · rw [if_pos hS]; exact hj0
    · rw [if_neg hS, view_Check_f e l (by omega) _ (by omega), Option.bind_some]
      cases hc : chkF e l with
      | false => exact hj0
      | true =>
        have hl : l.length ≤ 300 := by omega
        have hn := liveF_nodes e l hl
        have hlen := hr_len e l s hl
        have hrl := ring_len hn
        have h15 := nodesB_len hn
        simp only [caduceuslaw14_ViewHeirs.j0]
        rw [if_neg (by decide), view_Heirs_f e l s hl (by omega) _ (by omega), Option.bind_some, view_Owner_f e l s hl (by omega) _ (by omega), Option.bind_some]
        by_cases hR : ringZ (liveF e l) = []
        · have hL : (liveF e l).length = 0 := by rw [← hrl, hR]; rfl
          have hH : hrZ e l s = [] := List.eq_nil_of_length_eq_zero (by omega)
          show (if decide (ringZ (liveF e l) ≠ []) = true then _ else _) = _
          rw [decide_eq_false (fun k => k hR), if_neg (by decide), awake_f _ (by omega), Option.bind_some, if_pos rfl, view_Live_f e l hl _ (by omega), Option.bind_some, if_pos (by omega), hH]
          rfl
        · have hown := ownZ_own (keyZ s) hR
          have hup : ownZ (keyZ s) (ringZ (liveF e l)) ∈ liveF e l := (ring_node hown.1).2.1
          obtain ⟨o, r, hor⟩ : ∃ o r, hrZ e l s = o :: r := by
            cases hq : hrZ e l s with
            | nil =>
              have : 0 < (ringZ (liveF e l)).length := List.length_pos_iff.2 hR
              rw [hq] at hlen
              simp at hlen
              omega
            | cons o r => exact ⟨o, r, rfl⟩
          have hoo : ownZ (keyZ s) (ringZ (liveF e l)) = o := by
            have : heirsZ pointZ (keyZ s) (ringZ (liveF e l)) = o :: r := hor
            unfold ownZ
            rw [this]
            rfl
          have hnd : (hrZ e l s).Nodup := (heirs_perm (keyZ s) _).nodup_iff.2 (ring_nodup _)
          have ht3 : ((hrZ e l s).take 3).length ≤ 3 := by rw [List.length_take]; omega
          have htp : 0 < ((hrZ e l s).take 3).length := by rw [hor]; simp
          have ht0 : rd ((hrZ e l s).take 3) 0 = o := by rw [hor]; rfl
          show (if decide (ringZ (liveF e l) ≠ []) = true then _ else _) = _
          rw [decide_eq_true hR, if_pos rfl, if_neg (by omega), if_pos (by omega), ht0]
          show (if o = ownZ (keyZ s) (ringZ (liveF e l)) then _ else _) = _
          rw [if_pos hoo.symm]
          show ((view_IsUp.f _ e l (ownZ (keyZ s) (ringZ (liveF e l)))).bind _) = _
          unfold view_IsUp.f
          rw [view_Live_f e l hl _ (by omega), Option.bind_some, contains_is _ _ (by omega) _ (by omega), Option.bind_some, Option.bind_some, decide_eq_true hup, if_pos rfl, decide_eq_false (by omega)]
          show caduceuslaw14_ViewHeirs.j1 _ s node _ (ownZ (keyZ s) (ringZ (liveF e l))) _ e l = _
          rw [hoo]
          simp only [caduceuslaw14_ViewHeirs.j1]
          rw [if_neg (by decide)]
          have bad : ∀ (x : Int), x ≠ 0 → (Option.bind (some ((0 : Int), ([] : List S44), x)) fun bt => if bt.2.2 = 0 then ((view_Heirs.f 60008 bt.1 bt.2.1 s).bind fun t278 => ((caduceusref10_Has.f 60008 ((hrZ e l s).take 3) node).bind fun t281 => (if t281 = true then ((view_Owner.f 60008 bt.1 bt.2.1 s).bind fun bt282 => ((caduceuslaw14_awake.f 60008).bind fun t284 => (if t284 = true then (if node = o then (if bt282.2 = true then (if (((hrZ e l s).take 3).length : Int) > 1 then (if 1 < (((hrZ e l s).take 3).length : Int) then (some (bt282.1 == (rd ((hrZ e l s).take 3) 1))) else (none)) else none) else (if (((hrZ e l s).take 3).length : Int) = 1 then (some true) else none)) else (some true)) else none))) else ((caduceuslaw14_awake.f 60008).bind fun t286 => (if t286 = true then ((caduceusref10_Same.f 60008 ((hrZ e l s).take 3) t278).bind fun t287 => (some t287)) else none))))) else ((caduceuslaw14_awake.f 60008).bind fun t277 => (some t277))) = some true := by
            intro x hx
            rw [Option.bind_some, if_neg hx, awake_f _ (by omega)]
            rfl
          by_cases hnn : ∀ x ∈ l, x.f0 ≠ node
          · rw [(view_Turn_none e l node (by omega) hc hnn _ (by omega)).1]
            exact bad 4 (by decide)
          · obtain ⟨m, hm, hmn⟩ : ∃ m ∈ l, m.f0 = node := by
              rcases Classical.em (∃ m ∈ l, m.f0 = node) with h | h
              · exact h
              · exact absurd (fun x hx hxn => h ⟨x, hx, hxn⟩) hnn
            obtain ⟨pre, post, rfl⟩ := List.append_of_mem hm
            subst hmn
            rw [view_Down_found e pre post m (by omega) hc _ (by omega)]
            unfold turnF
            by_cases hu : m.f2 = false
            · rw [if_pos hu]
              exact bad 12 (by decide)
            · rw [if_neg hu]
              have hu : m.f2 = true := by simpa using hu
              by_cases he : e = 1099511627775
              · rw [if_pos he]
                exact bad 13 (by decide)
              · rw [if_neg he, if_neg (by simp), if_neg (show ¬ (false = true) by decide), Option.bind_some]
                show (if (0 : Int) = 0 then _ else _) = _
                rw [if_pos rfl]
                obtain ⟨hlv, hin⟩ := live_down e pre post m hl hc hu he
                have hl2 : (pre ++ (⟨m.f0, m.f1, false⟩ : S44) :: post).length ≤ 300 := by simp at hl ⊢; omega
                have hH2 : hrZ (e + 1) (pre ++ ⟨m.f0, m.f1, false⟩ :: post) s = (hrZ e (pre ++ m :: post) s).filter (fun x => !decide (x = m.f0)) := by
                  unfold hrZ
                  rw [hlv, ring_filter hn, heirs_filter]
                show ((view_Heirs.f _ (e + 1) (pre ++ (⟨m.f0, m.f1, false⟩ : S44) :: post) s).bind _) = _
                rw [view_Heirs_f (e + 1) _ s hl2 (by omega) _ (by omega), Option.bind_some, has_is _ _ (by omega) _ (by omega), Option.bind_some]
                by_cases hin3 : m.f0 ∈ (hrZ e (pre ++ m :: post) s).take 3
                · rw [decide_eq_true hin3, if_pos rfl]
                  show ((view_Owner.f _ (e + 1) (pre ++ (⟨m.f0, m.f1, false⟩ : S44) :: post) s).bind _) = _
                  rw [view_Owner_f (e + 1) _ s hl2 (by omega) _ (by omega), Option.bind_some, awake_f _ (by omega), Option.bind_some, if_pos rfl]
                  by_cases hno : m.f0 = o
                  · rw [if_pos hno]
                    have hH3 : heirsZ pointZ (keyZ s) (ringZ (liveF (e + 1) (pre ++ ⟨m.f0, m.f1, false⟩ :: post))) = r := by
                      have : hrZ (e + 1) (pre ++ ⟨m.f0, m.f1, false⟩ :: post) s = r := by
                        rw [hH2, hor, hno, List.filter_cons_of_neg (by simp), List.filter_eq_self]
                        intro x hx
                        rw [hor, List.nodup_cons] at hnd
                        have : x ≠ o := by rintro rfl; exact hnd.1 hx
                        simp [this]
                      exact this
                    have hlr : (ringZ (liveF (e + 1) (pre ++ ⟨m.f0, m.f1, false⟩ :: post))).length = r.length := by rw [← hH3, heirs_len]
                    show (if decide (ringZ (liveF (e + 1) (pre ++ (⟨m.f0, m.f1, false⟩ : S44) :: post)) ≠ []) = true then _ else _) = _
                    cases r with
                    | nil =>
                      rw [decide_eq_false (fun k => k (List.eq_nil_of_length_eq_zero hlr)), if_neg (by decide), hor]
                      rfl
                    | cons y r =>
                      have hne : ringZ (liveF (e + 1) (pre ++ ⟨m.f0, m.f1, false⟩ :: post)) ≠ [] := by intro k; rw [k] at hlr; simp at hlr
                      have ho2 : ownZ (keyZ s) (ringZ (liveF (e + 1) (pre ++ ⟨m.f0, m.f1, false⟩ :: post))) = y := by unfold ownZ; rw [hH3]; rfl
                      have hgt : (((o :: y :: r).take 3).length : Int) > 1 := by simp only [List.take_succ_cons, List.length_cons]; omega
                      rw [decide_eq_true hne, if_pos rfl, hor, if_pos hgt, if_pos hgt]
                      show some (ownZ (keyZ s) (ringZ (liveF (e + 1) (pre ++ (⟨m.f0, m.f1, false⟩ : S44) :: post))) == rd ((o :: y :: r).take 3) 1) = _
                      rw [ho2, show rd ((o :: y :: r).take 3) 1 = y from rfl]
                      simp
                  · rw [if_neg hno]
                · rw [decide_eq_false hin3, if_neg (by decide), awake_f _ (by omega), Option.bind_some, if_pos rfl, hH2, take_filter 3 _ (fun x hx => by
                    have : x ≠ m.f0 := by rintro rfl; exact hin3 hx
                    simp [this]), same_self _ (by omega) _ (by omega)]
                  rfl
  · rw [decide_eq_false h, if_neg (by decide)]; exact hj0

end Go.Proofs.YtpdalofhekmbeaaDoor.Pure
