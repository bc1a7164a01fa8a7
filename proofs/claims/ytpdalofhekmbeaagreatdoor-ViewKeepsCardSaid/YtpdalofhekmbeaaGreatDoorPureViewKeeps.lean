/- The law ViewKeeps, plain: over the printed functions; lemmas of the layers ring, name and view, and the law itself. -/
import Derived.Test.YtpdalofhekmbeaaGreatDoorPViewKeepsy
import Derived.Lib.MapLaws
import Derived.Lib.ValidAsc
import Derived.Lib.SplitLaws
namespace Go.Proofs.YtpdalofhekmbeaaGreatDoor.Pure
open Go.Lib Go.Shelf Go.RowKit Go.Proofs.YtpdalofhekmbeaaGreatDoor.PViewKeeps Go.Proofs.YtpdalofhekmbeaaGreatDoorW.PrintWords Go.Proofs.YtpdalofhekmbeaaGreatDoorW.PrintLast Go.Proofs.YtpdalofhekmbeaaGreatDoorW.PrintMore
set_option linter.unusedSimpArgs false
set_option linter.unusedVariables false
namespace RQ
variable {P : Int → Int}
def ah (P : Int → Int) (a b : Int) : Prop := P a < P b ∨ (P a = P b ∧ a < b)
instance (P : Int → Int) (a b : Int) : Decidable (ah P a b) := inferInstanceAs (Decidable (_ ∨ _))
theorem ah_as {a b : Int} (h : ah P a b) (k : ah P b a) : False := by unfold ah at *; omega
theorem ah_le {a b : Int} (h : ah P a b) : P a ≤ P b := by unfold ah at *; omega
theorem ah_irr {a : Int} (h : ah P a a) : False := ah_as h h
theorem ah_tot {a b : Int} (h : a ≠ b) : ah P a b ∨ ah P b a := by unfold ah; omega
theorem sorted_eq {s t : List Int} (hs : s.Pairwise (ah P)) (ht : t.Pairwise (ah P)) (h : s.Perm t) : s = t :=
  List.Perm.eq_of_pairwise (fun _ _ _ _ h1 h2 => (ah_as h1 h2).elim) hs ht h
/-- A ring cut at a key. -/
def heirsZ (P : Int → Int) (key : Int) (s : List Int) : List Int := s.filter (fun x => decide (key ≤ P x)) ++ s.filter (fun x => !decide (key ≤ P x))
theorem cut_at {s : List Int} (hs : s.Pairwise (ah P)) (key : Int) (i : Nat) (h1 : ∀ x, x ∈ s.take i → P x < key) (h2 : ∀ x, (s.drop i).head? = some x → key ≤ P x) :
    s.filter (fun x => decide (key ≤ P x)) = s.drop i ∧ s.filter (fun x => !decide (key ≤ P x)) = s.take i := by
  have hd : ∀ x, x ∈ s.drop i → key ≤ P x := by
    intro x hx
    have hp : (s.drop i).Pairwise (ah P) := List.Pairwise.sublist (List.drop_sublist i s) hs
    cases hq : s.drop i with
    | nil => rw [hq] at hx; cases hx
    | cons y ys =>
      rw [hq] at hx hp h2
      have hy := h2 y rfl
      rcases List.mem_cons.1 hx with rfl | hx
      · exact hy
      · have := ah_le ((List.pairwise_cons.1 hp).1 x hx)
        omega
  have e : s = s.take i ++ s.drop i := (List.take_append_drop i s).symm
  constructor
  · conv => lhs; rw [e]
    rw [List.filter_append, List.filter_eq_nil_iff.2 (by intro x hx; have := h1 x hx; simp; omega), List.filter_eq_self.2 (by intro x hx; have := hd x hx; simp; omega), List.nil_append]
  · conv => lhs; rw [e]
    rw [List.filter_append, List.filter_eq_self.2 (by intro x hx; have := h1 x hx; simp; omega), List.filter_eq_nil_iff.2 (by intro x hx; have := hd x hx; simp; omega), List.append_nil]
theorem heirs_at {s : List Int} (hs : s.Pairwise (ah P)) (key : Int) (i : Nat) (h1 : ∀ x, x ∈ s.take i → P x < key) (h2 : ∀ x, (s.drop i).head? = some x → key ≤ P x) : heirsZ P key s = s.drop i ++ s.take i := by
  obtain ⟨a, b⟩ := cut_at hs key i h1 h2
  unfold heirsZ
  rw [a, b]
theorem heirs_perm (key : Int) (s : List Int) : (heirsZ P key s).Perm s := List.filter_append_perm _ s
theorem heirs_mem (key : Int) (s : List Int) (x : Int) : x ∈ heirsZ P key s ↔ x ∈ s := (heirs_perm key s).mem_iff
theorem heirs_len (key : Int) (s : List Int) : (heirsZ P key s).length = s.length := (heirs_perm key s).length_eq
theorem heirs_filter (key : Int) (s : List Int) (p : Int → Bool) : heirsZ P key (s.filter p) = (heirsZ P key s).filter p := by
  unfold heirsZ
  rw [List.filter_append]
  simp only [List.filter_filter]
  congr 1 <;> (apply List.filter_congr; intro x _; exact Bool.and_comm _ _)
/-- The first place of an element for which p holds, or -1. -/
def idxQ (p : Int → Bool) : List Int → Int → Int
  | [], _ => -1
  | x :: l, i => if p x then i else idxQ p l (i + 1)
theorem idxQ_spec (p : Int → Bool) : ∀ (l : List Int) (i : Int), (idxQ p l i = -1 ∧ ∀ x, x ∈ l → p x = false) ∨ ∃ j : Nat, idxQ p l i = i + j ∧ (∀ x, x ∈ l.take j → p x = false) ∧ ∃ x, (l.drop j).head? = some x ∧ p x = true
  | [], i => .inl ⟨rfl, by intro x hx; cases hx⟩
  | y :: l, i => by
    unfold idxQ
    by_cases h : p y = true
    · right
      rw [if_pos h]
      exact ⟨0, by simp, (by intro x hx; cases hx), y, rfl, h⟩
    · rw [if_neg h]
      have h := Bool.eq_false_iff.2 h
      rcases idxQ_spec p l (i + 1) with ⟨h1, h2⟩ | ⟨j, h1, h2, x, h3, h4⟩
      · exact .inl ⟨h1, by intro x hx; rcases List.mem_cons.1 hx with rfl | hx; exact h; exact h2 x hx⟩
      · right
        refine ⟨j + 1, by rw [h1]; omega, ?_, x, h3, h4⟩
        intro z hz
        rcases List.mem_cons.1 hz with rfl | hz
        · exact h
        · exact h2 z hz
/-- The program's cut: the place of the first one at or behind the key, or 0. -/
theorem heirs_idx {s : List Int} (hs : s.Pairwise (ah P)) (key : Int) :
    s.drop (max (idxQ (fun x => decide (key ≤ P x)) s 0) 0).toNat ++ s.take (max (idxQ (fun x => decide (key ≤ P x)) s 0) 0).toNat = heirsZ P key s := by
  rcases idxQ_spec (fun x => decide (key ≤ P x)) s 0 with ⟨h1, h2⟩ | ⟨j, h1, h2, x, h3, h4⟩
  · rw [h1]
    have h2' : ∀ x, x ∈ s → P x < key := by intro x hx; have := h2 x hx; simp at this; omega
    have := heirs_at hs key s.length (by intro x hx; rw [List.take_length] at hx; exact h2' x hx) (by intro x hx; simp at hx)
    rw [this, show (max (-1 : Int) 0).toNat = 0 from rfl]
    simp
  · rw [h1]
    have e : (max (0 + (j : Int)) 0).toNat = j := by omega
    rw [e]
    refine (heirs_at hs key j ?_ ?_).symm
    · intro x hx
      have := h2 x hx
      simp at this
      omega
    · intro y hy
      rw [h3] at hy
      injection hy with hy
      subst hy
      simpa using h4
/-- Nodes, in order. -/
def NL (l : List Int) : Prop := (∀ n, n ∈ l → 1 ≤ n ∧ n ≤ 15) ∧ l.Pairwise (· < ·)
theorem NL.nodup {l : List Int} (h : NL l) : l.Nodup := h.2.imp (fun h => by omega)
theorem NL.filter {l : List Int} (h : NL l) (p : Int → Bool) : NL (l.filter p) := ⟨fun n hn => h.1 n (List.mem_filter.1 hn).1, h.2.filter p⟩
theorem nl_len : ∀ (l : List Int) (a : Int), l.Pairwise (· < ·) → (∀ n, n ∈ l → a ≤ n ∧ n ≤ 15) → a ≤ 16 → (l.length : Int) ≤ 16 - a
  | [], a, _, _, h => by simp; omega
  | x :: l, a, hp, hm, h => by
    have hx := hm x List.mem_cons_self
    have hq := List.pairwise_cons.1 hp
    have := nl_len l (x + 1) hq.2 (fun n hn => ⟨by have := hq.1 n hn; omega, (hm n (List.mem_cons_of_mem _ hn)).2⟩) (by omega)
    simp only [List.length_cons]
    omega
theorem NL.len {l : List Int} (h : NL l) : l.length ≤ 15 := by
  have := nl_len l 1 h.2 h.1 (by omega)
  omega
/-- A ring of nodes: they in the order of their points. -/
structure IsRing (P : Int → Int) (l s : List Int) : Prop where
  perm : s.Perm l
  ord : s.Pairwise (ah P)
theorem IsRing.filter {l s : List Int} (h : IsRing P l s) (p : Int → Bool) : IsRing P (l.filter p) (s.filter p) := ⟨h.perm.filter p, h.ord.filter p⟩
theorem IsRing.uniq {l s t : List Int} (h : IsRing P l s) (k : IsRing P l t) : s = t := sorted_eq h.ord k.ord (h.perm.trans k.perm.symm)
/-- How many stand ahead. -/
def rank (P : Int → Int) (l : List Int) (x : Int) : Nat := l.countP (fun y => decide (ah P y x))
theorem rank_at {l s : List Int} (h : IsRing P l s) (j : Nat) (hj : j < s.length) : rank P l s[j] = j := by
  unfold rank
  rw [← h.perm.countP_eq]
  have ho := h.ord
  rw [List.pairwise_iff_getElem] at ho
  have e : s = s.take j ++ s[j] :: s.drop (j + 1) := by rw [List.getElem_cons_drop, List.take_append_drop]
  have h1 : (s.take j).countP (fun y => decide (ah P y s[j])) = (s.take j).length := by
    rw [List.countP_eq_length]
    intro x hx
    obtain ⟨i, hi, rfl⟩ := List.getElem_of_mem hx
    rw [List.getElem_take]
    simp only [decide_eq_true_eq]
    simp at hi
    exact ho i j (by omega) hj (by omega)
  have h2 : (s.drop (j + 1)).countP (fun y => decide (ah P y s[j])) = 0 := by
    rw [List.countP_eq_zero]
    intro x hx
    obtain ⟨i, hi, rfl⟩ := List.getElem_of_mem hx
    rw [List.getElem_drop]
    have := ho j (j + 1 + i) hj (by simp at hi; omega) (by omega)
    simp only [decide_eq_true_eq]
    exact fun k => ah_as this k
  generalize s[j] = y at *
  rw [e, List.countP_append, List.countP_cons, h1, h2, if_neg (by simp; exact fun h => ah_irr h)]
  simp
  omega
theorem filter_one {p : Int → Bool} {y : Int} : ∀ (l : List Int), l.Nodup → y ∈ l → (∀ x, x ∈ l → (p x = true ↔ x = y)) → l.filter p = [y]
  | [], _, h, _ => by cases h
  | x :: l, hn, hm, key => by
    rw [List.nodup_cons] at hn
    by_cases hx : x = y
    · subst hx
      rw [List.filter_cons_of_pos ((key x List.mem_cons_self).2 rfl), List.filter_eq_nil_iff.2]
      intro z hz hp
      have := (key z (List.mem_cons_of_mem _ hz)).1 hp
      subst this
      exact hn.1 hz
    · rw [List.filter_cons_of_neg (fun hp => hx ((key x List.mem_cons_self).1 hp))]
      refine filter_one l hn.2 ?_ (fun z hz => key z (List.mem_cons_of_mem _ hz))
      rcases List.mem_cons.1 hm with h | h
      · exact absurd h.symm hx
      · exact h
/-- Of each place one of the nodes. -/
theorem rank_pick {l s : List Int} (h : IsRing P l s) (hn : l.Nodup) (j : Nat) (hj : j < s.length) : l.filter (fun x => decide (rank P l x = j)) = [s[j]] := by
  refine filter_one l hn (h.perm.mem_iff.1 (List.getElem_mem hj)) ?_
  intro x hx
  obtain ⟨i, hi, rfl⟩ := List.getElem_of_mem (h.perm.mem_iff.2 hx)
  rw [decide_eq_true_eq, rank_at h i hi]
  constructor
  · rintro rfl; rfl
  · intro e
    have ho := h.ord
    rw [List.pairwise_iff_getElem] at ho
    rcases Nat.lt_trichotomy i j with k | k | k
    · have := ho i j hi hj k; rw [e] at this; exact (ah_irr this).elim
    · exact k
    · have := ho j i hj hi k; rw [e] at this; exact (ah_irr this).elim
/-- The document's ring: place by place. -/
theorem by_rank {l s : List Int} (h : IsRing P l s) (hn : l.Nodup) : (List.range l.length).flatMap (fun j => l.filter (fun x => decide (rank P l x = j))) = s := by
  rw [← h.perm.length_eq]
  have : ∀ m, m ≤ s.length → (List.range m).flatMap (fun j => l.filter (fun x => decide (rank P l x = j))) = s.take m := by
    intro m
    induction m with
    | zero => intro _; simp
    | succ m ih =>
      intro hm
      rw [List.range_succ, List.flatMap_append, ih (by omega)]
      simp only [List.flatMap_cons, List.flatMap_nil, List.append_nil]
      rw [rank_pick h hn m (by omega), List.take_succ_eq_append_getElem (by omega)]
  rw [this _ (Nat.le_refl _), List.take_length]
theorem nodup_sub_len : ∀ {l m : List Int}, l.Nodup → (∀ x, x ∈ l → x ∈ m) → l.length ≤ m.length
  | [], m, _, _ => Nat.zero_le _
  | x :: l, m, hn, hs => by
    rw [List.nodup_cons] at hn
    have hx := hs x List.mem_cons_self
    have h1 := nodup_sub_len (l := l) (m := m.erase x) hn.2 (fun y hy => by
      refine (List.mem_erase_of_ne ?_).2 (hs y (List.mem_cons_of_mem _ hy))
      rintro rfl
      exact hn.1 hy)
    rw [List.length_erase_of_mem hx] at h1
    have : 0 < m.length := List.length_pos_of_mem hx
    simp only [List.length_cons]
    omega
/-- The owner of a key. -/
def OwnQ (P : Int → Int) (key : Int) (s : List Int) (o : Int) : Prop := o ∈ s ∧ ((key ≤ P o ∧ ∀ x, x ∈ s → key ≤ P x → P o ≤ P x) ∨ ((∀ x, x ∈ s → P x < key) ∧ ∀ x, x ∈ s → P o ≤ P x))
theorem own_head {s : List Int} (hs : s.Pairwise (ah P)) (key o : Int) (r : List Int) (h : heirsZ P key s = o :: r) : OwnQ P key s o := by
  have hm : o ∈ s := (heirs_mem (P := P) key s o).1 (by rw [h]; exact List.mem_cons_self)
  refine ⟨hm, ?_⟩
  unfold heirsZ at h
  cases hf : s.filter (fun x => decide (key ≤ P x)) with
  | nil =>
    right
    rw [hf, List.nil_append] at h
    have hlt : ∀ x, x ∈ s → P x < key := by
      intro x hx
      have := List.filter_eq_nil_iff.1 hf x hx
      simp at this
      omega
    refine ⟨hlt, fun x hx => ?_⟩
    have hs2 : s.filter (fun x => !decide (key ≤ P x)) = s := List.filter_eq_self.2 (by intro x hx; have := hlt x hx; simp; omega)
    rw [hs2] at h
    subst h
    rcases List.mem_cons.1 hx with rfl | hx
    · exact Int.le_refl _
    · exact ah_le ((List.pairwise_cons.1 hs).1 x hx)
  | cons y ys =>
    left
    rw [hf] at h
    obtain ⟨rfl, _⟩ := List.cons.inj h
    have hp : (s.filter (fun x => decide (key ≤ P x))).Pairwise (ah P) := hs.filter _
    have hy : y ∈ s.filter (fun x => decide (key ≤ P x)) := by rw [hf]; exact List.mem_cons_self
    refine ⟨by simpa using (List.mem_filter.1 hy).2, fun x hx hk => ?_⟩
    have hx : x ∈ s.filter (fun x => decide (key ≤ P x)) := List.mem_filter.2 ⟨hx, by simpa using hk⟩
    rw [hf] at hx hp
    rcases List.mem_cons.1 hx with rfl | hx
    · exact Int.le_refl _
    · exact ah_le ((List.pairwise_cons.1 hp).1 x hx)
/-- How far from a node to a key. -/
def far (P : Int → Int) (key n : Int) : Int := (key - P n) % 18446744073709551616
theorem far_is {key n : Int} (k0 : 0 ≤ key) (k1 : key < 18446744073709551616) (p0 : 0 ≤ P n) (p1 : P n < 18446744073709551616) : far P key n = if P n ≤ key then key - P n else key - P n + 18446744073709551616 := by
  unfold far
  split <;> omega
theorem next_near {s : List Int} {key k1 from_ o nx : Int} (hb : ∀ x, x ∈ s → 0 ≤ P x ∧ P x < 18446744073709551616) (inj : ∀ x y, x ∈ s → y ∈ s → P x = P y → x = y)
    (a0 : 0 ≤ key) (a1 : key < 18446744073709551616) (hf : from_ ∈ s) (ho : OwnQ P key s o) (hk : k1 = (P from_ + 1) % 18446744073709551616) (hn : OwnQ P k1 s nx) (h1 : from_ ≠ o) (h2 : nx ≠ o) : far P key nx < far P key from_ := by
  obtain ⟨om, ho⟩ := ho
  obtain ⟨nm, hn⟩ := hn
  have bf := hb _ hf
  have bo := hb _ om
  have bn := hb _ nm
  rw [far_is a0 a1 bf.1 bf.2, far_is a0 a1 bn.1 bn.2]
  have e1 : P from_ ≠ P o := fun h => h1 (inj _ _ hf om h)
  have e2 : P nx ≠ P o := fun h => h2 (inj _ _ nm om h)
  rcases ho with ⟨u1, u2⟩ | ⟨u1, u2⟩ <;> rcases hn with ⟨v1, v2⟩ | ⟨v1, v2⟩
  · have x1 := u2 _ hf; have x2 := u2 _ nm; have y1 := v2 _ hf; have y2 := v2 _ om
    split <;> split <;> omega
  · have x1 := u2 _ hf; have x2 := u2 _ nm; have y1 := v2 _ hf; have y2 := v2 _ om; have z1 := v1 _ om; have z2 := v1 _ nm
    split <;> split <;> omega
  · have x1 := u2 _ hf; have x2 := u2 _ nm; have y1 := v2 _ hf; have y2 := v2 _ om; have z1 := u1 _ hf; have z2 := u1 _ nm; have z3 := u1 _ om
    split <;> split <;> omega
  · have x1 := u2 _ hf; have x2 := u2 _ nm; have y1 := v2 _ hf; have y2 := v2 _ om; have z1 := u1 _ hf; have z2 := u1 _ nm; have z3 := u1 _ om; have w1 := v1 _ om; have w2 := v1 _ nm
    split <;> split <;> omega
theorem next_ne {s : List Int} {k1 from_ nx y : Int} (hb : ∀ x, x ∈ s → 0 ≤ P x ∧ P x < 18446744073709551616) (inj : ∀ x y, x ∈ s → y ∈ s → P x = P y → x = y)
    (hf : from_ ∈ s) (hy : y ∈ s) (hne : y ≠ from_) (hk : k1 = (P from_ + 1) % 18446744073709551616) (hn : OwnQ P k1 s nx) : nx ≠ from_ := by
  rintro rfl
  obtain ⟨nm, hn⟩ := hn
  have bf := hb _ hf
  have bo := hb _ hy
  have e1 : P y ≠ P nx := fun h => hne (inj _ _ hy hf h)
  rcases hn with ⟨v1, v2⟩ | ⟨v1, v2⟩
  · have y1 := v2 _ hy; omega
  · have y1 := v2 _ hy; have y2 := v1 _ hy; omega
/-- A way: each step comes by another node; it ends at the owner. -/
structure IsWay (s : List Int) (hop : Int → Int) (o : Int) (w : List Int) : Prop where
  mem : ∀ x, x ∈ w → x ∈ s
  last : w.getLast? = some o
  step : ∀ i a b, w[i]? = some a → w[i + 1]? = some b → a ≠ o ∧ hop a = b
  nodup : w.Nodup
theorem way_of {s : List Int} {hop : Int → Int} {o : Int} {D : Int → Int} (ho : o ∈ s) (hD : ∀ x, 0 ≤ D x) (hh : ∀ a, a ∈ s → a ≠ o → hop a ∈ s ∧ (hop a = o ∨ hop a ≠ o ∧ D (hop a) < D a)) :
    ∀ (d : Nat) (a : Int), a ∈ s → (D a).toNat < d → ∃ w, IsWay s hop o (a :: w) ∧ ∀ x, x ∈ w → x = o ∨ D x < D a := by
  intro d
  induction d with
  | zero => intro a _ h; omega
  | succ d ih =>
    intro a ha hd
    by_cases hao : a = o
    · subst hao
      exact ⟨[], ⟨by intro x hx; rcases List.mem_singleton.1 hx with rfl; exact ho, rfl, by intro i a b h1 h2; simp at h2, by simp⟩, by intro x hx; cases hx⟩
    · obtain ⟨hm, h | ⟨h1, h2⟩⟩ := hh a ha hao
      · refine ⟨[o], ⟨?_, rfl, ?_, ?_⟩, ?_⟩
        · intro x hx
          simp at hx
          rcases hx with rfl | rfl <;> assumption
        · intro i x y h3 h4
          cases i with
          | zero =>
            simp at h3 h4
            subst h3 h4
            exact ⟨hao, h⟩
          | succ i => simp at h4
        · simp [hao]
        · intro x hx; simp at hx; exact .inl hx
      · have hda := hD (hop a)
        obtain ⟨w, hw, hl⟩ := ih (hop a) hm (by omega)
        refine ⟨hop a :: w, ⟨?_, ?_, ?_, ?_⟩, ?_⟩
        · intro x hx
          rcases List.mem_cons.1 hx with rfl | hx
          · exact ha
          · exact hw.mem x hx
        · rw [List.getLast?_cons_cons]; exact hw.last
        · intro i x y h3 h4
          cases i with
          | zero =>
            simp at h3 h4
            subst h3 h4
            exact ⟨hao, rfl⟩
          | succ i => exact hw.step i x y (by simpa using h3) (by simpa using h4)
        · rw [List.nodup_cons]
          refine ⟨?_, hw.nodup⟩
          intro hx
          rcases List.mem_cons.1 hx with e | hx
          · rw [← e] at h2; omega
          · rcases hl a hx with e | e
            · exact hao e
            · omega
        · intro x hx
          rcases List.mem_cons.1 hx with rfl | hx
          · exact .inr h2
          · rcases hl x hx with e | e
            · exact .inl e
            · right; omega
end RQ
open RQ
theorem wrap1 {i : Int} (h0 : 0 ≤ i) (h : i < 4611686018427387904) : wrap64 (i + 1) = i + 1 := by unfold wrap64; omega
theorem wrapm {i : Int} (h0 : 0 < i) (h : i < 4611686018427387904) : wrap64 (i - 1) = i - 1 := by unfold wrap64; omega
theorem rd_at {l : List Int} {i : Nat} : rd l (i : Int) = l.getD i 0 := rfl
theorem rd_lt {l : List Int} {i : Nat} (h : i < l.length) : rd l (i : Int) = l[i] := by rw [rd_at, List.getD_eq_getElem?_getD, List.getElem?_eq_getElem h]; rfl
theorem node_is (a : Int) : ring_node.f a = some (decide (1 ≤ a ∧ a ≤ 15)) := by
  unfold ring_node.f
  split
  · congr 1; simp; omega
  · congr 1; simp; omega
def okAt (l : List Int) (i : Nat) : Bool := decide (1 ≤ l.getD i 0 ∧ l.getD i 0 ≤ 15 ∧ (0 < i → l.getD (i - 1) 0 < l.getD i 0))
theorem nodes_l0 (l : List Int) (hl : l.length < 4611686018427387904) : ∀ (d k i : Nat), i + d = l.length → d < k → ring_Nodes.l0 k l l (l.length : Int) (i : Int) = some ((List.range' i d).all (okAt l)) := by
  intro d
  induction d with
  | zero =>
    intro k i h hk
    obtain ⟨k, rfl⟩ : ∃ m, k = m + 1 := ⟨k - 1, by omega⟩
    simp only [ring_Nodes.l0]
    rw [if_neg (by omega)]
    rfl
  | succ d ih =>
    intro k i h hk
    obtain ⟨k, rfl⟩ : ∃ m, k = m + 1 := ⟨k - 1, by omega⟩
    have ihh := ih k (i + 1) (by omega) (by omega)
    rw [List.range'_succ, List.all_cons]
    simp only [ring_Nodes.l0]
    rw [if_pos (by omega), if_pos (by omega), if_pos (by omega), node_is, Option.bind_some, rd_at, wrap1 (by omega) (by omega), show ((i : Int) + 1) = ((i + 1 : Nat) : Int) from by omega, ihh]
    unfold okAt
    by_cases h1 : 1 ≤ l.getD i 0 ∧ l.getD i 0 ≤ 15
    · rw [decide_eq_true h1, if_pos rfl]
      by_cases h2 : (i : Int) > 0
      · rw [if_pos h2, wrapm (by omega) (by omega), if_pos (by omega), if_pos (by omega), show ((i : Int) - 1) = ((i - 1 : Nat) : Int) from by omega, rd_at]
        by_cases h3 : l.getD (i - 1) 0 ≥ l.getD i 0
        · rw [if_pos h3, decide_eq_false (by omega)]; rfl
        · rw [if_neg h3, decide_eq_true (by omega)]; rfl
      · rw [if_neg h2, decide_eq_true (by omega)]; rfl
    · rw [decide_eq_false h1, if_neg (by decide), decide_eq_false (by omega)]; rfl
def nodesB (l : List Int) : Bool := (List.range' 0 l.length).all (okAt l)
theorem nodes_is (l : List Int) (hl : l.length < 4611686018427387904) (k : Nat) (hk : l.length < k) : ring_Nodes.f k l = some (nodesB l) := nodes_l0 l hl l.length k 0 (by omega) hk
theorem ref_nodes_l0 (l : List Int) (hl : l.length < 4611686018427387904) : ∀ (d k i : Nat), i + d = l.length → d < k → caduceusref10_Nodes.l0 k l (i : Int) = some ((List.range' i d).all (okAt l)) := by
  intro d
  induction d with
  | zero =>
    intro k i h hk
    obtain ⟨k, rfl⟩ : ∃ m, k = m + 1 := ⟨k - 1, by omega⟩
    simp only [caduceusref10_Nodes.l0]
    rw [if_neg (by omega)]
    rfl
  | succ d ih =>
    intro k i h hk
    obtain ⟨k, rfl⟩ : ∃ m, k = m + 1 := ⟨k - 1, by omega⟩
    have ihh := ih k (i + 1) (by omega) (by omega)
    rw [List.range'_succ, List.all_cons]
    simp only [caduceusref10_Nodes.l0]
    rw [if_pos (by omega), if_pos (by omega), rd_at, wrap1 (by omega) (by omega), show ((i : Int) + 1) = ((i + 1 : Nat) : Int) from by omega, ihh]
    unfold okAt
    by_cases h1 : l.getD i 0 < 1
    · rw [if_pos h1, decide_eq_false (by omega)]; rfl
    · rw [if_neg h1]
      by_cases h4 : l.getD i 0 > 15
      · rw [if_pos h4, decide_eq_false (by omega)]; rfl
      · rw [if_neg h4]
        by_cases h2 : (i : Int) > 0
        · rw [if_pos h2, wrapm (by omega) (by omega), if_pos (by omega), if_pos (by omega), show ((i : Int) - 1) = ((i - 1 : Nat) : Int) from by omega, rd_at]
          by_cases h3 : l.getD i 0 ≤ l.getD (i - 1) 0
          · rw [if_pos h3, decide_eq_false (by omega)]; rfl
          · rw [if_neg h3, decide_eq_true (by omega)]; rfl
        · rw [if_neg h2, decide_eq_true (by omega)]; rfl
theorem ref_nodes_is (l : List Int) (hl : l.length < 4611686018427387904) (k : Nat) (hk : l.length < k) : caduceusref10_Nodes.f k l = some (nodesB l) := ref_nodes_l0 l hl l.length k 0 (by omega) hk
theorem nodesB_at {l : List Int} (h : nodesB l = true) (i : Nat) (hi : i < l.length) : 1 ≤ l[i] ∧ l[i] ≤ 15 ∧ (∀ h0 : 0 < i, l[i - 1] < l[i]) := by
  have := List.all_eq_true.1 h i (by simp; exact hi)
  unfold okAt at this
  have := of_decide_eq_true this
  rw [List.getD_eq_getElem?_getD, List.getElem?_eq_getElem hi, List.getD_eq_getElem?_getD, List.getElem?_eq_getElem (show i - 1 < l.length by omega)] at this
  exact this
theorem nodesB_NL {l : List Int} (h : nodesB l = true) : NL l := by
  have key : ∀ d i : Nat, ∀ hd : i + d + 1 < l.length, l[i] < l[i + d + 1] := by
    intro d
    induction d with
    | zero => intro i hd; exact (nodesB_at h (i + 1) hd).2.2 (by omega)
    | succ d ih =>
      intro i hd
      have h1 := ih i (by omega)
      have h2 := (nodesB_at h (i + d + 1 + 1) hd).2.2 (by omega)
      have h3 : l[i + d + 1 + 1 - 1] = l[i + d + 1] := rfl
      have h4 : l[i + (d + 1) + 1] = l[i + d + 1 + 1] := rfl
      omega
  refine ⟨fun n hn => ?_, ?_⟩
  · obtain ⟨i, hi, rfl⟩ := List.getElem_of_mem hn
    have := nodesB_at h i hi
    exact ⟨this.1, this.2.1⟩
  · rw [List.pairwise_iff_getElem]
    intro i j hi hj hij
    obtain ⟨d, rfl⟩ : ∃ d, j = i + d + 1 := ⟨j - i - 1, by omega⟩
    exact key d i hj
def ptsL : List Int := [16628126286859847954, 16628125187348219743, 16628124087836591532, 16628122988324963321, 16628121888813335110, 16628120789301706899, 16628119689790078688, 16628136182464501853, 16628135082952873642, 13480914007558505670, 13480915107070133881, 13480911808535249248, 13480912908046877459, 13480918405605018514, 13480919505116646725]
theorem pts_all : ((List.range 15).map fun i : Nat => ring_Point.f 40 ((i : Int) + 1)) = ptsL.map some := by kernel_rfl
theorem ref_pts_all : ((List.range 15).map fun i : Nat => caduceusref10_Point.f 40 ((i : Int) + 1)) = ptsL.map some := by kernel_rfl
theorem pt_at {n : Int} (h : 1 ≤ n ∧ n ≤ 15) : ring_Point.f 40 n = ptsL[(n - 1).toNat]? := by
  have := congrArg (fun l => l[(n - 1).toNat]?) pts_all
  simp only [List.getElem?_map] at this
  rw [List.getElem?_range (by omega), Option.map_some, show (((n - 1).toNat : Nat) : Int) + 1 = n from by omega] at this
  cases hq : ptsL[(n - 1).toNat]? with
  | none => rw [hq] at this; cases this
  | some p => rw [hq] at this; exact Option.some.inj this
theorem ref_pt_at {n : Int} (h : 1 ≤ n ∧ n ≤ 15) : caduceusref10_Point.f 40 n = ptsL[(n - 1).toNat]? := by
  have := congrArg (fun l => l[(n - 1).toNat]?) ref_pts_all
  simp only [List.getElem?_map] at this
  rw [List.getElem?_range (by omega), Option.map_some, show (((n - 1).toNat : Nat) : Int) + 1 = n from by omega] at this
  cases hq : ptsL[(n - 1).toNat]? with
  | none => rw [hq] at this; cases this
  | some p => rw [hq] at this; exact Option.some.inj this
theorem pointZ_out {n : Int} (h : ¬ (1 ≤ n ∧ n ≤ 15)) : pointZ n = 0 := by
  unfold pointZ ring_Point.f
  rw [node_is, Option.bind_some, decide_eq_false h, if_neg (by decide)]
  rfl
theorem ref_point_is (n : Int) (k : Nat) (hk : 40 ≤ k) : caduceusref10_Point.f k n = some (pointZ n) := by
  by_cases h : 1 ≤ n ∧ n ≤ 15
  · refine at_rounds (g := fun k => caduceusref10_Point.f k n) (fun k => caduceusref10_Point.mono n k) hk ?_
    show caduceusref10_Point.f 40 n = _
    rw [ref_pt_at h, ← pt_at h, point_some]
  · obtain ⟨k, rfl⟩ : ∃ m, k = m + 1 := ⟨k - 1, by omega⟩
    rw [pointZ_out h]
    unfold caduceusref10_Point.f
    split
    · simp [caduceusref10_Point.j0]
    · simp only [caduceusref10_Point.j0]
      rw [if_pos (by simp; omega)]
theorem ahead_is (a b : Int) (k : Nat) (hk : 40 ≤ k) : caduceusref10_ahead.f k a b = some (decide (ah pointZ a b)) := by
  unfold caduceusref10_ahead.f
  simp only [ref_point_is _ k hk, Option.bind_some]
  split
  · rw [decide_eq_true (show ah pointZ a b from .inl ‹_›)]
  · split
    · congr 1
      rw [decide_eq_decide]
      unfold ah
      omega
    · rw [decide_eq_false (by unfold ah; omega)]
theorem ltOf_ah (x y : Int) : ltOf cmpZ x y = decide (ah pointZ x y) := by
  rw [Bool.eq_iff_iff, lt_iff, decide_eq_true_eq]
  rfl
theorem sortZ_ring (l : List Int) (hn : l.Nodup) : IsRing pointZ l (sortZ l) := by
  have hp : (sortZ l).Perm l := List.mergeSort_perm l _
  have ho := List.pairwise_mergeSort (le := fun x y : Int => !(ltOf cmpZ y x))
    (fun a b c h1 h2 => by
      rw [ltOf_ah, Bool.not_eq_true', decide_eq_false_iff_not] at *
      unfold ah at *
      omega)
    (fun a b => by
      rw [ltOf_ah, ltOf_ah, Bool.or_eq_true, Bool.not_eq_true', Bool.not_eq_true', decide_eq_false_iff_not, decide_eq_false_iff_not]
      unfold ah
      omega) l
  refine ⟨hp, ?_⟩
  have hd : (sortZ l).Nodup := hp.nodup_iff.2 hn
  have := List.Pairwise.and ho hd
  refine List.Pairwise.imp ?_ this
  rintro a b ⟨h1, h2⟩
  simp only [ltOf_ah, Bool.not_eq_true', decide_eq_false_iff_not] at h1
  rcases ah_tot (P := pointZ) h2 with h | h
  · exact h
  · exact absurd h h1
def ringZ (l : List Int) : List Int := if nodesB l = true then sortZ l else []
theorem nodesB_len {l : List Int} (h : nodesB l = true) : l.length ≤ 15 := (nodesB_NL h).len
theorem ring_is (l : List Int) (hl : l.length < 4611686018427387904) (k : Nat) (hk : l.length < k) : ring_Ring.f k l = some (ringZ l) := by
  unfold ring_Ring.f ringZ
  rw [nodes_is l hl k hk, Option.bind_some]
  split
  · rename_i h
    have := nodesB_len h
    rw [if_pos (by omega)]
  · rfl
theorem nodesB_ring {l : List Int} (h : nodesB l = true) : IsRing pointZ l (ringZ l) := by
  unfold ringZ
  rw [if_pos h]
  exact sortZ_ring l (nodesB_NL h).nodup
theorem ring_ord (l : List Int) : (ringZ l).Pairwise (ah pointZ) := by
  by_cases h : nodesB l = true
  · exact (nodesB_ring h).ord
  · unfold ringZ; rw [if_neg h]; exact List.Pairwise.nil
theorem ring_node {l : List Int} {x : Int} (h : x ∈ ringZ l) : nodesB l = true ∧ x ∈ l ∧ 1 ≤ x ∧ x ≤ 15 := by
  by_cases hn : nodesB l = true
  · have hx := (nodesB_ring hn).perm.mem_iff.1 h
    exact ⟨hn, hx, (nodesB_NL hn).1 x hx⟩
  · unfold ringZ at h; rw [if_neg hn] at h; cases h
theorem ring_len15 (l : List Int) : (ringZ l).length ≤ 15 := by
  by_cases hn : nodesB l = true
  · rw [(nodesB_ring hn).perm.length_eq]; exact nodesB_len hn
  · unfold ringZ; rw [if_neg hn]; simp
theorem ring_first_is (key : Int) (l : List Int) : ring_first.f key l = some (max (idxFR (fun x => decide (key ≤ pointZ x)) l 0) 0) := rfl
theorem idxF_eq (p : Int → Bool) : ∀ (l : List Int) (i : Int), idxFR p l i = idxQ p l i
  | [], i => rfl
  | x :: l, i => by unfold idxFR idxQ; rw [idxF_eq p l]
theorem heirs_first {s : List Int} (hs : s.Pairwise (ah pointZ)) (key : Int) (hne : s ≠ []) : ∃ i : Nat, ∃ h : i < s.length, ring_first.f key s = some (i : Int) ∧ heirsZ pointZ key s = s.drop i ++ s.take i ∧ (heirsZ pointZ key s).head? = some s[i] := by
  have hl : 0 < s.length := List.length_pos_iff.2 hne
  have e := heirs_idx hs key
  rw [ring_first_is, idxF_eq]
  have hb : (max (idxQ (fun x => decide (key ≤ pointZ x)) s 0) 0).toNat < s.length := by
    rcases idxQ_spec (fun x => decide (key ≤ pointZ x)) s 0 with ⟨h1, _⟩ | ⟨j, h1, _, x, h3, _⟩
    · rw [h1]
      have : (max (-1 : Int) 0).toNat = 0 := rfl
      omega
    · rw [h1]
      have : j < s.length := by
        rcases Nat.lt_or_ge j s.length with h | h
        · exact h
        · rw [List.drop_eq_nil_of_le h] at h3; cases h3
      omega
  refine ⟨_, hb, by rw [Int.toNat_of_nonneg (by omega)], e.symm, ?_⟩
  rw [← e, List.drop_eq_getElem_cons hb]
  rfl
def ownZ (key : Int) (s : List Int) : Int := ((heirsZ pointZ key s).head?).getD 0
theorem owner_is (key : Int) (l : List Int) (hl : l.length < 4611686018427387904) (k : Nat) (hk : l.length < k) : ring_Owner.f k key l = some (ownZ key (ringZ l), decide (ringZ l ≠ [])) := by
  unfold ring_Owner.f
  rw [ring_is l hl k hk, Option.bind_some]
  by_cases h : ringZ l = []
  · rw [h]
    rfl
  · have hl0 : 0 < (ringZ l).length := List.length_pos_iff.2 h
    rw [if_neg (by omega)]
    obtain ⟨i, hi, h1, _, h3⟩ := heirs_first (ring_ord l) key h
    rw [h1, Option.bind_some, if_pos (by omega), if_pos (by omega), rd_lt hi, decide_eq_true h]
    unfold ownZ
    rw [h3]
    rfl
theorem ref_l2 (l : List Int) (out : List Int) (p i : Nat) (hi : i < l.length) (hl : l.length ≤ 15) (ho : out.length ≤ 40) (R : Option (List Int)) (K : Nat)
    (hR : ∀ k, K ≤ k → caduceusref10_Ring.l1 k l (if rank pointZ l l[i] = p then out ++ [l[i]] else out) (p : Int) ((i : Int) + 1) = R) :
    ∀ (d j n k : Nat), j + d = l.length → n + (l.drop j).countP (fun y => decide (ah pointZ y l[i])) = rank pointZ l l[i] → n ≤ 15 → d + K + 40 < k → caduceusref10_Ring.l2 k l out (p : Int) (i : Int) (n : Int) (j : Int) = R := by
  intro d
  induction d with
  | zero =>
    intro j n k h hn hn5 hk
    obtain ⟨k, rfl⟩ : ∃ m, k = m + 1 := ⟨k - 1, by omega⟩
    simp only [caduceusref10_Ring.l2]
    rw [List.drop_eq_nil_of_le (by omega), List.countP_nil] at hn
    have hr := hR k (by omega)
    rw [if_neg (by omega)]
    by_cases e : (n : Int) = (p : Int)
    · rw [if_pos e, if_pos (by omega), if_pos (by omega), if_pos (by omega), wrap1 (by omega) (by omega), rd_lt hi]
      rw [if_pos (by omega)] at hr
      exact hr
    · rw [if_neg e, wrap1 (by omega) (by omega)]
      rw [if_neg (by omega)] at hr
      exact hr
  | succ d ih =>
    intro j n k h hn hn5 hk
    obtain ⟨k, rfl⟩ : ∃ m, k = m + 1 := ⟨k - 1, by omega⟩
    have hj : j < l.length := by omega
    simp only [caduceusref10_Ring.l2]
    rw [if_pos (by omega), if_pos (by omega), if_pos (by omega), if_pos (by omega), ahead_is _ _ k (by omega), Option.bind_some, rd_lt hj, rd_lt hi, wrap1 (i := (j : Int)) (by omega) (by omega), show ((j : Int) + 1) = ((j + 1 : Nat) : Int) from by omega]
    rw [List.drop_eq_getElem_cons hj, List.countP_cons] at hn
    have hn16 : rank pointZ l l[i] ≤ 15 := Nat.le_trans List.countP_le_length hl
    by_cases e : ah pointZ l[j] l[i]
    · rw [decide_eq_true e, if_pos rfl, wrap1 (by omega) (by omega), show ((n : Int) + 1) = ((n + 1 : Nat) : Int) from by omega]
      rw [decide_eq_true e, if_pos rfl] at hn
      exact ih (j + 1) (n + 1) k (by omega) (by omega) (by omega) (by omega)
    · rw [decide_eq_false e, if_neg (by decide)]
      rw [decide_eq_false e, if_neg (by decide)] at hn
      exact ih (j + 1) n k (by omega) (by omega) (by omega) (by omega)
theorem ref_l1 (l : List Int) (p : Nat) (hl : l.length ≤ 15) (R : Option (List Int)) (K : Nat) (out0 : List Int)
    (hR : ∀ k, K ≤ k → caduceusref10_Ring.l0 k l (out0 ++ l.filter (fun x => decide (rank pointZ l x = p))) ((p : Int) + 1) = R) (hp : p < 100) :
    ∀ (d i k : Nat), i + d = l.length → out0.length ≤ 25 → d * 100 + K + 100 < k → caduceusref10_Ring.l1 k l (out0 ++ (l.take i).filter (fun x => decide (rank pointZ l x = p))) (p : Int) (i : Int) = R := by
  intro d
  induction d with
  | zero =>
    intro i k h ho hk
    obtain ⟨k, rfl⟩ : ∃ m, k = m + 1 := ⟨k - 1, by omega⟩
    simp only [caduceusref10_Ring.l1]
    rw [if_neg (by omega), wrap1 (by omega) (by omega), List.take_of_length_le (by omega)]
    exact hR k (by omega)
  | succ d ih =>
    intro i k h ho hk
    obtain ⟨k, rfl⟩ : ∃ m, k = m + 1 := ⟨k - 1, by omega⟩
    have hi : i < l.length := by omega
    simp only [caduceusref10_Ring.l1]
    rw [if_pos (by omega)]
    have hfl : ((l.take i).filter (fun x => decide (rank pointZ l x = p))).length ≤ 15 := Nat.le_trans (List.length_filter_le _ _) (by simp; omega)
    refine ref_l2 l _ p i hi hl (by rw [List.length_append]; omega) R (d * 100 + K + 101) ?_ l.length 0 0 k (by omega) (by rw [List.drop_zero, Nat.zero_add]; rfl) (by omega) (by omega)
    intro k' hk'
    have := ih (i + 1) k' (by omega) ho (by omega)
    rw [List.take_succ_eq_append_getElem hi, List.filter_append, ← List.append_assoc] at this
    rw [show ((i : Int) + 1) = ((i + 1 : Nat) : Int) from by omega, ← this]
    by_cases e : rank pointZ l l[i] = p
    · rw [if_pos e, List.filter_cons_of_pos (by simpa using e)]; rfl
    · rw [if_neg e, List.filter_cons_of_neg (by simpa using e), List.filter_nil, List.append_nil]
set_option maxRecDepth 10000 in
theorem ref_l0 (l s : List Int) (hl : l.length ≤ 15) (hs : IsRing pointZ l s) (hn : l.Nodup) :
    ∀ (d p k : Nat), p + d = l.length → d * 2000 + 2000 < k → caduceusref10_Ring.l0 k l (s.take p) (p : Int) = some s := by
  intro d
  have hlen := hs.perm.length_eq
  induction d with
  | zero =>
    intro p k h hk
    obtain ⟨k, rfl⟩ : ∃ m, k = m + 1 := ⟨k - 1, by omega⟩
    simp only [caduceusref10_Ring.l0]
    rw [if_neg (by omega), List.take_of_length_le (by omega)]
  | succ d ih =>
    intro p k h hk
    obtain ⟨k, rfl⟩ : ∃ m, k = m + 1 := ⟨k - 1, by omega⟩
    simp only [caduceusref10_Ring.l0]
    rw [if_pos (by omega)]
    have hp : p < s.length := by omega
    have := ref_l1 l p hl (some s) (d * 2000 + 2001) (s.take p) (by
      intro k' hk'
      rw [rank_pick hs hn p hp, ← List.take_succ_eq_append_getElem hp, show ((p : Int) + 1) = ((p + 1 : Nat) : Int) from by omega]
      exact ih (p + 1) k' (by omega) (by omega)) (by omega) l.length 0 k (by omega) (by simp; omega) (by omega)
    rw [List.take_zero, List.filter_nil, List.append_nil] at this
    exact this
theorem ref_ring_is (l : List Int) (hl : l.length < 4611686018427387904) (k : Nat) (hk : l.length < k) (hk2 : 33000 ≤ k) : caduceusref10_Ring.f k l = some (ringZ l) := by
  unfold caduceusref10_Ring.f
  rw [ref_nodes_is l hl k hk, Option.bind_some]
  by_cases h : nodesB l = true
  · rw [if_pos h]
    have h15 := nodesB_len h
    have := ref_l0 l (ringZ l) h15 (nodesB_ring h) (nodesB_NL h).nodup l.length 0 k (by omega) (by omega)
    exact this
  · rw [if_neg h]
    unfold ringZ
    rw [if_neg h]
theorem ref_heirs_l2 (s : List Int) (hs : s.length ≤ 15) (a : Nat) (ha : a ≤ s.length) : ∀ (d j k : Nat), j + d = a → d < k → caduceusref10_Heirs.l2 k s (a : Int) (s.drop a ++ s.take j) (j : Int) = some (s.drop a ++ s.take a) := by
  intro d
  induction d with
  | zero =>
    intro j k h hk
    obtain ⟨k, rfl⟩ : ∃ m, k = m + 1 := ⟨k - 1, by omega⟩
    simp only [caduceusref10_Heirs.l2]
    obtain rfl : j = a := by omega
    rw [if_neg (by omega)]
  | succ d ih =>
    intro j k h hk
    obtain ⟨k, rfl⟩ : ∃ m, k = m + 1 := ⟨k - 1, by omega⟩
    have hj : j < s.length := by omega
    have := ih (j + 1) k (by omega) (by omega)
    simp only [caduceusref10_Heirs.l2]
    rw [if_pos (by omega), if_pos (by omega), if_pos (by omega), if_pos (by simp; omega), wrap1 (by omega) (by omega), rd_lt hj, show ((j : Int) + 1) = ((j + 1 : Nat) : Int) from by omega, List.append_assoc, ← List.take_succ_eq_append_getElem hj]
    exact this
theorem ref_heirs_l1 (s : List Int) (hs : s.length ≤ 15) (a : Nat) (ha : a ≤ s.length) : ∀ (d j k : Nat), j + d = s.length → a ≤ j → d + 40 < k → caduceusref10_Heirs.l1 k s (a : Int) ((s.drop a).take (j - a)) (j : Int) = some (s.drop a ++ s.take a) := by
  intro d
  induction d with
  | zero =>
    intro j k h haj hk
    obtain ⟨k, rfl⟩ : ∃ m, k = m + 1 := ⟨k - 1, by omega⟩
    simp only [caduceusref10_Heirs.l1]
    rw [if_neg (by omega), List.take_of_length_le (by simp; omega)]
    have := ref_heirs_l2 s hs a ha a 0 k (by omega) (by omega)
    rw [List.take_zero, List.append_nil] at this
    exact this
  | succ d ih =>
    intro j k h haj hk
    obtain ⟨k, rfl⟩ : ∃ m, k = m + 1 := ⟨k - 1, by omega⟩
    have hj : j < s.length := by omega
    have := ih (j + 1) k (by omega) (by omega) (by omega)
    simp only [caduceusref10_Heirs.l1]
    rw [if_pos (by omega), if_pos (by omega), if_pos (by simp; omega), wrap1 (by omega) (by omega), rd_lt hj, show ((j : Int) + 1) = ((j + 1 : Nat) : Int) from by omega]
    rw [show j + 1 - a = j - a + 1 from by omega, List.take_succ_eq_append_getElem (by simp; omega)] at this
    rw [← this]
    congr 3
    rw [List.getElem_drop]
    congr 1
    omega
theorem ref_heirs_l0 {s : List Int} (hs : s.length ≤ 15) (ho : s.Pairwise (ah pointZ)) (key : Int) : ∀ (d j k : Nat), j + d = s.length → (∀ x, x ∈ s.take j → pointZ x < key) → d + 100 < k → caduceusref10_Heirs.l0 k key s (j : Int) = some (heirsZ pointZ key s) := by
  intro d
  induction d with
  | zero =>
    intro j k h hp hk
    obtain ⟨k, rfl⟩ : ∃ m, k = m + 2 := ⟨k - 2, by omega⟩
    simp only [caduceusref10_Heirs.l0, caduceusref10_Heirs.j1]
    rw [if_neg (by omega)]
    have := ref_heirs_l1 s hs j (by omega) (s.length - j) j k (by omega) (Nat.le_refl _) (by omega)
    rw [Nat.sub_self, List.take_zero] at this
    rw [this, heirs_at ho key j hp (by intro x hx; rw [List.drop_eq_nil_of_le (by omega)] at hx; cases hx)]
  | succ d ih =>
    intro j k h hp hk
    obtain ⟨k, rfl⟩ : ∃ m, k = m + 2 := ⟨k - 2, by omega⟩
    have hj : j < s.length := by omega
    rw [show k + 2 = (k + 1) + 1 from rfl]
    simp only [caduceusref10_Heirs.l0]
    rw [if_pos (by omega), if_pos (by omega), ref_point_is _ _ (by omega), Option.bind_some, rd_lt hj]
    by_cases e : pointZ s[j] < key
    · rw [if_pos e, wrap1 (by omega) (by omega), show ((j : Int) + 1) = ((j + 1 : Nat) : Int) from by omega]
      refine ih (j + 1) (k + 1) (by omega) ?_ (by omega)
      intro x hx
      rw [List.take_succ_eq_append_getElem hj] at hx
      rcases List.mem_append.1 hx with hx | hx
      · exact hp x hx
      · rcases List.mem_singleton.1 hx with rfl
        exact e
    · rw [if_neg e]
      simp only [caduceusref10_Heirs.j1]
      have := ref_heirs_l1 s hs j (by omega) (s.length - j) j k (by omega) (Nat.le_refl _) (by omega)
      rw [Nat.sub_self, List.take_zero] at this
      rw [this, heirs_at ho key j hp (by intro x hx; rw [List.drop_eq_getElem_cons hj] at hx; injection hx with hx; subst hx; omega)]
theorem ref_heirs_is (key : Int) (l : List Int) (hl : l.length < 4611686018427387904) (k : Nat) (hk : l.length < k) (hk2 : 33000 ≤ k) : caduceusref10_Heirs.f k key l = some (heirsZ pointZ key (ringZ l)) := by
  unfold caduceusref10_Heirs.f
  rw [ref_ring_is l hl k hk hk2, Option.bind_some]
  have := ring_len15 l
  exact ref_heirs_l0 this (ring_ord l) key (ringZ l).length 0 k (by omega) (by intro x hx; cases hx) (by omega)
theorem ring_len {l : List Int} (h : nodesB l = true) : (ringZ l).length = l.length := (nodesB_ring h).perm.length_eq
theorem heirs_is (key : Int) (l : List Int) (most : Int) (hl : l.length < 4611686018427387904) (k : Nat) (hk : l.length < k) : ring_Heirs.f k key l most = some ((heirsZ pointZ key (ringZ l)).take (min (max most 0) (ringZ l).length).toNat) := by
  unfold ring_Heirs.f
  rw [ring_is l hl k hk, Option.bind_some]
  by_cases h : ringZ l = []
  · rw [h]; simp [heirsZ]
  · have hl0 : 0 < (ringZ l).length := List.length_pos_iff.2 h
    rw [if_neg (by omega)]
    obtain ⟨i, hi, h1, h2, h3⟩ := heirs_first (ring_ord l) key h
    rw [h1, Option.bind_some, h2]
    rfl
theorem all_mem_okAt {l : List Int} (h : NL l) : nodesB l = true := by
  unfold nodesB
  rw [List.all_eq_true]
  intro i hi
  have hi : i < l.length := by simpa using hi
  unfold okAt
  rw [decide_eq_true_eq, List.getD_eq_getElem?_getD, List.getElem?_eq_getElem hi]
  have h1 := h.1 _ (List.getElem_mem hi)
  refine ⟨h1.1, h1.2, fun h0 => ?_⟩
  rw [List.getD_eq_getElem?_getD, List.getElem?_eq_getElem (show i - 1 < l.length by omega)]
  exact List.pairwise_iff_getElem.1 h.2 (i - 1) i (by omega) hi (by omega)
def rL : Nat → List UInt8 → List Int
  | 0, _ => []
  | f + 1, l => if l = [] then [] else ((decodeL l).1 : Int) :: rL f (l.drop (decodeL l).2)
def rD (l : List UInt8) : List Int := rL l.length l
theorem rL_nil : ∀ n, rL n [] = []
  | 0 => rfl
  | _ + 1 => by simp [rL]
theorem rL_fuel : ∀ (n m : Nat) (l : List UInt8), l.length ≤ n → l.length ≤ m → rL n l = rL m l
  | 0, m, l, hn, _ => by
    have : l = [] := List.eq_nil_of_length_eq_zero (by omega)
    subst this
    rw [rL_nil, rL_nil]
  | n + 1, 0, l, _, hm => by
    have : l = [] := List.eq_nil_of_length_eq_zero (by omega)
    subst this
    rw [rL_nil, rL_nil]
  | n + 1, m + 1, l, hn, hm => by
    by_cases hne : l = []
    · subst hne
      rw [rL_nil, rL_nil]
    · have hw := decodeL_width l
      have hl : 0 < l.length := List.length_pos_iff.2 hne
      simp only [rL, if_neg hne]
      rw [rL_fuel n m _ (by rw [List.length_drop]; omega) (by rw [List.length_drop]; omega)]
theorem rD_nil : rD [] = [] := rfl
theorem rD_step (l : List UInt8) (hne : l ≠ []) : rD l = ((decodeL l).1 : Int) :: rD (l.drop (decodeL l).2) := by
  have hw := decodeL_width l
  have hl : 0 < l.length := List.length_pos_iff.2 hne
  unfold rD
  obtain ⟨n, hn⟩ : ∃ n, l.length = n + 1 := ⟨l.length - 1, by omega⟩
  rw [hn]
  simp only [rL, if_neg hne]
  rw [rL_fuel n _ _ (by rw [List.length_drop]; omega) (Nat.le_refl _)]
theorem drop_ne (s : ByteArray) (i : Nat) (h : i < s.size) : s.data.toList.drop i ≠ [] := by
  intro h0
  have := congrArg List.length h0
  rw [List.length_drop, ← size_eq] at this
  simp at this
  omega
theorem runesL_rL (s : ByteArray) : ∀ f i, NC.runesL s f i = rL f (s.data.toList.drop i)
  | 0, _ => rfl
  | f + 1, i => by
    by_cases hi : i < s.size
    · simp only [NC.runesL, rL, if_pos hi, if_neg (drop_ne s i hi)]
      rw [runesL_rL s f, decodeL_drop, List.drop_drop]
    · have : s.data.toList.drop i = [] := List.drop_eq_nil_of_le (by rw [← size_eq]; omega)
      rw [this, NC.runesL_end s _ i hi, rL_nil]
theorem runes_rD (s : ByteArray) : NC.runes s = rD s.data.toList := by
  unfold NC.runes rD
  rw [runesL_rL, List.drop_zero, size_eq]
def bad (l : List UInt8) : Bool := decide ((decodeL l).1 = 65533 ∧ (decodeL l).2 = 1)
theorem bad_iff (l : List UInt8) : bad l = true ↔ (decodeL l).1 = 65533 ∧ (decodeL l).2 = 1 := by unfold bad; rw [decide_eq_true_iff]
theorem vG_nil : ∀ n, validGoD n [] = true
  | 0 => rfl
  | _ + 1 => by simp [validGoD]
theorem vG_fuel : ∀ (n m : Nat) (l : List UInt8), l.length ≤ n → l.length ≤ m → validGoD n l = validGoD m l
  | 0, m, l, hn, _ => by
    have : l = [] := List.eq_nil_of_length_eq_zero (by omega)
    subst this
    rw [vG_nil, vG_nil]
  | n + 1, 0, l, _, hm => by
    have : l = [] := List.eq_nil_of_length_eq_zero (by omega)
    subst this
    rw [vG_nil, vG_nil]
  | n + 1, m + 1, l, hn, hm => by
    by_cases hne : l = []
    · subst hne
      rw [vG_nil, vG_nil]
    · have hw := decodeL_width l
      have hl : 0 < l.length := List.length_pos_iff.2 hne
      simp only [validGoD, if_neg hne]
      rw [vG_fuel n m _ (by rw [List.length_drop]; omega) (by rw [List.length_drop]; omega)]
theorem v_step (l : List UInt8) (hne : l ≠ []) : validD l = if bad l = true then false else validD (l.drop (decodeL l).2) := by
  have hw := decodeL_width l
  have hl : 0 < l.length := List.length_pos_iff.2 hne
  unfold validD
  simp only [bad_iff]
  obtain ⟨n, hn⟩ : ∃ n, l.length = n + 1 := ⟨l.length - 1, by omega⟩
  rw [hn]
  simp only [validGoD, if_neg hne]
  rw [vG_fuel n _ _ (by rw [List.length_drop]; omega) (Nat.le_refl _)]
def okR (c : Int) : Prop := 0 ≤ c ∧ (c < 55296 ∨ 57344 ≤ c) ∧ c ≤ 1114111
theorem dec_ok (l : List UInt8) (hne : l ≠ []) (hb : ¬ bad l = true) : okR ((decodeL l).1 : Int) := by
  rw [bad_iff] at hb
  unfold okR
  rw [decodeL_N] at hb ⊢
  have k0 := (l.getD 0 0).toNat_lt
  have k1 := (l.getD 1 0).toNat_lt
  have k2 := (l.getD 2 0).toNat_lt
  have k3 := (l.getD 3 0).toNat_lt
  rcases decodeN_shape l.length (l.getD 0 0).toNat (l.getD 1 0).toNat (l.getD 2 0).toNat (l.getD 3 0).toNat with ⟨c, e⟩ | ⟨c1, c2, c3, cv, e⟩ | ⟨c1, c2, c3, c4, cv, cs, e⟩ | ⟨c1, c2, c3, c4, c5, cv, cw, e⟩ | e
  all_goals (rw [e] at hb ⊢; dsimp only at hb ⊢)
  · omega
  · omega
  · omega
  · omega
  · exact absurd ⟨rfl, rfl⟩ hb
def encL (ns : List Int) : List UInt8 := ns.flatMap encodeRune
theorem encL_cons (c : Int) (ns : List Int) : encL (c :: ns) = encodeRune c ++ encL ns := rfl
theorem dec_all : ∀ (n : Nat) (l : List UInt8), l.length ≤ n → validD l = true → encL (rD l) = l ∧ ∀ c ∈ rD l, okR c := by
  intro n
  induction n with
  | zero =>
    intro l hl _
    obtain rfl : l = [] := List.eq_nil_of_length_eq_zero (by omega)
    exact ⟨rfl, by simp [rD_nil]⟩
  | succ n ih =>
    intro l hl hv
    by_cases hne : l = []
    · subst hne
      exact ⟨rfl, by simp [rD_nil]⟩
    · rw [v_step l hne] at hv
      by_cases hb : bad l = true
      · rw [if_pos hb] at hv; cases hv
      · rw [if_neg hb] at hv
        have hw := decodeL_width l
        have hp : 0 < l.length := List.length_pos_iff.2 hne
        obtain ⟨h1, h2⟩ := ih (l.drop (decodeL l).2) (by rw [List.length_drop]; omega) hv
        rw [rD_step l hne]
        constructor
        · rw [encL_cons, h1, encode_decode l hne (fun h => hb ((bad_iff l).2 h)), List.take_append_drop]
        · intro c hc
          rcases List.mem_cons.1 hc with rfl | hc
          · exact dec_ok l hne hb
          · exact h2 c hc
theorem rD_ok (l : List UInt8) (hv : validD l = true) : ∀ c ∈ rD l, okR c := (dec_all _ l (Nat.le_refl _) hv).2
theorem encode_list (n : Int) : (Utf8.encode n).data.toList = encodeRune n := by
  have hb : ∀ m : Nat, UInt8.ofNat m = m.toUInt8 := fun _ => rfl
  unfold Utf8.encode Utf8.valid Utf8.runeError
  by_cases h : 0 ≤ n ∧ (n < 55296 ∨ 57344 ≤ n) ∧ n ≤ 1114111
  · obtain ⟨h0, h1, h2⟩ := h
    have hv : ((decide (0 ≤ n) && decide (n < 0xD800)) || (decide (0xE000 ≤ n) && decide (n ≤ 0x10FFFF))) = true := by
      simp only [Bool.or_eq_true, Bool.and_eq_true, decide_eq_true_eq]
      omega
    simp only [hv, if_true]
    unfold encodeRune
    by_cases a : n ≤ 127
    · rw [if_pos (by omega), encodeRuneZ_one h0 a]; rfl
    · by_cases b : n ≤ 2047
      · rw [if_neg (by omega), if_pos (by omega), encodeRuneZ_two (by omega) b]
        simp only [List.map_cons, List.map_nil, hb]
        rw [show (192 + n / 64).toNat = 192 + n.toNat / 64 by omega, show (128 + n % 64).toNat = 128 + n.toNat % 64 by omega]
      · by_cases d : n ≤ 65535
        · rw [if_neg (by omega), if_neg (by omega), if_pos (by omega), encodeRuneZ_three (by omega)]
          simp only [List.map_cons, List.map_nil, hb]
          rw [show (224 + n / 4096).toNat = 224 + n.toNat / 4096 by omega, show (128 + n / 64 % 64).toNat = 128 + n.toNat / 64 % 64 by omega, show (128 + n % 64).toNat = 128 + n.toNat % 64 by omega]
        · rw [if_neg (by omega), if_neg (by omega), if_neg (by omega), encodeRuneZ_four (by omega) (by omega)]
          simp only [List.map_cons, List.map_nil, hb]
          rw [show (240 + n / 262144).toNat = 240 + n.toNat / 262144 by omega, show (128 + n / 4096 % 64).toNat = 128 + n.toNat / 4096 % 64 by omega, show (128 + n / 64 % 64).toNat = 128 + n.toNat / 64 % 64 by omega, show (128 + n % 64).toNat = 128 + n.toNat % 64 by omega]
  · have hv : ((decide (0 ≤ n) && decide (n < 0xD800)) || (decide (0xE000 ≤ n) && decide (n ≤ 0x10FFFF))) = false := by
      rw [Bool.eq_false_iff]
      intro hc
      simp only [Bool.or_eq_true, Bool.and_eq_true, decide_eq_true_eq] at hc
      omega
    simp only [hv, Bool.false_eq_true, if_false]
    unfold encodeRune
    rw [encodeRuneZ_bad (by omega)]
    rfl
theorem foldl_enc (ns : List Int) : ∀ s : ByteArray, (ns.foldl (fun r n => r ++ Utf8.encode n) s).data.toList = s.data.toList ++ encL ns := by
  induction ns with
  | nil => intro s; simp [encL]
  | cons n ns ih =>
    intro s
    rw [List.foldl_cons, ih, encL_cons]
    have : (s ++ Utf8.encode n).data.toList = s.data.toList ++ encodeRune n := by simp [encode_list]
    rw [this, List.append_assoc]
theorem runesBytes_list (ns : List Int) : (runesBytes ns).data.toList = encL ns := by
  unfold runesBytes
  rw [foldl_enc]
  simp
theorem ba_ext {a b : ByteArray} (h : a.data.toList = b.data.toList) : a = b := by
  cases a
  cases b
  simp at h
  simp [h]
theorem toList_data (t : ByteArray) : t.toList = t.data.toList := by
  have h := extract_toList t 0 t.size
  rw [List.drop_zero, List.take_of_length_le (by rw [← size_eq]; omega)] at h
  rwa [show t.extract 0 t.size = t by apply ba_ext; rw [extract_data, List.drop_zero, List.take_of_length_le (by rw [← size_eq]; omega)]] at h
theorem wr (x : Int) (h0 : -9223372036854775808 ≤ x) (h1 : x ≤ 9223372036854775807) : wrap64 x = x := by unfold wrap64; omega
theorem bt_getD (t : ByteArray) (j : Nat) : bt t (j : Int) = ((t.data.toList.getD j 0).toNat : Int) := by
  unfold bt
  rw [Int.toNat_natCast]
  by_cases h : j < t.size
  · have h' : j < t.data.toList.length := by rw [← size_eq]; exact h
    rw [dif_pos h]
    simp [List.getD_eq_getElem?_getD, List.getElem?_eq_getElem h']
    rfl
  · have h' : t.data.toList.length ≤ j := by rw [← size_eq]; omega
    rw [dif_neg h]
    simp [List.getD_eq_getElem?_getD, List.getElem?_eq_none h']
theorem tail_is (t : ByteArray) (j : Nat) : caduceusref02_tail.f t (j : Int) = some (decide (j < t.size ∧ 128 ≤ (t.data.toList.getD j 0).toNat ∧ (t.data.toList.getD j 0).toNat < 192)) := by
  unfold caduceusref02_tail.f
  rw [bt_getD]
  by_cases h : j < t.size
  · rw [if_pos (by omega), if_pos (by omega)]
    by_cases h2 : 128 ≤ (t.data.toList.getD j 0).toNat
    · rw [if_pos (by omega)]
      exact congrArg some (decide_eq_decide.2 (by omega))
    · rw [if_neg (by omega)]
      exact congrArg some (decide_eq_false (by omega)).symm
  · rw [if_neg (by omega)]
    exact congrArg some (decide_eq_false (by omega)).symm
theorem e2 (a b : Int) (ha : 0 ≤ a ∧ a < 256) (hb : 0 ≤ b ∧ b < 256) : wrap64 ((wrap64 ((wrap64 (64 * (wrap64 (a - 192)))) + (wrap64 b))) - 128) = 64 * (a - 192) + b - 128 := by
  rw [wr (a - 192) (by omega) (by omega), wr (64 * (a - 192)) (by omega) (by omega), wr b (by omega) (by omega), wr (64 * (a - 192) + b) (by omega) (by omega), wr _ (by omega) (by omega)]
theorem e3 (a b c : Int) (ha : 0 ≤ a ∧ a < 256) (hb : 0 ≤ b ∧ b < 256) (hc : 0 ≤ c ∧ c < 256) : wrap64 ((wrap64 ((wrap64 ((wrap64 (4096 * (wrap64 (a - 224)))) + (wrap64 (64 * (wrap64 ((wrap64 b) - 128)))))) + (wrap64 c))) - 128) = 4096 * (a - 224) + 64 * (b - 128) + c - 128 := by
  rw [wr (a - 224) (by omega) (by omega), wr (4096 * (a - 224)) (by omega) (by omega), wr b (by omega) (by omega), wr (b - 128) (by omega) (by omega), wr (64 * (b - 128)) (by omega) (by omega), wr (4096 * (a - 224) + 64 * (b - 128)) (by omega) (by omega), wr c (by omega) (by omega), wr (4096 * (a - 224) + 64 * (b - 128) + c) (by omega) (by omega), wr _ (by omega) (by omega)]
theorem e4 (a b c d : Int) (ha : 0 ≤ a ∧ a < 256) (hb : 0 ≤ b ∧ b < 256) (hc : 0 ≤ c ∧ c < 256) (hd : 0 ≤ d ∧ d < 256) :
    wrap64 ((wrap64 ((wrap64 ((wrap64 ((wrap64 (262144 * (wrap64 (a - 240)))) + (wrap64 (4096 * (wrap64 ((wrap64 b) - 128)))))) + (wrap64 (64 * (wrap64 ((wrap64 c) - 128)))))) + (wrap64 d))) - 128) = 262144 * (a - 240) + 4096 * (b - 128) + 64 * (c - 128) + d - 128 := by
  rw [wr (a - 240) (by omega) (by omega), wr (262144 * (a - 240)) (by omega) (by omega), wr b (by omega) (by omega), wr (b - 128) (by omega) (by omega), wr (4096 * (b - 128)) (by omega) (by omega), wr (262144 * (a - 240) + 4096 * (b - 128)) (by omega) (by omega), wr c (by omega) (by omega), wr (c - 128) (by omega) (by omega), wr (64 * (c - 128)) (by omega) (by omega), wr (262144 * (a - 240) + 4096 * (b - 128) + 64 * (c - 128)) (by omega) (by omega), wr d (by omega) (by omega), wr (262144 * (a - 240) + 4096 * (b - 128) + 64 * (c - 128) + d) (by omega) (by omega), wr _ (by omega) (by omega)]
set_option maxHeartbeats 4000000 in
set_option maxRecDepth 100000 in
theorem first_is (t : ByteArray) (hne : t.data.toList ≠ []) (k : Nat) (hk : 4 ≤ k) :
    caduceusref02_First.f k t = some (if bad t.data.toList = true then (0, 0) else (((decodeL t.data.toList).1 : Int), ((decodeL t.data.toList).2 : Int))) := by
  obtain ⟨k, rfl⟩ : ∃ m, k = m + 4 := ⟨k - 4, by omega⟩
  have hn : 0 < t.data.toList.length := List.length_pos_iff.2 hne
  have hsz : t.size = t.data.toList.length := size_eq t
  have hT : t.toList ≠ [] := by
    rw [toList_data]
    exact hne
  unfold caduceusref02_First.f
  simp only [bad_iff]
  rw [decodeL_N, if_neg hT, if_pos (by omega)]
  simp only [caduceusref02_First.j0, caduceusref02_First.j1, caduceusref02_First.j2, caduceusref02_First.j3]
  have t1 := tail_is t 1
  have t2 := tail_is t 2
  have t3 := tail_is t 3
  have g0 := bt_getD t 0
  have g1 := bt_getD t 1
  have g2 := bt_getD t 2
  have g3 := bt_getD t 3
  have k0 := (t.data.toList.getD 0 0).toNat_lt
  have k1 := (t.data.toList.getD 1 0).toNat_lt
  have k2 := (t.data.toList.getD 2 0).toNat_lt
  have k3 := (t.data.toList.getD 3 0).toNat_lt
  simp only [Int.natCast_zero, Int.cast_ofNat_Int, Int.natCast_one] at t1 t2 t3 g0 g1 g2 g3
  rw [hsz] at t1 t2 t3
  simp only [g0, g1, g2, g3, t1, t2, t3, hsz, Option.bind_some]
  generalize (t.data.toList.getD 0 0).toNat = b0 at *
  generalize (t.data.toList.getD 1 0).toNat = b1 at *
  generalize (t.data.toList.getD 2 0).toNat = b2 at *
  generalize (t.data.toList.getD 3 0).toNat = b3 at *
  generalize t.data.toList.length = n at *
  rw [wr (b0 : Int) (by omega) (by omega)]
  simp only [e2 (b0 : Int) (b1 : Int) ⟨by omega, by omega⟩ ⟨by omega, by omega⟩, e3 (b0 : Int) (b1 : Int) (b2 : Int) ⟨by omega, by omega⟩ ⟨by omega, by omega⟩ ⟨by omega, by omega⟩, e4 (b0 : Int) (b1 : Int) (b2 : Int) (b3 : Int) ⟨by omega, by omega⟩ ⟨by omega, by omega⟩ ⟨by omega, by omega⟩ ⟨by omega, by omega⟩]
  simp only [decide_eq_true_eq, Bool.false_eq_true, if_false]
  clear t1 t2 t3 g0 g1 g2 g3 hT hne hsz hk
  have fin : ∀ {a b c d : Int}, a = c → b = d → (some (a, b) : Option (Int × Int)) = some (c, d) := by intro a b c d h1 h2; rw [h1, h2]
  by_cases h0 : b0 < 128
  · have hD : decodeN n b0 b1 b2 b3 = (b0, 1) := by unfold decodeN; repeat (first | rw [if_pos (by omega)] | rw [if_neg (by omega)])
    rw [hD]
    dsimp only
    repeat (first | rw [if_pos (by omega)] | rw [if_neg (by omega)])
    exact fin (by omega) rfl
  by_cases h1 : b0 < 194
  · by_cases h6 : b0 / 32 = 6 ∧ 1 < n ∧ b1 / 64 = 2
    · have hD : decodeN n b0 b1 b2 b3 = (65533, 1) := by unfold decodeN; repeat (first | rw [if_pos (by omega)] | rw [if_neg (by omega)])
      rw [hD]
      dsimp only
      rw [if_pos (show (65533 : Nat) = 65533 ∧ 1 = 1 from ⟨rfl, rfl⟩)]
      repeat (first | rw [if_pos (by omega)] | rw [if_neg (by omega)])
      all_goals ((repeat' split) <;> first | rfl | (exfalso; omega))
    · have hD : decodeN n b0 b1 b2 b3 = (65533, 1) := by unfold decodeN; repeat (first | rw [if_pos (by omega)] | rw [if_neg (by omega)])
      rw [hD]
      dsimp only
      rw [if_pos (show (65533 : Nat) = 65533 ∧ 1 = 1 from ⟨rfl, rfl⟩)]
      repeat (first | rw [if_pos (by omega)] | rw [if_neg (by omega)])
      all_goals ((repeat' split) <;> first | rfl | (exfalso; omega))
  by_cases c1 : 1 < n ∧ 128 ≤ b1 ∧ b1 < 192
  · by_cases h2 : b0 < 224
    · have hD : decodeN n b0 b1 b2 b3 = (b0 % 32 * 64 + b1 % 64, 2) := by unfold decodeN; repeat (first | rw [if_pos (by omega)] | rw [if_neg (by omega)])
      rw [hD]
      dsimp only
      repeat (first | rw [if_pos (by omega)] | rw [if_neg (by omega)])
      exact fin (by omega) rfl
    by_cases c2 : 2 < n ∧ 128 ≤ b2 ∧ b2 < 192
    · by_cases h3 : b0 < 240
      · by_cases v1 : 2048 ≤ b0 % 16 * 4096 + b1 % 64 * 64 + b2 % 64
        · by_cases v2 : b0 % 16 * 4096 + b1 % 64 * 64 + b2 % 64 < 55296
          · have hD : decodeN n b0 b1 b2 b3 = (b0 % 16 * 4096 + b1 % 64 * 64 + b2 % 64, 3) := by unfold decodeN; repeat (first | rw [if_pos (by omega)] | rw [if_neg (by omega)])
            rw [hD]
            dsimp only
            repeat (first | rw [if_pos (by omega)] | rw [if_neg (by omega)])
            exact fin (by omega) rfl
          · by_cases v3 : 57344 ≤ b0 % 16 * 4096 + b1 % 64 * 64 + b2 % 64
            · have hD : decodeN n b0 b1 b2 b3 = (b0 % 16 * 4096 + b1 % 64 * 64 + b2 % 64, 3) := by unfold decodeN; repeat (first | rw [if_pos (by omega)] | rw [if_neg (by omega)])
              rw [hD]
              dsimp only
              repeat (first | rw [if_pos (by omega)] | rw [if_neg (by omega)])
              exact fin (by omega) rfl
            · have hD : decodeN n b0 b1 b2 b3 = (65533, 1) := by unfold decodeN; repeat (first | rw [if_pos (by omega)] | rw [if_neg (by omega)])
              rw [hD]
              dsimp only
              rw [if_pos (show (65533 : Nat) = 65533 ∧ 1 = 1 from ⟨rfl, rfl⟩)]
              repeat (first | rw [if_pos (by omega)] | rw [if_neg (by omega)])
              all_goals ((repeat' split) <;> first | rfl | (exfalso; omega))
        · have hD : decodeN n b0 b1 b2 b3 = (65533, 1) := by unfold decodeN; repeat (first | rw [if_pos (by omega)] | rw [if_neg (by omega)])
          rw [hD]
          dsimp only
          rw [if_pos (show (65533 : Nat) = 65533 ∧ 1 = 1 from ⟨rfl, rfl⟩)]
          repeat (first | rw [if_pos (by omega)] | rw [if_neg (by omega)])
          all_goals ((repeat' split) <;> first | rfl | (exfalso; omega))
      by_cases c3 : 3 < n ∧ 128 ≤ b3 ∧ b3 < 192
      · by_cases h4 : b0 < 245
        · by_cases v1 : 65536 ≤ b0 % 8 * 262144 + b1 % 64 * 4096 + b2 % 64 * 64 + b3 % 64
          · by_cases v2 : b0 % 8 * 262144 + b1 % 64 * 4096 + b2 % 64 * 64 + b3 % 64 ≤ 1114111
            · have hD : decodeN n b0 b1 b2 b3 = (b0 % 8 * 262144 + b1 % 64 * 4096 + b2 % 64 * 64 + b3 % 64, 4) := by unfold decodeN; repeat (first | rw [if_pos (by omega)] | rw [if_neg (by omega)])
              rw [hD]
              dsimp only
              repeat (first | rw [if_pos (by omega)] | rw [if_neg (by omega)])
              exact fin (by omega) rfl
            · have hD : decodeN n b0 b1 b2 b3 = (65533, 1) := by unfold decodeN; repeat (first | rw [if_pos (by omega)] | rw [if_neg (by omega)])
              rw [hD]
              dsimp only
              rw [if_pos (show (65533 : Nat) = 65533 ∧ 1 = 1 from ⟨rfl, rfl⟩)]
              repeat (first | rw [if_pos (by omega)] | rw [if_neg (by omega)])
              all_goals ((repeat' split) <;> first | rfl | (exfalso; omega))
          · have hD : decodeN n b0 b1 b2 b3 = (65533, 1) := by unfold decodeN; repeat (first | rw [if_pos (by omega)] | rw [if_neg (by omega)])
            rw [hD]
            dsimp only
            rw [if_pos (show (65533 : Nat) = 65533 ∧ 1 = 1 from ⟨rfl, rfl⟩)]
            repeat (first | rw [if_pos (by omega)] | rw [if_neg (by omega)])
            all_goals ((repeat' split) <;> first | rfl | (exfalso; omega))
        · by_cases h8 : b0 / 8 = 30
          · have hD : decodeN n b0 b1 b2 b3 = (65533, 1) := by unfold decodeN; repeat (first | rw [if_pos (by omega)] | rw [if_neg (by omega)])
            rw [hD]
            dsimp only
            rw [if_pos (show (65533 : Nat) = 65533 ∧ 1 = 1 from ⟨rfl, rfl⟩)]
            repeat (first | rw [if_pos (by omega)] | rw [if_neg (by omega)])
            all_goals ((repeat' split) <;> first | rfl | (exfalso; omega))
          · have hD : decodeN n b0 b1 b2 b3 = (65533, 1) := by unfold decodeN; repeat (first | rw [if_pos (by omega)] | rw [if_neg (by omega)])
            rw [hD]
            dsimp only
            rw [if_pos (show (65533 : Nat) = 65533 ∧ 1 = 1 from ⟨rfl, rfl⟩)]
            repeat (first | rw [if_pos (by omega)] | rw [if_neg (by omega)])
            all_goals ((repeat' split) <;> first | rfl | (exfalso; omega))
      · have hD : decodeN n b0 b1 b2 b3 = (65533, 1) := by unfold decodeN; repeat (first | rw [if_pos (by omega)] | rw [if_neg (by omega)])
        rw [hD]
        dsimp only
        rw [if_pos (show (65533 : Nat) = 65533 ∧ 1 = 1 from ⟨rfl, rfl⟩)]
        repeat (first | rw [if_pos (by omega)] | rw [if_neg (by omega)])
        all_goals ((repeat' split) <;> first | rfl | (exfalso; omega))
    · have hD : decodeN n b0 b1 b2 b3 = (65533, 1) := by unfold decodeN; repeat (first | rw [if_pos (by omega)] | rw [if_neg (by omega)])
      rw [hD]
      dsimp only
      rw [if_pos (show (65533 : Nat) = 65533 ∧ 1 = 1 from ⟨rfl, rfl⟩)]
      repeat (first | rw [if_pos (by omega)] | rw [if_neg (by omega)])
      all_goals ((repeat' split) <;> first | rfl | (exfalso; omega))
  · have hD : decodeN n b0 b1 b2 b3 = (65533, 1) := by unfold decodeN; repeat (first | rw [if_pos (by omega)] | rw [if_neg (by omega)])
    rw [hD]
    dsimp only
    rw [if_pos (show (65533 : Nat) = 65533 ∧ 1 = 1 from ⟨rfl, rfl⟩)]
    by_cases h2 : b0 < 224
    · repeat (first | rw [if_pos (by omega)] | rw [if_neg (by omega)])
    by_cases h3 : b0 < 240
    · repeat (first | rw [if_pos (by omega)] | rw [if_neg (by omega)])
    by_cases h4 : b0 < 245
    · repeat (first | rw [if_pos (by omega)] | rw [if_neg (by omega)])
    · repeat (first | rw [if_pos (by omega)] | rw [if_neg (by omega)])
theorem ext_drop (s : ByteArray) (i : Nat) : (s.extract i s.size).data.toList = s.data.toList.drop i := ext_list s i
theorem step_le (s : ByteArray) (i : Nat) (h : i < s.size) : 1 ≤ (decodeL (s.data.toList.drop i)).2 ∧ i + (decodeL (s.data.toList.drop i)).2 ≤ s.size := by
  have h1 := decodeL_width (s.data.toList.drop i)
  have h2 := decodeL_le _ (drop_ne s i h)
  rw [List.length_drop, ← size_eq] at h2
  omega
theorem drop_end (s : ByteArray) (i : Nat) (h : ¬ i < s.size) : s.data.toList.drop i = [] := List.drop_eq_nil_of_le (by rw [← size_eq]; omega)
theorem ref_Valid_l (s : ByteArray) (hs : s.size ≤ 1099511627776) : ∀ (d i k : Nat), s.size - i ≤ d → d + 5 ≤ k → i ≤ s.size →
    caduceusref02_Valid.l0 k s (i : Int) = some (validD (s.data.toList.drop i)) := by
  intro d
  induction d with
  | zero =>
    intro i k hd hk hi
    obtain ⟨k, rfl⟩ : ∃ m, k = m + 1 := ⟨k - 1, by omega⟩
    rw [caduceusref02_Valid.l0, if_neg (by omega), drop_end s i (by omega)]
    rfl
  | succ d ih =>
    intro i k hd hk hi
    obtain ⟨k, rfl⟩ : ∃ m, k = m + 1 := ⟨k - 1, by omega⟩
    by_cases hlt : i < s.size
    · obtain ⟨w1, w2⟩ := step_le s i hlt
      rw [caduceusref02_Valid.l0, if_pos (by omega), if_pos (by omega), if_pos (by omega), Int.toNat_natCast, first_is _ (by rw [ext_drop]; exact drop_ne s i hlt) k (by omega), Option.bind_some, ext_drop, v_step _ (drop_ne s i hlt)]
      by_cases hb : bad (s.data.toList.drop i) = true
      · rw [if_pos hb, if_pos hb]
        rfl
      · rw [if_neg hb, if_neg hb]
        dsimp only
        rw [if_neg (by omega), show wrap64 ((i : Int) + ((decodeL (s.data.toList.drop i)).2 : Int)) = ((i + (decodeL (s.data.toList.drop i)).2 : Nat) : Int) by rw [wr _ (by omega) (by omega)]; omega, ih _ _ (by omega) (by omega) w2, List.drop_drop]
    · rw [caduceusref02_Valid.l0, if_neg (by omega), drop_end s i hlt]
      rfl
theorem ref_Valid_is (s : ByteArray) (hs : s.size ≤ 1099511627776) (k : Nat) (hk : s.size + 5 ≤ k) : caduceusref02_Valid.f k s = some (validD s.data.toList) :=
  ref_Valid_l s hs s.size 0 k (by omega) hk (by omega)
theorem ref_Runes_l (s : ByteArray) (hs : s.size ≤ 1099511627776) : ∀ (d i k : Nat) (acc : List Int), s.size - i ≤ d → d + 5 ≤ k → i ≤ s.size → acc.length ≤ i → validD (s.data.toList.drop i) = true →
    caduceusref02_Runes.l0 k s acc (i : Int) = some (acc ++ rD (s.data.toList.drop i)) := by
  intro d
  induction d with
  | zero =>
    intro i k acc hd hk hi ha hv
    obtain ⟨k, rfl⟩ : ∃ m, k = m + 1 := ⟨k - 1, by omega⟩
    rw [caduceusref02_Runes.l0, if_neg (by omega), drop_end s i (by omega), rD_nil, List.append_nil]
  | succ d ih =>
    intro i k acc hd hk hi ha hv
    obtain ⟨k, rfl⟩ : ∃ m, k = m + 1 := ⟨k - 1, by omega⟩
    by_cases hlt : i < s.size
    · obtain ⟨w1, w2⟩ := step_le s i hlt
      rw [v_step _ (drop_ne s i hlt)] at hv
      by_cases hb : bad (s.data.toList.drop i) = true
      · rw [if_pos hb] at hv
        cases hv
      · rw [if_neg hb] at hv
        rw [List.drop_drop] at hv
        rw [caduceusref02_Runes.l0, if_pos (by omega), if_pos (by omega), if_pos (by omega), Int.toNat_natCast, first_is _ (by rw [ext_drop]; exact drop_ne s i hlt) k (by omega), Option.bind_some, ext_drop, if_neg hb]
        dsimp only
        rw [if_neg (by omega), if_pos (by omega), show wrap64 ((i : Int) + ((decodeL (s.data.toList.drop i)).2 : Int)) = ((i + (decodeL (s.data.toList.drop i)).2 : Nat) : Int) by rw [wr _ (by omega) (by omega)]; omega, ih _ _ _ (by omega) (by omega) w2 (by simp; omega) hv, rD_step _ (drop_ne s i hlt), List.drop_drop, List.append_assoc]
        rfl
    · rw [caduceusref02_Runes.l0, if_neg (by omega), drop_end s i hlt, rD_nil, List.append_nil]
theorem ref_Runes_is (s : ByteArray) (hs : s.size ≤ 1099511627776) (k : Nat) (hk : s.size + 5 ≤ k) (hv : validD s.data.toList = true) : caduceusref02_Runes.f k s = some (rD s.data.toList) := by
  have := ref_Runes_l s hs s.size 0 k [] (by omega) hk (by omega) (by simp) hv
  rw [List.drop_zero, List.nil_append] at this
  exact this
theorem smallZ_ok (c : Int) (h : okR c) : okR (NC.smallZ c) := by
  unfold NC.smallZ
  unfold okR at *
  split <;> omega
theorem ref_Small_is (c : Int) (h : 0 ≤ c ∧ c ≤ 2147483647 ∨ c < 0) : caduceusref02_Small.f c = some (NC.smallZ c) := by
  have hw : ∀ x : Int, 0 ≤ x → x ≤ 3000000000 → wrap64 x = x := fun x a b => wr x (by omega) (by omega)
  unfold caduceusref02_Small.f NC.smallZ
  repeat' split
  all_goals first | (exfalso; omega) | rfl | (rw [hw _ (by omega) (by omega)])
theorem ref_Bytes_is (c : Int) (h : okR c) : ∃ b, caduceusref02_Bytes.f c = some b ∧ b.data.toList = encodeRune c := by
  obtain ⟨h0, h1, h2⟩ := h
  have hs : ∀ l : List Int, (strOfNums l).data.toList = l.map fun x => x.toNat.toUInt8 := by intro l; simp [strOfNums]
  have d1 : Int.tdiv c 64 = c / 64 := Int.tdiv_eq_ediv_of_nonneg h0
  have d2 : Int.tdiv c 4096 = c / 4096 := Int.tdiv_eq_ediv_of_nonneg h0
  have d3 : Int.tdiv c 262144 = c / 262144 := Int.tdiv_eq_ediv_of_nonneg h0
  have m0 : Int.tmod c 64 = c % 64 := Int.tmod_eq_emod_of_nonneg h0
  have m1 : Int.tmod (c / 64) 64 = c / 64 % 64 := Int.tmod_eq_emod_of_nonneg (by omega)
  have m2 : Int.tmod (c / 4096) 64 = c / 4096 % 64 := Int.tmod_eq_emod_of_nonneg (by omega)
  have w1 : wrap64 (c / 64) = c / 64 := wr _ (by omega) (by omega)
  have w2 : wrap64 (c / 4096) = c / 4096 := wr _ (by omega) (by omega)
  have w3 : wrap64 (c / 262144) = c / 262144 := wr _ (by omega) (by omega)
  unfold caduceusref02_Bytes.f
  simp only [d1, d2, d3, m0, w1, w2, w3, m1, m2]
  unfold encodeRune
  by_cases a : c ≤ 127
  · rw [if_pos (by omega), encodeRuneZ_one h0 a]
    refine ⟨_, rfl, ?_⟩
    rw [hs, show c % 256 = c by omega]
  by_cases b : c ≤ 2047
  · rw [if_neg (by omega), if_pos (by omega), encodeRuneZ_two (by omega) b]
    refine ⟨_, rfl, ?_⟩
    rw [hs, wr (192 + c / 64) (by omega) (by omega), wr (128 + c % 64) (by omega) (by omega), show (192 + c / 64) % 256 = 192 + c / 64 by omega, show (128 + c % 64) % 256 = 128 + c % 64 by omega]
  by_cases d : c ≤ 65535
  · rw [if_neg (by omega), if_neg (by omega), if_pos (by omega), encodeRuneZ_three (by omega)]
    refine ⟨_, rfl, ?_⟩
    rw [hs, wr (224 + c / 4096) (by omega) (by omega), wr (128 + c / 64 % 64) (by omega) (by omega), wr (128 + c % 64) (by omega) (by omega), show (224 + c / 4096) % 256 = 224 + c / 4096 by omega, show (128 + c / 64 % 64) % 256 = 128 + c / 64 % 64 by omega, show (128 + c % 64) % 256 = 128 + c % 64 by omega]
  · rw [if_neg (by omega), if_neg (by omega), if_neg (by omega), encodeRuneZ_four (by omega) (by omega)]
    refine ⟨_, rfl, ?_⟩
    rw [hs, wr (240 + c / 262144) (by omega) (by omega), wr (128 + c / 4096 % 64) (by omega) (by omega), wr (128 + c / 64 % 64) (by omega) (by omega), wr (128 + c % 64) (by omega) (by omega), show (240 + c / 262144) % 256 = 240 + c / 262144 by omega, show (128 + c / 4096 % 64) % 256 = 128 + c / 4096 % 64 by omega, show (128 + c / 64 % 64) % 256 = 128 + c / 64 % 64 by omega, show (128 + c % 64) % 256 = 128 + c % 64 by omega]
theorem enc_len4 (c : Int) : (encodeRune c).length ≤ 4 := by
  unfold encodeRune
  rw [List.length_map]
  exact (encodeRuneZ_length c).2
theorem ref_Fold_l (L : List Int) (hL : ∀ c ∈ L, okR c) (hl : L.length ≤ 1099511627776) : ∀ (d i k : Nat) (out : ByteArray), L.length - i ≤ d → d + 1 ≤ k → i ≤ L.length → out.size ≤ 4 * i →
    ∃ r, caduceusref02_Fold.l0 k L out (i : Int) = some r ∧ r.data.toList = out.data.toList ++ encL ((L.drop i).map NC.smallZ) := by
  intro d
  induction d with
  | zero =>
    intro i k out hd hk hi ho
    obtain ⟨k, rfl⟩ : ∃ m, k = m + 1 := ⟨k - 1, by omega⟩
    rw [caduceusref02_Fold.l0, if_neg (by omega)]
    exact ⟨_, rfl, by rw [List.drop_eq_nil_of_le (by omega)]; simp [encL]⟩
  | succ d ih =>
    intro i k out hd hk hi ho
    obtain ⟨k, rfl⟩ : ∃ m, k = m + 1 := ⟨k - 1, by omega⟩
    by_cases hlt : i < L.length
    · have hc := hL _ (List.getElem_mem hlt)
      have hr : rd L (i : Int) = L[i] := by simp [rd, List.getD_eq_getElem?_getD, hlt]
      obtain ⟨b, hb, hbl⟩ := ref_Bytes_is _ (smallZ_ok _ hc)
      have hbs : b.size ≤ 4 := by rw [size_eq, hbl]; exact enc_len4 _
      have hos : (out ++ b).size = out.size + b.size := by simp
      rw [caduceusref02_Fold.l0, if_pos (by omega), if_pos (by omega), hr, ref_Small_is _ (by unfold okR at hc; omega), Option.bind_some, hb, Option.bind_some, if_pos (by omega), show wrap64 ((i : Int) + 1) = ((i + 1 : Nat) : Int) by rw [wr _ (by omega) (by omega)]; omega]
      obtain ⟨r, h1, h2⟩ := ih (i + 1) k (out ++ b) (by omega) (by omega) (by omega) (by omega)
      refine ⟨r, h1, ?_⟩
      rw [h2, List.drop_eq_getElem_cons hlt, List.map_cons, encL_cons, show (out ++ b).data.toList = out.data.toList ++ b.data.toList by simp, hbl, List.append_assoc]
    · rw [caduceusref02_Fold.l0, if_neg (by omega)]
      exact ⟨_, rfl, by rw [List.drop_eq_nil_of_le (by omega)]; simp [encL]⟩
theorem rD_len (s : ByteArray) : (rD s.data.toList).length ≤ s.size := by rw [← runes_rD]; exact NC.runes_len s
theorem fold_list (s : ByteArray) : (NC.foldB s).data.toList = if validD s.data.toList = true then encL ((rD s.data.toList).map NC.smallZ) else s.data.toList := by
  unfold NC.foldB
  split
  · rw [runesBytes_list, runes_rD]
  · rfl
theorem ref_Fold_is (s : ByteArray) (hs : s.size ≤ 1099511627776) (k : Nat) (hk : s.size + 5 ≤ k) : caduceusref02_Fold.f k s = some (NC.foldB s) := by
  unfold caduceusref02_Fold.f
  rw [ref_Valid_is s hs k hk, Option.bind_some]
  have hf := fold_list s
  by_cases hv : validD s.data.toList = true
  · rw [if_pos hv] at hf ⊢
    rw [ref_Runes_is s hs k hk hv, Option.bind_some]
    have hl := rD_len s
    obtain ⟨r, h1, h2⟩ := ref_Fold_l (rD s.data.toList) (rD_ok _ hv) (by omega) (rD s.data.toList).length 0 k ⟨#[]⟩ (by omega) (by omega) (by omega) (by decide)
    refine (show caduceusref02_Fold.l0 k (rD s.data.toList) ⟨#[]⟩ 0 = some r from h1).trans ?_
    congr 1
    apply ba_ext
    rw [h2, hf]
    simp
  · rw [if_neg hv] at hf ⊢
    congr 1
    exact ba_ext hf.symm
def hashL : Int → List UInt8 → Int
  | h, [] => h
  | h, b :: l => hashL (IntKind.u64.wrap ((Go.bits .xor .u64 h (IntKind.u64.wrap (b.toNat : Int))) * 1099511628211)) l
def hashB (s : ByteArray) : Int := hashL 14695981039346656037 s.data.toList
theorem drop_cons (s : ByteArray) (i : Nat) (h : i < s.size) : s.data.toList.drop i = s.data.toList.getD i 0 :: s.data.toList.drop (i + 1) := by
  have h' : i < s.data.toList.length := by rw [← size_eq]; exact h
  rw [List.drop_eq_getElem_cons h']
  simp [List.getD_eq_getElem?_getD, List.getElem?_eq_getElem h']
theorem name_Hash_l (s : ByteArray) (hs : s.size ≤ 1099511627776) : ∀ (d i k : Nat) (h : Int), s.size - i ≤ d → d + 1 ≤ k → i ≤ s.size → name_Hash.l0 k s h (s.size : Int) (i : Int) = some (hashL h (s.data.toList.drop i)) := by
  intro d
  induction d with
  | zero =>
    intro i k h hd hk hi
    obtain ⟨k, rfl⟩ : ∃ m, k = m + 1 := ⟨k - 1, by omega⟩
    rw [name_Hash.l0, if_neg (by omega), drop_end s i (by omega)]
    rfl
  | succ d ih =>
    intro i k h hd hk hi
    obtain ⟨k, rfl⟩ : ∃ m, k = m + 1 := ⟨k - 1, by omega⟩
    by_cases hlt : i < s.size
    · rw [name_Hash.l0, if_pos (by omega), if_pos (by omega), if_pos (by omega), bt_getD, show wrap64 ((i : Int) + 1) = ((i + 1 : Nat) : Int) by rw [wr _ (by omega) (by omega)]; omega, ih _ _ _ (by omega) (by omega) (by omega), drop_cons s i hlt]
      rfl
    · rw [name_Hash.l0, if_neg (by omega), drop_end s i hlt]
      rfl
theorem name_Hash_is (s : ByteArray) (hs : s.size ≤ 1099511627776) (k : Nat) (hk : s.size + 1 ≤ k) : name_Hash.f k s = some (hashB s) :=
  name_Hash_l s hs s.size 0 k _ (by omega) hk (by omega)
theorem ref_Hash_l (s : ByteArray) (hs : s.size ≤ 1099511627776) : ∀ (d i k : Nat) (h : Int), s.size - i ≤ d → d + 1 ≤ k → i ≤ s.size → caduceusref02_Hash.l0 k s h (i : Int) = some (hashL h (s.data.toList.drop i)) := by
  intro d
  induction d with
  | zero =>
    intro i k h hd hk hi
    obtain ⟨k, rfl⟩ : ∃ m, k = m + 1 := ⟨k - 1, by omega⟩
    rw [caduceusref02_Hash.l0, if_neg (by omega), drop_end s i (by omega)]
    rfl
  | succ d ih =>
    intro i k h hd hk hi
    obtain ⟨k, rfl⟩ : ∃ m, k = m + 1 := ⟨k - 1, by omega⟩
    by_cases hlt : i < s.size
    · rw [caduceusref02_Hash.l0, if_pos (by omega), if_pos (by omega), bt_getD, show wrap64 ((i : Int) + 1) = ((i + 1 : Nat) : Int) by rw [wr _ (by omega) (by omega)]; omega, ih _ _ _ (by omega) (by omega) (by omega), drop_cons s i hlt]
      rfl
    · rw [caduceusref02_Hash.l0, if_neg (by omega), drop_end s i hlt]
      rfl
theorem ref_Hash_is (s : ByteArray) (hs : s.size ≤ 1099511627776) (k : Nat) (hk : s.size + 1 ≤ k) : caduceusref02_Hash.f k s = some (hashB s) :=
  ref_Hash_l s hs s.size 0 k _ (by omega) hk (by omega)
theorem name_Fold_is (s : ByteArray) (hs : s.size ≤ 1099511627776) : name_Fold.f s = some (NC.foldB s) := by unfold name_Fold.f; rw [if_pos (by omega)]
theorem fold_size (s : ByteArray) : (NC.foldB s).size ≤ 4 * s.size := by
  unfold NC.foldB
  split
  · have h1 := runesBytes_size_le ((NC.runes s).map NC.smallZ)
    have h2 := NC.runes_len s
    rw [List.length_map] at h1
    omega
  · omega
theorem name_Key_is (s : ByteArray) (hs : s.size ≤ 4294967296) (k : Nat) (hk : 4 * s.size + 1 ≤ k) : name_Key.f k s = some (hashB (NC.foldB s)) := by
  unfold name_Key.f
  have := fold_size s
  rw [name_Fold_is s (by omega), Option.bind_some, name_Hash_is _ (by omega) k (by omega)]
  rfl
theorem lift {α : Type} {f : Nat → Option α} (hm : ∀ k, LeO (f k) (f (k + 1))) {a b : Nat} (h : a ≤ b) {r : α} (e : f a = some r) : f b = some r := by
  obtain ⟨d, rfl⟩ : ∃ d, b = a + d := ⟨b - a, by omega⟩
  clear h
  induction d with
  | zero => exact e
  | succ d ih => exact hm _ _ ih
theorem wrapn {n : Nat} (h : n ≤ 1000000) : wrap64 ((n : Int) + 1) = ((n + 1 : Nat) : Int) := by unfold wrap64; omega
theorem wrapp {n : Nat} (h : n ≤ 1000000) (h0 : 0 < n) : wrap64 ((n : Int) - 1) = ((n - 1 : Nat) : Int) := by unfold wrap64; omega
theorem drop_parts {α : Type} {l : List α} {i : Nat} {x : α} {r : List α} (h : l.drop i = x :: r) : l[i]? = some x ∧ i < l.length ∧ l.drop (i + 1) = r := by
  have hi : i < l.length := by
    rcases Nat.lt_or_ge i l.length with g | g
    · exact g
    · rw [List.drop_eq_nil_of_le g] at h; cases h
  rw [List.drop_eq_getElem_cons hi] at h
  injection h with h1 h2
  exact ⟨by rw [List.getElem?_eq_getElem hi, h1], hi, h2⟩
@[reducible] def toR (x : S53) : S52 := ⟨x.f0, x.f1, x.f2⟩
theorem rd_int {l : List Int} {i : Nat} {x : Int} (h : l[i]? = some x) : rd l (i : Int) = x := by
  unfold rd; rw [Int.toNat_natCast, List.getD_eq_getElem?_getD, h]; rfl
theorem rd_M {l : List S53} {i : Nat} {x : S53} (h : l[i]? = some x) : rd_T53 l (i : Int) = x := by
  unfold rd_T53; rw [Int.toNat_natCast, List.getD_eq_getElem?_getD, h]; rfl
theorem rd_R {l : List S53} {i : Nat} {x : S53} (h : l[i]? = some x) : rd_T52 (l.map toR) (i : Int) = toR x := by
  unfold rd_T52; rw [Int.toNat_natCast, List.getD_eq_getElem?_getD, List.getElem?_map, h]; rfl
theorem view_nodes_is (l : List S53) (hl : l.length ≤ 1000) : ∀ (r : List S53) (i k : Nat) (acc : List Int), l.drop i = r → i + r.length = l.length → acc.length = i → r.length < k → view_nodes.l0 k acc l (l.length : Int) (i : Int) = some (acc ++ r.map (·.f0)) := by
  intro r
  induction r with
  | nil =>
    intro i k acc hd hi ha hk
    obtain ⟨k, rfl⟩ : ∃ q, k = q + 1 := ⟨k - 1, by simp at hk; omega⟩
    simp only [view_nodes.l0]
    rw [if_neg (by simp at hi; omega)]
    simp
  | cons x r ih =>
    intro i k acc hd hi ha hk
    obtain ⟨k, rfl⟩ : ∃ q, k = q + 1 := ⟨k - 1, by simp at hk; omega⟩
    obtain ⟨hx, hlt, hd2⟩ := drop_parts hd
    simp only [view_nodes.l0]
    rw [if_pos (by omega), if_pos (by omega), if_pos (by omega), if_pos (by omega), rd_M hx, wrapn (by omega), ih (i + 1) k _ hd2 (by simp at hi; omega) (by simp; omega) (by simp at hk; omega)]
    simp
theorem view_nodes_f (l : List S53) (hl : l.length ≤ 1000) (k : Nat) (hk : l.length < k) : view_nodes.f k l = some (l.map (·.f0)) := by
  have h := view_nodes_is l hl l 0 k [] rfl (by omega) rfl hk
  simpa [view_nodes.f] using h
def nodeB (n : Int) : Bool := decide (1 ≤ n) && decide (n ≤ 15)
theorem ring_node_is (n : Int) : ring_node.f n = some (nodeB n) := by
  unfold ring_node.f nodeB
  by_cases h : n ≥ 1
  · rw [if_pos h, decide_eq_true (show 1 ≤ n from h), Bool.true_and]
  · rw [if_neg h, decide_eq_false (show ¬ 1 ≤ n from h), Bool.false_and]
def nodesF : Option Int → List Int → Bool
  | _, [] => true
  | p, n :: r => nodeB n && (p.all (fun q => decide (q < n))) && nodesF (some n) r
theorem ring_Nodes_is (l : List Int) (hl : l.length ≤ 1000) : ∀ (r : List Int) (i k : Nat) (p : Option Int), l.drop i = r → i + r.length = l.length → (i = 0 ∧ p = none ∨ 0 < i ∧ ∃ q, p = some q ∧ l[i - 1]? = some q) → r.length < k → ring_Nodes.l0 k l l (l.length : Int) (i : Int) = some (nodesF p r) := by
  intro r
  induction r with
  | nil =>
    intro i k p hd hi hp hk
    obtain ⟨k, rfl⟩ : ∃ q, k = q + 1 := ⟨k - 1, by simp at hk; omega⟩
    simp only [ring_Nodes.l0]
    rw [if_neg (by simp at hi; omega)]
    rfl
  | cons x r ih =>
    intro i k p hd hi hp hk
    obtain ⟨k, rfl⟩ : ∃ q, k = q + 1 := ⟨k - 1, by simp at hk; omega⟩
    obtain ⟨hx, hlt, hd2⟩ := drop_parts hd
    have ih' := ih (i + 1) k (some x) hd2 (by simp at hi; omega) (.inr ⟨by omega, x, rfl, by simpa using hx⟩) (by simp at hk; omega)
    simp only [ring_Nodes.l0]
    rw [if_pos (by omega), if_pos (by omega), if_pos (by omega), rd_int hx, ring_node_is, Option.bind_some, wrapn (by omega)]
    simp only [nodesF]
    by_cases hn : nodeB x = true
    · rw [if_pos hn, hn, Bool.true_and]
      rcases hp with ⟨rfl, rfl⟩ | ⟨h0, q, rfl, hq⟩
      · rw [if_neg (by omega), ih']
        rfl
      · rw [if_pos (by omega), wrapp (by omega) h0, if_pos (by omega), if_pos (by omega), rd_int hq]
        by_cases hlt2 : q < x
        · rw [if_neg (by omega), ih']
          simp [hlt2]
        · rw [if_pos (by omega)]
          simp [hlt2]
    · rw [if_neg hn]
      have hn' : nodeB x = false := by simpa using hn
      rw [hn']
      rfl
theorem ring_Nodes_f (l : List Int) (hl : l.length ≤ 1000) (k : Nat) (hk : l.length < k) : ring_Nodes.f k l = some (nodesF none l) :=
  ring_Nodes_is l hl l 0 k none rfl (by omega) (.inl ⟨rfl, rfl⟩) hk
def countB (n : Int) : Bool := decide (1 ≤ n) && decide (n ≤ 1099511627775)
def chkF (e : Int) (l : List S53) : Bool := countB e && (decide (0 < l.length) && (nodesF none (l.map (·.f0)) && l.all (fun m => countB m.f1)))
theorem idxF_all (p : S53 → Bool) : ∀ (l : List S53) (i : Int), 0 ≤ i → (!(decide (0 ≤ idxF p l i))) = l.all (fun x => !p x) := by
  intro l
  induction l with
  | nil => intro i hi; rfl
  | cons x l ih =>
    intro i hi
    rw [List.all_cons]
    by_cases h : p x = true
    · have e : idxF p (x :: l) i = i := by unfold idxF; rw [if_pos h]
      rw [e, decide_eq_true hi, h]; rfl
    · have h' : p x = false := by simpa using h
      have e : idxF p (x :: l) i = idxF p l (i + 1) := by rw [idxF, if_neg h]
      rw [e, ih (i + 1) (by omega), h']
      rfl
theorem view_Check_f (e : Int) (l : List S53) (hl : l.length ≤ 1000) (k : Nat) (hk : l.length < k) : view_Check.f k e l = some (chkF e l) := by
  unfold view_Check.f chkF
  rw [view_count_is, Option.bind_some]
  show (if countB e = true then _ else _) = _
  by_cases h1 : countB e = true
  · rw [if_pos h1, h1, Bool.true_and]
    by_cases h2 : (l.length : Int) > 0
    · rw [if_pos h2, view_nodes_f l hl k hk, Option.bind_some, ring_Nodes_f _ (by simpa using hl) k (by simpa using hk), Option.bind_some, decide_eq_true (show 0 < l.length by omega), Bool.true_and]
      by_cases h3 : nodesF none (l.map (·.f0)) = true
      · rw [if_pos h3, h3, Bool.true_and, idxF_all _ _ _ (by omega)]
        congr 2
        funext m
        simp [lifeBad, countB]
      · rw [if_neg h3]
        have h3' : nodesF none (l.map (·.f0)) = false := by simpa using h3
        rw [h3']; rfl
    · rw [if_neg h2, decide_eq_false (show ¬ 0 < l.length by omega)]; rfl
  · rw [if_neg h1]
    have h1' : countB e = false := by simpa using h1
    rw [h1']; rfl
theorem ref_Check_is (e : Int) (l : List S53) (hl : l.length ≤ 1000) : ∀ (r : List S53) (i k : Nat) (p : Option Int), l.drop i = r → i + r.length = l.length → (i = 0 ∧ p = none ∨ 0 < i ∧ ∃ q, p = some q.f0 ∧ l[i - 1]? = some q) → r.length < k →
    caduceusref14_Check.l0 k (i : Int) e (l.map toR) = some (nodesF p (r.map (·.f0)) && (r.all (fun m => countB m.f1) && (decide (0 < l.length) && countB e))) := by
  intro r
  induction r with
  | nil =>
    intro i k p hd hi hp hk
    obtain ⟨k, rfl⟩ : ∃ q, k = q + 1 := ⟨k - 1, by simp at hk; omega⟩
    simp only [caduceusref14_Check.l0]
    rw [List.length_map, if_neg (by simp at hi; omega)]
    simp only [nodesF, List.map_nil, List.all_nil, Bool.true_and]
    by_cases h : 0 < l.length
    · rw [if_pos (by omega), decide_eq_true h, Bool.true_and]
      by_cases h1 : e ≥ 1
      · rw [if_pos h1, countB, decide_eq_true (show 1 ≤ e from h1), Bool.true_and]
      · rw [if_neg h1, countB, decide_eq_false (show ¬ 1 ≤ e from h1), Bool.false_and]
    · rw [if_neg (by omega), decide_eq_false h, Bool.false_and]
  | cons x r ih =>
    intro i k p hd hi hp hk
    obtain ⟨k, rfl⟩ : ∃ q, k = q + 1 := ⟨k - 1, by simp at hk; omega⟩
    obtain ⟨hx, hlt, hd2⟩ := drop_parts hd
    have ih' := ih (i + 1) k (some x.f0) hd2 (by simp at hi; omega) (.inr ⟨by omega, x, rfl, by simpa using hx⟩) (by simp at hk; omega)
    simp only [caduceusref14_Check.l0]
    rw [List.length_map, if_pos (by omega), if_pos (by omega), rd_R hx, wrapn (by omega), ih']
    simp only [nodesF, List.map_cons, List.all_cons, toR, nodeB]
    by_cases a1 : x.f0 < 1
    · rw [if_pos a1, decide_eq_false (show ¬ 1 ≤ x.f0 by omega)]; rfl
    rw [if_neg a1, decide_eq_true (show 1 ≤ x.f0 by omega), Bool.true_and]
    by_cases a2 : x.f0 > 15
    · rw [if_pos a2, decide_eq_false (show ¬ x.f0 ≤ 15 by omega)]; rfl
    rw [if_neg a2, decide_eq_true (show x.f0 ≤ 15 by omega), Bool.true_and]
    have hc : countB x.f1 = (decide (1 ≤ x.f1) && decide (x.f1 ≤ 1099511627775)) := rfl
    rcases hp with ⟨rfl, rfl⟩ | ⟨h0, q, rfl, hq⟩
    · rw [if_neg (by omega)]
      by_cases a3 : x.f1 < 1
      · rw [if_pos a3, hc, decide_eq_false (show ¬ 1 ≤ x.f1 by omega)]; simp
      rw [if_neg a3]
      by_cases a4 : x.f1 > 1099511627775
      · rw [if_pos a4, hc, decide_eq_false (show ¬ x.f1 ≤ 1099511627775 by omega)]; simp
      rw [if_neg a4, hc, decide_eq_true (show 1 ≤ x.f1 by omega), decide_eq_true (show x.f1 ≤ 1099511627775 by omega)]
      simp
    · rw [if_pos (by omega), wrapp (by omega) h0, if_pos (by omega), if_pos (by omega), rd_R hq]
      simp only [toR]
      by_cases a5 : x.f0 ≤ q.f0
      · rw [if_pos a5]; simp [show ¬ q.f0 < x.f0 by omega]
      rw [if_neg a5]
      by_cases a3 : x.f1 < 1
      · rw [if_pos a3, hc, decide_eq_false (show ¬ 1 ≤ x.f1 by omega)]; simp
      rw [if_neg a3]
      by_cases a4 : x.f1 > 1099511627775
      · rw [if_pos a4, hc, decide_eq_false (show ¬ x.f1 ≤ 1099511627775 by omega)]; simp
      rw [if_neg a4, hc, decide_eq_true (show 1 ≤ x.f1 by omega), decide_eq_true (show x.f1 ≤ 1099511627775 by omega)]
      simp [show q.f0 < x.f0 by omega]
theorem ref_Check_f (e : Int) (l : List S53) (hl : l.length ≤ 1000) (k : Nat) (hk : l.length < k) : caduceusref14_Check.f k e (l.map toR) = some (chkF e l) := by
  have h := ref_Check_is e l hl l 0 k none rfl (by omega) (.inl ⟨rfl, rfl⟩) hk
  unfold caduceusref14_Check.f
  rw [show ((0 : Nat) : Int) = 0 from rfl] at h
  rw [h]
  unfold chkF
  cases countB e <;> cases decide (0 < l.length) <;> cases nodesF none (l.map (·.f0)) <;> cases l.all (fun m => countB m.f1) <;> rfl
theorem law_Ref_is (e e2 : Int) (l : List S53) (hl : l.length ≤ 1000) : ∀ (r : List S53) (i k : Nat) (acc : List S52), l.drop i = r → i + r.length = l.length → acc.length = i → r.length < k → caduceuslaw14_Ref.l0 k (i : Int) e l e2 acc = some (e2, acc ++ r.map toR) := by
  intro r
  induction r with
  | nil =>
    intro i k acc hd hi ha hk
    obtain ⟨k, rfl⟩ : ∃ q, k = q + 1 := ⟨k - 1, by simp at hk; omega⟩
    simp only [caduceuslaw14_Ref.l0]
    rw [if_neg (by simp at hi; omega)]
    simp
  | cons x r ih =>
    intro i k acc hd hi ha hk
    obtain ⟨k, rfl⟩ : ∃ q, k = q + 1 := ⟨k - 1, by simp at hk; omega⟩
    obtain ⟨hx, hlt, hd2⟩ := drop_parts hd
    simp only [caduceuslaw14_Ref.l0]
    rw [if_pos (by omega), if_pos (by omega), if_pos (by omega), rd_M hx, wrapn (by omega), ih (i + 1) k _ hd2 (by simp at hi; omega) (by simp; omega) (by simp at hk; omega)]
    simp [toR]
theorem law_Ref_f (e : Int) (l : List S53) (hl : l.length ≤ 1000) (k : Nat) (hk : l.length < k) : caduceuslaw14_Ref.f k e l = some (e, l.map toR) := by
  have h := law_Ref_is e e l hl l 0 k [] rfl (by omega) rfl hk
  simpa [caduceuslaw14_Ref.f] using h
theorem chk_parts {e : Int} {l : List S53} (h : chkF e l = true) : (1 ≤ e ∧ e ≤ 1099511627775) ∧ 0 < l.length ∧ nodesF none (l.map (·.f0)) = true ∧ ∀ m ∈ l, 1 ≤ m.f1 ∧ m.f1 ≤ 1099511627775 := by
  simp only [chkF, countB, Bool.and_eq_true, decide_eq_true_eq, List.all_eq_true] at h
  exact ⟨h.1, h.2.1, h.2.2.1, h.2.2.2⟩
theorem awake60 : caduceuslaw14_awake.f 60 = some true := by kernel_rfl
theorem awake_f (k : Nat) (hk : 60 ≤ k) : caduceuslaw14_awake.f k = some true := lift (f := fun k => caduceuslaw14_awake.f k) (fun k => caduceuslaw14_awake.mono k) hk awake60
theorem ref_Live_is (e : Int) (l : List S53) (hl : l.length ≤ 400) (hc : chkF e l = true) : ∀ (r : List S53) (i k : Nat) (acc : List Int), l.drop i = r → i + r.length = l.length → acc.length ≤ i → 2 * r.length + l.length + 2 < k → caduceusref14_Live.l0 k acc (i : Int) e (l.map toR) = some (acc ++ numsOf r) := by
  intro r
  induction r with
  | nil =>
    intro i k acc hd hi ha hk
    obtain ⟨k, rfl⟩ : ∃ q, k = q + 2 := ⟨k - 2, by omega⟩
    rw [caduceusref14_Live.l0, List.length_map, if_neg (by simp at hi; omega), caduceusref14_Live.j1, if_neg (by decide)]
    simp [numsOf]
  | cons x r ih =>
    intro i k acc hd hi ha hk
    simp at hk hi
    obtain ⟨k, rfl⟩ : ∃ q, k = q + 2 := ⟨k - 2, by omega⟩
    obtain ⟨hx, hlt, hd2⟩ := drop_parts hd
    rw [caduceusref14_Live.l0, List.length_map, if_pos (by omega), ref_Check_f e l (by omega) _ (by omega), Option.bind_some, hc, caduceusref14_Live.j1, if_pos rfl, List.length_map, if_pos (by omega), if_pos (by omega), rd_R hx, wrapn (by omega)]
    by_cases h : x.f2 = true
    · rw [if_pos h, if_pos (by omega), ih (i + 1) k _ hd2 (by omega) (by simp; omega) (by omega)]
      simp [numsOf, h]
    · rw [if_neg h, ih (i + 1) k _ hd2 (by omega) (by omega) (by omega)]
      simp [numsOf, h]
def liveF (e : Int) (l : List S53) : List Int := if chkF e l then numsOf l else []
theorem numsOf_len (l : List S53) : (numsOf l).length ≤ l.length := by unfold numsOf; rw [List.length_map]; exact List.length_filter_le _ _
theorem liveF_len (e : Int) (l : List S53) : (liveF e l).length ≤ l.length := by unfold liveF; split; exact numsOf_len l; simp
theorem ref_Live_f (e : Int) (l : List S53) (hl : l.length ≤ 300) (k : Nat) (hk : 1000 ≤ k) : caduceusref14_Live.f k e (l.map toR) = some (liveF e l) := by
  unfold caduceusref14_Live.f liveF
  by_cases hc : chkF e l = true
  · have h := ref_Live_is e l (by omega) hc l 0 k [] rfl (by omega) (by simp) (by omega)
    rw [show ((0 : Nat) : Int) = 0 from rfl] at h
    rw [h, if_pos hc, List.nil_append]
  · rw [if_neg hc]
    obtain ⟨k, rfl⟩ : ∃ q, k = q + 2 := ⟨k - 2, by omega⟩
    have hc' : chkF e l = false := by simpa using hc
    rw [caduceusref14_Live.l0, List.length_map]
    by_cases h : (0 : Int) < l.length
    · rw [if_pos h, ref_Check_f e l (by omega) _ (by omega), Option.bind_some, hc', caduceusref14_Live.j1, if_neg (by decide)]
    · rw [if_neg h, caduceusref14_Live.j1, if_neg (by decide)]
theorem view_Live_f (e : Int) (l : List S53) (hl : l.length ≤ 300) (k : Nat) (hk : 1000 ≤ k) : view_Live.f k e l = some (liveF e l) := by
  unfold view_Live.f liveF
  rw [view_Check_f e l (by omega) _ (by omega), Option.bind_some]
  by_cases hc : chkF e l = true
  · rw [if_pos hc, if_pos hc, if_pos (by omega)]
  · rw [if_neg hc, if_neg hc]
theorem ref10_Same_is (l : List Int) (hl : l.length ≤ 1000) : ∀ (r : List Int) (i k : Nat), l.drop i = r → i + r.length = l.length → r.length < k → caduceusref10_Same.l0 k l l (i : Int) = some true := by
  intro r
  induction r with
  | nil =>
    intro i k hd hi hk
    obtain ⟨k, rfl⟩ : ∃ q, k = q + 1 := ⟨k - 1, by omega⟩
    rw [caduceusref10_Same.l0, if_neg (by simp at hi; omega)]
  | cons x r ih =>
    intro i k hd hi hk
    simp at hk hi
    obtain ⟨k, rfl⟩ : ∃ q, k = q + 1 := ⟨k - 1, by omega⟩
    obtain ⟨hx, hlt, hd2⟩ := drop_parts hd
    rw [caduceusref10_Same.l0, if_pos (by omega), if_pos (by omega), if_pos (by omega), if_pos rfl, wrapn (by omega), ih (i + 1) k hd2 (by omega) (by omega)]
theorem ref10_Same_f (l : List Int) (hl : l.length ≤ 1000) (k : Nat) (hk : l.length < k) : caduceusref10_Same.f k l l = some true := by
  unfold caduceusref10_Same.f
  rw [if_pos rfl]
  exact ref10_Same_is l hl l 0 k rfl (by omega) hk
theorem nodes_same (l : List Int) (hl : l.length ≤ 1000) : nodesF none l = nodesB l := by
  have a := ring_Nodes_f l hl (l.length + 1) (by omega)
  have b := nodes_is l (by omega) (l.length + 1) (by omega)
  rw [a] at b
  exact Option.some.inj b
theorem liveF_nodes (e : Int) (l : List S53) (hl : l.length ≤ 300) : nodesB (liveF e l) = true := by
  unfold liveF
  split
  · rename_i h
    have hp := (chk_parts h).2.2.1
    rw [nodes_same _ (by rw [List.length_map]; omega)] at hp
    have := nodesB_NL hp
    refine all_mem_okAt ⟨?_, ?_⟩
    · intro n hn
      obtain ⟨m, hm, rfl⟩ := List.mem_map.1 hn
      exact this.1 _ (List.mem_map_of_mem (List.mem_filter.1 hm).1)
    · exact List.Pairwise.sublist (List.Sublist.map _ List.filter_sublist) this.2
  · decide
/-- A name's key. -/
def keyZ (s : ByteArray) : Int := hashB (NC.foldB s)
/-- All heirs of a name in a view. -/
def hrZ (e : Int) (l : List S53) (s : ByteArray) : List Int := heirsZ pointZ (keyZ s) (ringZ (liveF e l))
theorem hr_len (e : Int) (l : List S53) (s : ByteArray) (hl : l.length ≤ 300) : (hrZ e l s).length = (liveF e l).length := by
  unfold hrZ
  rw [heirs_len, ring_len (liveF_nodes e l hl)]
theorem view_Heirs_f (e : Int) (l : List S53) (s : ByteArray) (hl : l.length ≤ 300) (hs : s.size ≤ 1000) (k : Nat) (hk : 5000 ≤ k) : view_Heirs.f k e l s = some ((hrZ e l s).take 3) := by
  have := liveF_len e l
  unfold view_Heirs.f
  rw [name_Key_is s (by omega) k (by omega), Option.bind_some, view_Live_f e l hl k (by omega), Option.bind_some, heirs_is _ _ _ (by omega) k (by omega), Option.bind_some]
  congr 1
  show List.take _ (hrZ e l s) = _
  have h1 := hr_len e l s hl
  have h2 := ring_len (liveF_nodes e l hl)
  by_cases h : (ringZ (liveF e l)).length ≤ 3
  · rw [List.take_of_length_le (by omega), List.take_of_length_le (by omega)]
  · have : (min (max 3 0) ((ringZ (liveF e l)).length : Int)).toNat = 3 := by omega
    rw [this]
theorem view_Owner_f (e : Int) (l : List S53) (s : ByteArray) (hl : l.length ≤ 300) (hs : s.size ≤ 1000) (k : Nat) (hk : 5000 ≤ k) : view_Owner.f k e l s = some (ownZ (keyZ s) (ringZ (liveF e l)), decide (ringZ (liveF e l) ≠ [])) := by
  have := liveF_len e l
  unfold view_Owner.f ring_Keeper.f
  rw [view_Live_f e l hl k (by omega), Option.bind_some, name_Key_is s (by omega) k (by omega), Option.bind_some, owner_is _ _ (by omega) k (by omega), Option.bind_some]
  rfl
theorem few_is (e : Int) (l : List S53) : caduceuslaw14_few.f e l = some (decide ((l.length : Int) ≤ 40)) := rfl
theorem ref_Heirs_f (e : Int) (l : List S53) (s : ByteArray) (hl : l.length ≤ 300) (hs : s.size ≤ 1000) (k : Nat) (hk : 40000 ≤ k) : caduceusref14_Heirs.f k e (l.map toR) s = some ((hrZ e l s).take 3) := by
  have := liveF_len e l
  have hz := fold_size s
  unfold caduceusref14_Heirs.f
  rw [ref_Fold_is s (by omega) k (by omega), Option.bind_some, ref_Hash_is _ (by omega) k (by omega), Option.bind_some, ref_Live_f e l hl k (by omega), Option.bind_some, ref_heirs_is _ _ (by omega) k (by omega) (by omega), Option.bind_some]
  show (if ((hrZ e l s).length : Int) > 3 then (if 3 ≤ ((hrZ e l s).length : Int) then some ((hrZ e l s).take (3 : Int).toNat) else none) else some (hrZ e l s)) = _
  split
  · rw [if_pos (by omega)]
    rfl
  · rw [List.take_of_length_le (by omega)]
def eqM (y x : S53) : Bool := y.f0 == x.f0 && (y.f1 == x.f1 && (y.f2 == x.f2))
theorem memM_any (l : List S53) (x : S53) : memM l x = l.any (fun y => eqM y x) := by
  unfold memM eqM
  congr 1
  funext y
  rw [Bool.eq_iff_iff]
  simp only [Bool.and_eq_true, beq_iff_eq]
  constructor
  · rintro ⟨a, b, c⟩; exact ⟨a.symm, b.symm, c.symm⟩
  · rintro ⟨a, b, c⟩; exact ⟨a.symm, b.symm, c.symm⟩
theorem ref_Gone_l1 (e1 e2 : Int) (A B : List S53) (hA : A.length ≤ 300) (hB : B.length ≤ 300) (i : Nat) (x : S53) (hx : A[i]? = some x) (out : List Int) (ho : out.length ≤ 1000) (R : Option (List Int)) (K : Nat)
    (hR : ∀ k, K ≤ k → caduceusref14_Gone.l0 k (if (x.f2 && !memM B x) = true then out ++ [x.f0] else out) ((i + 1 : Nat) : Int) e1 (A.map toR) e2 (B.map toR) = R) :
    ∀ (r : List S53) (j k : Nat) (f : Bool), B.drop j = r → j + r.length = B.length → (f || r.any (fun y => eqM y x)) = memM B x → r.length + K + 1 < k → caduceusref14_Gone.l1 k out (i : Int) f (j : Int) e1 (A.map toR) e2 (B.map toR) = R := by
  intro r
  have hi : i < A.length := (List.getElem?_eq_some_iff.1 hx).1
  induction r with
  | nil =>
    intro j k f hd hj hf hk
    obtain ⟨k, rfl⟩ : ∃ q, k = q + 1 := ⟨k - 1, by omega⟩
    simp only [List.length_nil] at hj
    simp only [List.any_nil, Bool.or_false] at hf
    have := hR k (by simp at hk; omega)
    simp only [caduceusref14_Gone.l1]
    rw [List.length_map, List.length_map, if_neg (by omega), if_pos (by omega), if_pos (by omega), rd_R hx, wrapn (by omega), hf]
    show (if x.f2 = true then _ else _) = _
    by_cases hu : x.f2 = true
    · rw [if_pos hu]
      rw [hu, Bool.true_and] at this
      by_cases hm : memM B x = true
      · rw [if_pos hm]
        rw [hm, if_neg (by decide)] at this
        exact this
      · rw [if_neg hm, if_pos (by omega)]
        rw [if_pos (by simpa using hm)] at this
        exact this
    · rw [if_neg hu]
      rw [if_neg (by simp [hu])] at this
      exact this
  | cons y r ih =>
    intro j k f hd hj hf hk
    obtain ⟨k, rfl⟩ : ∃ q, k = q + 1 := ⟨k - 1, by omega⟩
    obtain ⟨hy, hlt, hd2⟩ := drop_parts hd
    simp only [List.length_cons] at hj hk
    simp only [List.any_cons] at hf
    simp only [caduceusref14_Gone.l1]
    rw [List.length_map, List.length_map, if_pos (by omega), wrapn (by omega)]
    cases f with
    | true =>
      rw [if_pos rfl]
      exact ih (j + 1) k true hd2 (by omega) (by simpa using hf) (by omega)
    | false =>
      rw [if_neg (by decide), if_pos (by omega), if_pos (by omega), if_pos (by omega), rd_R hx, rd_R hy]
      exact ih (j + 1) k (eqM y x) hd2 (by omega) (by simpa using hf) (by omega)
set_option maxRecDepth 20000 in
theorem ref_Gone_l0 (e1 e2 : Int) (A B : List S53) (hA : A.length ≤ 300) (hB : B.length ≤ 300) (h1 : chkF e1 A = true) (h2 : chkF e2 B = true) :
    ∀ (r : List S53) (i k : Nat) (out : List Int), A.drop i = r → i + r.length = A.length → out.length ≤ i → r.length * 310 + 1000 < k → caduceusref14_Gone.l0 k out (i : Int) e1 (A.map toR) e2 (B.map toR) = some (out ++ ((r.filter (·.f2)).filter (fun m => !memM B m)).map (·.f0)) := by
  intro r
  induction r with
  | nil =>
    intro i k out hd hi ho hk
    obtain ⟨k, rfl⟩ : ∃ q, k = q + 2 := ⟨k - 2, by omega⟩
    simp only [List.length_nil] at hi
    rw [caduceusref14_Gone.l0, List.length_map, if_neg (by omega), caduceusref14_Gone.j1, if_neg (by decide)]
    simp
  | cons x r ih =>
    intro i k out hd hi ho hk
    obtain ⟨k, rfl⟩ : ∃ q, k = q + 2 := ⟨k - 2, by omega⟩
    obtain ⟨hx, hlt, hd2⟩ := drop_parts hd
    simp only [List.length_cons] at hi hk
    rw [caduceusref14_Gone.l0, List.length_map, if_pos (by omega), ref_Check_f e1 A (by omega) _ (by omega), Option.bind_some, if_pos h1, ref_Check_f e2 B (by omega) _ (by omega), Option.bind_some, h2, caduceusref14_Gone.j1, if_pos rfl]
    refine ref_Gone_l1 e1 e2 A B hA hB i x hx out (by omega) _ (r.length * 310 + 1001) ?_ B 0 k false (by simp) (by omega) (by rw [memM_any]; simp) (by omega)
    intro k' hk'
    rw [ih (i + 1) k' _ hd2 (by omega) (by split <;> (try rw [List.length_append, List.length_singleton]) <;> omega) (by omega)]
    by_cases hu : x.f2 = true
    · rw [List.filter_cons_of_pos hu]
      by_cases hm : memM B x = true
      · rw [List.filter_cons_of_neg (by simp [hm]), if_neg (by simp [hm])]
      · rw [List.filter_cons_of_pos (by simpa using hm), if_pos (by simp [hu, hm])]
        simp
    · rw [List.filter_cons_of_neg hu, if_neg (by simp [hu])]
def goneF (e1 : Int) (A : List S53) (e2 : Int) (B : List S53) : List Int := if chkF e1 A = true ∧ chkF e2 B = true then goneOf A B else []
theorem ref_Gone_f (e1 e2 : Int) (A B : List S53) (hA : A.length ≤ 100) (hB : B.length ≤ 100) (k : Nat) (hk : 40000 ≤ k) : caduceusref14_Gone.f k e1 (A.map toR) e2 (B.map toR) = some (goneF e1 A e2 B) := by
  unfold caduceusref14_Gone.f goneF
  by_cases h1 : chkF e1 A = true
  · by_cases h2 : chkF e2 B = true
    · rw [if_pos ⟨h1, h2⟩]
      have := ref_Gone_l0 e1 e2 A B (by omega) (by omega) h1 h2 A 0 k [] (by simp) (by omega) (by simp) (by omega)
      rw [List.nil_append] at this
      exact this
    · rw [if_neg (fun h => h2 h.2)]
      obtain ⟨k, rfl⟩ : ∃ q, k = q + 2 := ⟨k - 2, by omega⟩
      have h2' : chkF e2 B = false := by simpa using h2
      rw [caduceusref14_Gone.l0, List.length_map]
      by_cases h : (0 : Int) < A.length
      · rw [if_pos h, ref_Check_f e1 A (by omega) _ (by omega), Option.bind_some, if_pos h1, ref_Check_f e2 B (by omega) _ (by omega), Option.bind_some, h2', caduceusref14_Gone.j1, if_neg (by decide)]
      · rw [if_neg h, caduceusref14_Gone.j1, if_neg (by decide)]
  · rw [if_neg (fun h => h1 h.1)]
    obtain ⟨k, rfl⟩ : ∃ q, k = q + 2 := ⟨k - 2, by omega⟩
    rw [caduceusref14_Gone.l0, List.length_map]
    by_cases h : (0 : Int) < A.length
    · rw [if_pos h, ref_Check_f e1 A (by omega) _ (by omega), Option.bind_some, if_neg h1, caduceusref14_Gone.j1, if_neg (by decide)]
    · rw [if_neg h, caduceusref14_Gone.j1, if_neg (by decide)]
theorem view_Gone_f (e1 e2 : Int) (A B : List S53) (hA : A.length ≤ 100) (hB : B.length ≤ 100) (k : Nat) (hk : 40000 ≤ k) : view_Gone.f k e1 A e2 B = some (goneF e1 A e2 B) := by
  unfold view_Gone.f goneF
  rw [view_Check_f e1 A (by omega) k (by omega), Option.bind_some, view_Check_f e2 B (by omega) k (by omega), Option.bind_some]
  by_cases h1 : chkF e1 A = true
  · rw [if_pos h1]
    by_cases h2 : chkF e2 B = true
    · rw [if_pos h2, if_pos (by omega), if_pos (by omega), if_pos (by omega), if_pos ⟨h1, h2⟩]
    · rw [if_neg h2, if_neg (fun h => h2 h.2)]
  · rw [if_neg h1, if_neg (fun h => h1 h.1)]
theorem goneF_len (e1 e2 : Int) (A B : List S53) : (goneF e1 A e2 B).length ≤ A.length := by
  unfold goneF
  split
  · unfold goneOf
    rw [List.length_map]
    exact Nat.le_trans (List.length_filter_le _ _) (List.length_filter_le _ _)
  · simp
theorem ViewKeeps : caduceuslaw14_ViewKeeps.Pure := by
  intro v w s _ _ _
  refine ⟨60010, ?_⟩
  generalize v.f0 = e
  generalize v.f1 = l
  generalize w.f0 = e2
  generalize w.f1 = l2
  unfold caduceuslaw14_ViewKeeps.f
  rw [few_is, Option.bind_some]
  have hj0 : caduceuslaw14_ViewKeeps.j0 60010 s true e l e2 l2 = some true := by
    simp only [caduceuslaw14_ViewKeeps.j0]
    rw [if_pos trivial, awake_f _ (by omega)]
    rfl
  by_cases h : (l.length : Int) ≤ 40
  · rw [decide_eq_true h, if_pos rfl, few_is, Option.bind_some]
    by_cases h2 : (l2.length : Int) ≤ 40
    · rw [decide_eq_true h2, if_pos rfl]
      by_cases hS : (s.size : Int) > 200
      · rw [decide_eq_true hS]; exact hj0
      · rw [decide_eq_false hS]
        have hl : l.length ≤ 300 := by omega
        have hn := liveF_nodes e l hl
        have hlen := hr_len e l s hl
        have hrl := ring_len hn
        have hgl := goneF_len e e2 l l2
        have ht3 : ((hrZ e l s).take 3).length ≤ 3 := by rw [List.length_take]; omega
        have hj1 : caduceuslaw14_ViewKeeps.j1 60009 s ((hrZ e l s).take 3) false e l e2 l2 = some true := by
          simp only [caduceuslaw14_ViewKeeps.j1]
          rw [if_neg (by decide), awake_f _ (by omega), Option.bind_some, if_pos rfl, view_Heirs_f e l s hl (by omega) _ (by omega), Option.bind_some, ref10_Same_f _ (by omega) _ (by omega), Option.bind_some, if_pos rfl, view_Gone_f e e2 l l2 (by omega) (by omega) _ (by omega), Option.bind_some, law_Ref_f e l (by omega) _ (by omega), Option.bind_some, law_Ref_f e2 l2 (by omega) _ (by omega), Option.bind_some, ref_Gone_f e e2 l l2 (by omega) (by omega) _ (by omega), Option.bind_some, ref10_Same_f _ (by omega) _ (by omega), Option.bind_some]
        simp only [caduceuslaw14_ViewKeeps.j0]
        rw [if_neg (by decide), law_Ref_f e l (by omega) _ (by omega), Option.bind_some, ref_Heirs_f e l s hl (by omega) _ (by omega), Option.bind_some, view_Owner_f e l s hl (by omega) _ (by omega), Option.bind_some]
        show (if (decide (ringZ (liveF e l) ≠ []) != decide ((((hrZ e l s).take 3).length : Int) > 0)) = true then none else (if decide (ringZ (liveF e l) ≠ []) = true then (if 0 < (((hrZ e l s).take 3).length : Int) then (if ownZ (keyZ s) (ringZ (liveF e l)) = rd ((hrZ e l s).take 3) 0 then _ else none) else none) else caduceuslaw14_ViewKeeps.j1 _ s ((hrZ e l s).take 3) (ownZ (keyZ s) (ringZ (liveF e l)) != 0) e l e2 l2)) = _
        by_cases hR : ringZ (liveF e l) = []
        · have hL : (liveF e l).length = 0 := by rw [← hrl, hR]; rfl
          have hH : hrZ e l s = [] := List.eq_nil_of_length_eq_zero (by omega)
          have ho : ownZ (keyZ s) (ringZ (liveF e l)) = 0 := by rw [hR]; rfl
          rw [decide_eq_false (fun k => k hR), ho, if_neg (by rw [hH]; decide), if_neg (by decide)]
          exact hj1
        · obtain ⟨o, r, hor⟩ : ∃ o r, hrZ e l s = o :: r := by
            cases hq : hrZ e l s with
            | nil =>
              have : 0 < (ringZ (liveF e l)).length := List.length_pos_iff.2 hR
              rw [hq] at hlen
              simp at hlen
              omega
            | cons o r => exact ⟨o, r, rfl⟩
          have hoo : ownZ (keyZ s) (ringZ (liveF e l)) = o := by
            have : heirsZ pointZ (keyZ s) (ringZ (liveF e l)) = o :: r := hor
            unfold ownZ
            rw [this]
            rfl
          have htp : 0 < ((hrZ e l s).take 3).length := by rw [hor]; simp
          have ht0 : rd ((hrZ e l s).take 3) 0 = o := by rw [hor]; rfl
          rw [decide_eq_true hR, decide_eq_true (by omega), if_neg (by decide), if_pos rfl, if_pos (by omega), ht0, if_pos hoo]
          exact hj1
    · rw [decide_eq_false h2, if_neg (by decide)]; exact hj0
  · rw [decide_eq_false h, if_neg (by decide)]; exact hj0

end Go.Proofs.YtpdalofhekmbeaaGreatDoor.Pure
