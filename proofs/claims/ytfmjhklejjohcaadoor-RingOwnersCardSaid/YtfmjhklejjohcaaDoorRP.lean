/- The layer ring, plain: what the printed functions of the program and of the document come to, on any numbers. -/
import Derived.Test.YtfmjhklejjohcaaDoorPAllx7
namespace Go.Proofs.YtfmjhklejjohcaaDoor.RN
open Go.Lib Go.Shelf Go.RowKit Go.Proofs.YtfmjhklejjohcaaDoor.PAll Go.Proofs.YtfmjhklejjohcaaDoorW.PrintWords Go.Proofs.YtfmjhklejjohcaaDoorW.PrintLast Go.Proofs.YtfmjhklejjohcaaDoorW.PrintMore
set_option linter.unusedSimpArgs false
set_option linter.unusedVariables false
namespace RQ
variable {P : Int → Int}
def ah (P : Int → Int) (a b : Int) : Prop := P a < P b ∨ (P a = P b ∧ a < b)
instance (P : Int → Int) (a b : Int) : Decidable (ah P a b) := inferInstanceAs (Decidable (_ ∨ _))
theorem ah_as {a b : Int} (h : ah P a b) (k : ah P b a) : False := by unfold ah at *; omega
theorem ah_le {a b : Int} (h : ah P a b) : P a ≤ P b := by unfold ah at *; omega
theorem ah_irr {a : Int} (h : ah P a a) : False := ah_as h h
theorem ah_tot {a b : Int} (h : a ≠ b) : ah P a b ∨ ah P b a := by unfold ah; omega
theorem sorted_eq {s t : List Int} (hs : s.Pairwise (ah P)) (ht : t.Pairwise (ah P)) (h : s.Perm t) : s = t :=
  List.Perm.eq_of_pairwise (fun _ _ _ _ h1 h2 => (ah_as h1 h2).elim) hs ht h
/-- A ring cut at a key. -/
def heirsZ (P : Int → Int) (key : Int) (s : List Int) : List Int := s.filter (fun x => decide (key ≤ P x)) ++ s.filter (fun x => !decide (key ≤ P x))
theorem cut_at {s : List Int} (hs : s.Pairwise (ah P)) (key : Int) (i : Nat) (h1 : ∀ x, x ∈ s.take i → P x < key) (h2 : ∀ x, (s.drop i).head? = some x → key ≤ P x) :
    s.filter (fun x => decide (key ≤ P x)) = s.drop i ∧ s.filter (fun x => !decide (key ≤ P x)) = s.take i := by
  have hd : ∀ x, x ∈ s.drop i → key ≤ P x := by
    intro x hx
    have hp : (s.drop i).Pairwise (ah P) := List.Pairwise.sublist (List.drop_sublist i s) hs
    cases hq : s.drop i with
    | nil => rw [hq] at hx; cases hx
    | cons y ys =>
      rw [hq] at hx hp h2
      have hy := h2 y rfl
      rcases List.mem_cons.1 hx with rfl | hx
      · exact hy
      · have := ah_le ((List.pairwise_cons.1 hp).1 x hx)
        omega
  have e : s = s.take i ++ s.drop i := (List.take_append_drop i s).symm
  constructor
  · conv => lhs; rw [e]
    rw [List.filter_append, List.filter_eq_nil_iff.2 (by intro x hx; have := h1 x hx; simp; omega), List.filter_eq_self.2 (by intro x hx; have := hd x hx; simp; omega), List.nil_append]
  · conv => lhs; rw [e]
    rw [List.filter_append, List.filter_eq_self.2 (by intro x hx; have := h1 x hx; simp; omega), List.filter_eq_nil_iff.2 (by intro x hx; have := hd x hx; simp; omega), List.append_nil]
theorem heirs_at {s : List Int} (hs : s.Pairwise (ah P)) (key : Int) (i : Nat) (h1 : ∀ x, x ∈ s.take i → P x < key) (h2 : ∀ x, (s.drop i).head? = some x → key ≤ P x) : heirsZ P key s = s.drop i ++ s.take i := by
  obtain ⟨a, b⟩ := cut_at hs key i h1 h2
  unfold heirsZ
  rw [a, b]
theorem heirs_perm (key : Int) (s : List Int) : (heirsZ P key s).Perm s := List.filter_append_perm _ s
theorem heirs_mem (key : Int) (s : List Int) (x : Int) : x ∈ heirsZ P key s ↔ x ∈ s := (heirs_perm key s).mem_iff
theorem heirs_len (key : Int) (s : List Int) : (heirsZ P key s).length = s.length := (heirs_perm key s).length_eq
theorem heirs_filter (key : Int) (s : List Int) (p : Int → Bool) : heirsZ P key (s.filter p) = (heirsZ P key s).filter p := by
  unfold heirsZ
  rw [List.filter_append]
  simp only [List.filter_filter]
  congr 1 <;> (apply List.filter_congr; intro x _; exact Bool.and_comm _ _)
/-- The first place of an element for which p holds, or -1. -/
def idxF (p : Int → Bool) : List Int → Int → Int
  | [], _ => -1
  | x :: l, i => if p x then i else idxF p l (i + 1)
theorem idxF_spec (p : Int → Bool) : ∀ (l : List Int) (i : Int), (idxF p l i = -1 ∧ ∀ x, x ∈ l → p x = false) ∨ ∃ j : Nat, idxF p l i = i + j ∧ (∀ x, x ∈ l.take j → p x = false) ∧ ∃ x, (l.drop j).head? = some x ∧ p x = true
  | [], i => .inl ⟨rfl, by intro x hx; cases hx⟩
  | y :: l, i => by
    unfold idxF
    by_cases h : p y = true
    · right
      rw [if_pos h]
      exact ⟨0, by simp, (by intro x hx; cases hx), y, rfl, h⟩
    · rw [if_neg h]
      have h := Bool.eq_false_iff.2 h
      rcases idxF_spec p l (i + 1) with ⟨h1, h2⟩ | ⟨j, h1, h2, x, h3, h4⟩
      · exact .inl ⟨h1, by intro x hx; rcases List.mem_cons.1 hx with rfl | hx; exact h; exact h2 x hx⟩
      · right
        refine ⟨j + 1, by rw [h1]; omega, ?_, x, h3, h4⟩
        intro z hz
        rcases List.mem_cons.1 hz with rfl | hz
        · exact h
        · exact h2 z hz
/-- The program's cut: the place of the first one at or behind the key, or 0. -/
theorem heirs_idx {s : List Int} (hs : s.Pairwise (ah P)) (key : Int) :
    s.drop (max (idxF (fun x => decide (key ≤ P x)) s 0) 0).toNat ++ s.take (max (idxF (fun x => decide (key ≤ P x)) s 0) 0).toNat = heirsZ P key s := by
  rcases idxF_spec (fun x => decide (key ≤ P x)) s 0 with ⟨h1, h2⟩ | ⟨j, h1, h2, x, h3, h4⟩
  · rw [h1]
    have h2' : ∀ x, x ∈ s → P x < key := by intro x hx; have := h2 x hx; simp at this; omega
    have := heirs_at hs key s.length (by intro x hx; rw [List.take_length] at hx; exact h2' x hx) (by intro x hx; simp at hx)
    rw [this, show (max (-1 : Int) 0).toNat = 0 from rfl]
    simp
  · rw [h1]
    have e : (max (0 + (j : Int)) 0).toNat = j := by omega
    rw [e]
    refine (heirs_at hs key j ?_ ?_).symm
    · intro x hx
      have := h2 x hx
      simp at this
      omega
    · intro y hy
      rw [h3] at hy
      injection hy with hy
      subst hy
      simpa using h4
/-- Nodes, in order. -/
def NL (l : List Int) : Prop := (∀ n, n ∈ l → 1 ≤ n ∧ n ≤ 15) ∧ l.Pairwise (· < ·)
theorem NL.nodup {l : List Int} (h : NL l) : l.Nodup := h.2.imp (fun h => by omega)
theorem NL.filter {l : List Int} (h : NL l) (p : Int → Bool) : NL (l.filter p) := ⟨fun n hn => h.1 n (List.mem_filter.1 hn).1, h.2.filter p⟩
theorem nl_len : ∀ (l : List Int) (a : Int), l.Pairwise (· < ·) → (∀ n, n ∈ l → a ≤ n ∧ n ≤ 15) → a ≤ 16 → (l.length : Int) ≤ 16 - a
  | [], a, _, _, h => by simp; omega
  | x :: l, a, hp, hm, h => by
    have hx := hm x List.mem_cons_self
    have hq := List.pairwise_cons.1 hp
    have := nl_len l (x + 1) hq.2 (fun n hn => ⟨by have := hq.1 n hn; omega, (hm n (List.mem_cons_of_mem _ hn)).2⟩) (by omega)
    simp only [List.length_cons]
    omega
theorem NL.len {l : List Int} (h : NL l) : l.length ≤ 15 := by
  have := nl_len l 1 h.2 h.1 (by omega)
  omega
/-- A ring of nodes: they in the order of their points. -/
structure IsRing (P : Int → Int) (l s : List Int) : Prop where
  perm : s.Perm l
  ord : s.Pairwise (ah P)
theorem IsRing.filter {l s : List Int} (h : IsRing P l s) (p : Int → Bool) : IsRing P (l.filter p) (s.filter p) := ⟨h.perm.filter p, h.ord.filter p⟩
theorem IsRing.uniq {l s t : List Int} (h : IsRing P l s) (k : IsRing P l t) : s = t := sorted_eq h.ord k.ord (h.perm.trans k.perm.symm)
/-- How many stand ahead. -/
def rank (P : Int → Int) (l : List Int) (x : Int) : Nat := l.countP (fun y => decide (ah P y x))
theorem rank_at {l s : List Int} (h : IsRing P l s) (j : Nat) (hj : j < s.length) : rank P l s[j] = j := by
  unfold rank
  rw [← h.perm.countP_eq]
  have ho := h.ord
  rw [List.pairwise_iff_getElem] at ho
  have e : s = s.take j ++ s[j] :: s.drop (j + 1) := by rw [List.getElem_cons_drop, List.take_append_drop]
  have h1 : (s.take j).countP (fun y => decide (ah P y s[j])) = (s.take j).length := by
    rw [List.countP_eq_length]
    intro x hx
    obtain ⟨i, hi, rfl⟩ := List.getElem_of_mem hx
    rw [List.getElem_take]
    simp only [decide_eq_true_eq]
    simp at hi
    exact ho i j (by omega) hj (by omega)
  have h2 : (s.drop (j + 1)).countP (fun y => decide (ah P y s[j])) = 0 := by
    rw [List.countP_eq_zero]
    intro x hx
    obtain ⟨i, hi, rfl⟩ := List.getElem_of_mem hx
    rw [List.getElem_drop]
    have := ho j (j + 1 + i) hj (by simp at hi; omega) (by omega)
    simp only [decide_eq_true_eq]
    exact fun k => ah_as this k
  generalize s[j] = y at *
  rw [e, List.countP_append, List.countP_cons, h1, h2, if_neg (by simp; exact fun h => ah_irr h)]
  simp
  omega
theorem filter_one {p : Int → Bool} {y : Int} : ∀ (l : List Int), l.Nodup → y ∈ l → (∀ x, x ∈ l → (p x = true ↔ x = y)) → l.filter p = [y]
  | [], _, h, _ => by cases h
  | x :: l, hn, hm, key => by
    rw [List.nodup_cons] at hn
    by_cases hx : x = y
    · subst hx
      rw [List.filter_cons_of_pos ((key x List.mem_cons_self).2 rfl), List.filter_eq_nil_iff.2]
      intro z hz hp
      have := (key z (List.mem_cons_of_mem _ hz)).1 hp
      subst this
      exact hn.1 hz
    · rw [List.filter_cons_of_neg (fun hp => hx ((key x List.mem_cons_self).1 hp))]
      refine filter_one l hn.2 ?_ (fun z hz => key z (List.mem_cons_of_mem _ hz))
      rcases List.mem_cons.1 hm with h | h
      · exact absurd h.symm hx
      · exact h
/-- Of each place one of the nodes. -/
theorem rank_pick {l s : List Int} (h : IsRing P l s) (hn : l.Nodup) (j : Nat) (hj : j < s.length) : l.filter (fun x => decide (rank P l x = j)) = [s[j]] := by
  refine filter_one l hn (h.perm.mem_iff.1 (List.getElem_mem hj)) ?_
  intro x hx
  obtain ⟨i, hi, rfl⟩ := List.getElem_of_mem (h.perm.mem_iff.2 hx)
  rw [decide_eq_true_eq, rank_at h i hi]
  constructor
  · rintro rfl; rfl
  · intro e
    have ho := h.ord
    rw [List.pairwise_iff_getElem] at ho
    rcases Nat.lt_trichotomy i j with k | k | k
    · have := ho i j hi hj k; rw [e] at this; exact (ah_irr this).elim
    · exact k
    · have := ho j i hj hi k; rw [e] at this; exact (ah_irr this).elim
/-- The document's ring: place by place. -/
theorem by_rank {l s : List Int} (h : IsRing P l s) (hn : l.Nodup) : (List.range l.length).flatMap (fun j => l.filter (fun x => decide (rank P l x = j))) = s := by
  rw [← h.perm.length_eq]
  have : ∀ m, m ≤ s.length → (List.range m).flatMap (fun j => l.filter (fun x => decide (rank P l x = j))) = s.take m := by
    intro m
    induction m with
    | zero => intro _; simp
    | succ m ih =>
      intro hm
      rw [List.range_succ, List.flatMap_append, ih (by omega)]
      simp only [List.flatMap_cons, List.flatMap_nil, List.append_nil]
      rw [rank_pick h hn m (by omega), List.take_succ_eq_append_getElem (by omega)]
  rw [this _ (Nat.le_refl _), List.take_length]
theorem nodup_sub_len : ∀ {l m : List Int}, l.Nodup → (∀ x, x ∈ l → x ∈ m) → l.length ≤ m.length
  | [], m, _, _ => Nat.zero_le _
  | x :: l, m, hn, hs => by
    rw [List.nodup_cons] at hn
    have hx := hs x List.mem_cons_self
    have h1 := nodup_sub_len (l := l) (m := m.erase x) hn.2 (fun y hy => by
      refine (List.mem_erase_of_ne ?_).2 (hs y (List.mem_cons_of_mem _ hy))
      rintro rfl
      exact hn.1 hy)
    rw [List.length_erase_of_mem hx] at h1
    have : 0 < m.length := List.length_pos_of_mem hx
    simp only [List.length_cons]
    omega
/-- The owner of a key. -/
def Own (P : Int → Int) (key : Int) (s : List Int) (o : Int) : Prop := o ∈ s ∧ ((key ≤ P o ∧ ∀ x, x ∈ s → key ≤ P x → P o ≤ P x) ∨ ((∀ x, x ∈ s → P x < key) ∧ ∀ x, x ∈ s → P o ≤ P x))
theorem own_head {s : List Int} (hs : s.Pairwise (ah P)) (key o : Int) (r : List Int) (h : heirsZ P key s = o :: r) : Own P key s o := by
  have hm : o ∈ s := (heirs_mem (P := P) key s o).1 (by rw [h]; exact List.mem_cons_self)
  refine ⟨hm, ?_⟩
  unfold heirsZ at h
  cases hf : s.filter (fun x => decide (key ≤ P x)) with
  | nil =>
    right
    rw [hf, List.nil_append] at h
    have hlt : ∀ x, x ∈ s → P x < key := by
      intro x hx
      have := List.filter_eq_nil_iff.1 hf x hx
      simp at this
      omega
    refine ⟨hlt, fun x hx => ?_⟩
    have hs2 : s.filter (fun x => !decide (key ≤ P x)) = s := List.filter_eq_self.2 (by intro x hx; have := hlt x hx; simp; omega)
    rw [hs2] at h
    subst h
    rcases List.mem_cons.1 hx with rfl | hx
    · exact Int.le_refl _
    · exact ah_le ((List.pairwise_cons.1 hs).1 x hx)
  | cons y ys =>
    left
    rw [hf] at h
    obtain ⟨rfl, _⟩ := List.cons.inj h
    have hp : (s.filter (fun x => decide (key ≤ P x))).Pairwise (ah P) := hs.filter _
    have hy : y ∈ s.filter (fun x => decide (key ≤ P x)) := by rw [hf]; exact List.mem_cons_self
    refine ⟨by simpa using (List.mem_filter.1 hy).2, fun x hx hk => ?_⟩
    have hx : x ∈ s.filter (fun x => decide (key ≤ P x)) := List.mem_filter.2 ⟨hx, by simpa using hk⟩
    rw [hf] at hx hp
    rcases List.mem_cons.1 hx with rfl | hx
    · exact Int.le_refl _
    · exact ah_le ((List.pairwise_cons.1 hp).1 x hx)
/-- How far from a node to a key. -/
def far (P : Int → Int) (key n : Int) : Int := (key - P n) % 18446744073709551616
theorem far_is {key n : Int} (k0 : 0 ≤ key) (k1 : key < 18446744073709551616) (p0 : 0 ≤ P n) (p1 : P n < 18446744073709551616) : far P key n = if P n ≤ key then key - P n else key - P n + 18446744073709551616 := by
  unfold far
  split <;> omega
theorem next_near {s : List Int} {key k1 from_ o nx : Int} (hb : ∀ x, x ∈ s → 0 ≤ P x ∧ P x < 18446744073709551616) (inj : ∀ x y, x ∈ s → y ∈ s → P x = P y → x = y)
    (a0 : 0 ≤ key) (a1 : key < 18446744073709551616) (hf : from_ ∈ s) (ho : Own P key s o) (hk : k1 = (P from_ + 1) % 18446744073709551616) (hn : Own P k1 s nx) (h1 : from_ ≠ o) (h2 : nx ≠ o) : far P key nx < far P key from_ := by
  obtain ⟨om, ho⟩ := ho
  obtain ⟨nm, hn⟩ := hn
  have bf := hb _ hf
  have bo := hb _ om
  have bn := hb _ nm
  rw [far_is a0 a1 bf.1 bf.2, far_is a0 a1 bn.1 bn.2]
  have e1 : P from_ ≠ P o := fun h => h1 (inj _ _ hf om h)
  have e2 : P nx ≠ P o := fun h => h2 (inj _ _ nm om h)
  rcases ho with ⟨u1, u2⟩ | ⟨u1, u2⟩ <;> rcases hn with ⟨v1, v2⟩ | ⟨v1, v2⟩
  · have x1 := u2 _ hf; have x2 := u2 _ nm; have y1 := v2 _ hf; have y2 := v2 _ om
    split <;> split <;> omega
  · have x1 := u2 _ hf; have x2 := u2 _ nm; have y1 := v2 _ hf; have y2 := v2 _ om; have z1 := v1 _ om; have z2 := v1 _ nm
    split <;> split <;> omega
  · have x1 := u2 _ hf; have x2 := u2 _ nm; have y1 := v2 _ hf; have y2 := v2 _ om; have z1 := u1 _ hf; have z2 := u1 _ nm; have z3 := u1 _ om
    split <;> split <;> omega
  · have x1 := u2 _ hf; have x2 := u2 _ nm; have y1 := v2 _ hf; have y2 := v2 _ om; have z1 := u1 _ hf; have z2 := u1 _ nm; have z3 := u1 _ om; have w1 := v1 _ om; have w2 := v1 _ nm
    split <;> split <;> omega
theorem next_ne {s : List Int} {k1 from_ nx y : Int} (hb : ∀ x, x ∈ s → 0 ≤ P x ∧ P x < 18446744073709551616) (inj : ∀ x y, x ∈ s → y ∈ s → P x = P y → x = y)
    (hf : from_ ∈ s) (hy : y ∈ s) (hne : y ≠ from_) (hk : k1 = (P from_ + 1) % 18446744073709551616) (hn : Own P k1 s nx) : nx ≠ from_ := by
  rintro rfl
  obtain ⟨nm, hn⟩ := hn
  have bf := hb _ hf
  have bo := hb _ hy
  have e1 : P y ≠ P nx := fun h => hne (inj _ _ hy hf h)
  rcases hn with ⟨v1, v2⟩ | ⟨v1, v2⟩
  · have y1 := v2 _ hy; omega
  · have y1 := v2 _ hy; have y2 := v1 _ hy; omega
/-- A way: each step comes by another node; it ends at the owner. -/
structure IsWay (s : List Int) (hop : Int → Int) (o : Int) (w : List Int) : Prop where
  mem : ∀ x, x ∈ w → x ∈ s
  last : w.getLast? = some o
  step : ∀ i a b, w[i]? = some a → w[i + 1]? = some b → a ≠ o ∧ hop a = b
  nodup : w.Nodup
theorem way_of {s : List Int} {hop : Int → Int} {o : Int} {D : Int → Int} (ho : o ∈ s) (hD : ∀ x, 0 ≤ D x) (hh : ∀ a, a ∈ s → a ≠ o → hop a ∈ s ∧ (hop a = o ∨ hop a ≠ o ∧ D (hop a) < D a)) :
    ∀ (d : Nat) (a : Int), a ∈ s → (D a).toNat < d → ∃ w, IsWay s hop o (a :: w) ∧ ∀ x, x ∈ w → x = o ∨ D x < D a := by
  intro d
  induction d with
  | zero => intro a _ h; omega
  | succ d ih =>
    intro a ha hd
    by_cases hao : a = o
    · subst hao
      exact ⟨[], ⟨by intro x hx; rcases List.mem_singleton.1 hx with rfl; exact ho, rfl, by intro i a b h1 h2; simp at h2, by simp⟩, by intro x hx; cases hx⟩
    · obtain ⟨hm, h | ⟨h1, h2⟩⟩ := hh a ha hao
      · refine ⟨[o], ⟨?_, rfl, ?_, ?_⟩, ?_⟩
        · intro x hx
          simp at hx
          rcases hx with rfl | rfl <;> assumption
        · intro i x y h3 h4
          cases i with
          | zero =>
            simp at h3 h4
            subst h3 h4
            exact ⟨hao, h⟩
          | succ i => simp at h4
        · simp [hao]
        · intro x hx; simp at hx; exact .inl hx
      · have hda := hD (hop a)
        obtain ⟨w, hw, hl⟩ := ih (hop a) hm (by omega)
        refine ⟨hop a :: w, ⟨?_, ?_, ?_, ?_⟩, ?_⟩
        · intro x hx
          rcases List.mem_cons.1 hx with rfl | hx
          · exact ha
          · exact hw.mem x hx
        · rw [List.getLast?_cons_cons]; exact hw.last
        · intro i x y h3 h4
          cases i with
          | zero =>
            simp at h3 h4
            subst h3 h4
            exact ⟨hao, rfl⟩
          | succ i => exact hw.step i x y (by simpa using h3) (by simpa using h4)
        · rw [List.nodup_cons]
          refine ⟨?_, hw.nodup⟩
          intro hx
          rcases List.mem_cons.1 hx with e | hx
          · rw [← e] at h2; omega
          · rcases hl a hx with e | e
            · exact hao e
            · omega
        · intro x hx
          rcases List.mem_cons.1 hx with rfl | hx
          · exact .inr h2
          · rcases hl x hx with e | e
            · exact .inl e
            · right; omega
end RQ
open RQ
theorem wrap1 {i : Int} (h0 : 0 ≤ i) (h : i < 4611686018427387904) : wrap64 (i + 1) = i + 1 := by unfold wrap64; omega
theorem wrapm {i : Int} (h0 : 0 < i) (h : i < 4611686018427387904) : wrap64 (i - 1) = i - 1 := by unfold wrap64; omega
theorem rd_at {l : List Int} {i : Nat} : rd l (i : Int) = l.getD i 0 := rfl
theorem rd_lt {l : List Int} {i : Nat} (h : i < l.length) : rd l (i : Int) = l[i] := by rw [rd_at, List.getD_eq_getElem?_getD, List.getElem?_eq_getElem h]; rfl
theorem node_is (a : Int) : ring_node.f a = some (decide (1 ≤ a ∧ a ≤ 15)) := by
  unfold ring_node.f
  split
  · congr 1; simp; omega
  · congr 1; simp; omega
def okAt (l : List Int) (i : Nat) : Bool := decide (1 ≤ l.getD i 0 ∧ l.getD i 0 ≤ 15 ∧ (0 < i → l.getD (i - 1) 0 < l.getD i 0))
theorem nodes_l0 (l : List Int) (hl : l.length < 4611686018427387904) : ∀ (d k i : Nat), i + d = l.length → d < k → ring_Nodes.l0 k l l (l.length : Int) (i : Int) = some ((List.range' i d).all (okAt l)) := by
  intro d
  induction d with
  | zero =>
    intro k i h hk
    obtain ⟨k, rfl⟩ : ∃ m, k = m + 1 := ⟨k - 1, by omega⟩
    simp only [ring_Nodes.l0]
    rw [if_neg (by omega)]
    rfl
  | succ d ih =>
    intro k i h hk
    obtain ⟨k, rfl⟩ : ∃ m, k = m + 1 := ⟨k - 1, by omega⟩
    have ihh := ih k (i + 1) (by omega) (by omega)
    rw [List.range'_succ, List.all_cons]
    simp only [ring_Nodes.l0]
    rw [if_pos (by omega), if_pos (by omega), if_pos (by omega), node_is, Option.bind_some, rd_at, wrap1 (by omega) (by omega), show ((i : Int) + 1) = ((i + 1 : Nat) : Int) from by omega, ihh]
    unfold okAt
    by_cases h1 : 1 ≤ l.getD i 0 ∧ l.getD i 0 ≤ 15
    · rw [decide_eq_true h1, if_pos rfl]
      by_cases h2 : (i : Int) > 0
      · rw [if_pos h2, wrapm (by omega) (by omega), if_pos (by omega), if_pos (by omega), show ((i : Int) - 1) = ((i - 1 : Nat) : Int) from by omega, rd_at]
        by_cases h3 : l.getD (i - 1) 0 ≥ l.getD i 0
        · rw [if_pos h3, decide_eq_false (by omega)]; rfl
        · rw [if_neg h3, decide_eq_true (by omega)]; rfl
      · rw [if_neg h2, decide_eq_true (by omega)]; rfl
    · rw [decide_eq_false h1, if_neg (by decide), decide_eq_false (by omega)]; rfl
def nodesB (l : List Int) : Bool := (List.range' 0 l.length).all (okAt l)
theorem nodes_is (l : List Int) (hl : l.length < 4611686018427387904) (k : Nat) (hk : l.length < k) : ring_Nodes.f k l = some (nodesB l) := nodes_l0 l hl l.length k 0 (by omega) hk
theorem ref_nodes_l0 (l : List Int) (hl : l.length < 4611686018427387904) : ∀ (d k i : Nat), i + d = l.length → d < k → caduceusref10_Nodes.l0 k l (i : Int) = some ((List.range' i d).all (okAt l)) := by
  intro d
  induction d with
  | zero =>
    intro k i h hk
    obtain ⟨k, rfl⟩ : ∃ m, k = m + 1 := ⟨k - 1, by omega⟩
    simp only [caduceusref10_Nodes.l0]
    rw [if_neg (by omega)]
    rfl
  | succ d ih =>
    intro k i h hk
    obtain ⟨k, rfl⟩ : ∃ m, k = m + 1 := ⟨k - 1, by omega⟩
    have ihh := ih k (i + 1) (by omega) (by omega)
    rw [List.range'_succ, List.all_cons]
    simp only [caduceusref10_Nodes.l0]
    rw [if_pos (by omega), if_pos (by omega), rd_at, wrap1 (by omega) (by omega), show ((i : Int) + 1) = ((i + 1 : Nat) : Int) from by omega, ihh]
    unfold okAt
    by_cases h1 : l.getD i 0 < 1
    · rw [if_pos h1, decide_eq_false (by omega)]; rfl
    · rw [if_neg h1]
      by_cases h4 : l.getD i 0 > 15
      · rw [if_pos h4, decide_eq_false (by omega)]; rfl
      · rw [if_neg h4]
        by_cases h2 : (i : Int) > 0
        · rw [if_pos h2, wrapm (by omega) (by omega), if_pos (by omega), if_pos (by omega), show ((i : Int) - 1) = ((i - 1 : Nat) : Int) from by omega, rd_at]
          by_cases h3 : l.getD i 0 ≤ l.getD (i - 1) 0
          · rw [if_pos h3, decide_eq_false (by omega)]; rfl
          · rw [if_neg h3, decide_eq_true (by omega)]; rfl
        · rw [if_neg h2, decide_eq_true (by omega)]; rfl
theorem ref_nodes_is (l : List Int) (hl : l.length < 4611686018427387904) (k : Nat) (hk : l.length < k) : caduceusref10_Nodes.f k l = some (nodesB l) := ref_nodes_l0 l hl l.length k 0 (by omega) hk
theorem nodesB_at {l : List Int} (h : nodesB l = true) (i : Nat) (hi : i < l.length) : 1 ≤ l[i] ∧ l[i] ≤ 15 ∧ (∀ h0 : 0 < i, l[i - 1] < l[i]) := by
  have := List.all_eq_true.1 h i (by simp; exact hi)
  unfold okAt at this
  have := of_decide_eq_true this
  rw [List.getD_eq_getElem?_getD, List.getElem?_eq_getElem hi, List.getD_eq_getElem?_getD, List.getElem?_eq_getElem (show i - 1 < l.length by omega)] at this
  exact this
theorem nodesB_NL {l : List Int} (h : nodesB l = true) : NL l := by
  have key : ∀ d i : Nat, ∀ hd : i + d + 1 < l.length, l[i] < l[i + d + 1] := by
    intro d
    induction d with
    | zero => intro i hd; exact (nodesB_at h (i + 1) hd).2.2 (by omega)
    | succ d ih =>
      intro i hd
      have h1 := ih i (by omega)
      have h2 := (nodesB_at h (i + d + 1 + 1) hd).2.2 (by omega)
      have h3 : l[i + d + 1 + 1 - 1] = l[i + d + 1] := rfl
      have h4 : l[i + (d + 1) + 1] = l[i + d + 1 + 1] := rfl
      omega
  refine ⟨fun n hn => ?_, ?_⟩
  · obtain ⟨i, hi, rfl⟩ := List.getElem_of_mem hn
    have := nodesB_at h i hi
    exact ⟨this.1, this.2.1⟩
  · rw [List.pairwise_iff_getElem]
    intro i j hi hj hij
    obtain ⟨d, rfl⟩ : ∃ d, j = i + d + 1 := ⟨j - i - 1, by omega⟩
    exact key d i hj
/-! Points. -/
theorem point_cases {n : Int} (h : 1 ≤ n ∧ n ≤ 15) : n = 1 ∨ n = 2 ∨ n = 3 ∨ n = 4 ∨ n = 5 ∨ n = 6 ∨ n = 7 ∨ n = 8 ∨ n = 9 ∨ n = 10 ∨ n = 11 ∨ n = 12 ∨ n = 13 ∨ n = 14 ∨ n = 15 := by omega
def ptsL : List Int := [16628126286859847954, 16628125187348219743, 16628124087836591532, 16628122988324963321, 16628121888813335110, 16628120789301706899, 16628119689790078688, 16628136182464501853, 16628135082952873642, 13480914007558505670, 13480915107070133881, 13480911808535249248, 13480912908046877459, 13480918405605018514, 13480919505116646725]
theorem pts_all : ((List.range 15).map fun i : Nat => ring_Point.f 40 ((i : Int) + 1)) = ptsL.map some := by kernel_rfl
theorem ref_pts_all : ((List.range 15).map fun i : Nat => caduceusref10_Point.f 40 ((i : Int) + 1)) = ptsL.map some := by kernel_rfl
theorem pt_at {n : Int} (h : 1 ≤ n ∧ n ≤ 15) : ring_Point.f 40 n = ptsL[(n - 1).toNat]? := by
  have := congrArg (fun l => l[(n - 1).toNat]?) pts_all
  simp only [List.getElem?_map] at this
  rw [List.getElem?_range (by omega), Option.map_some, show (((n - 1).toNat : Nat) : Int) + 1 = n from by omega] at this
  cases hq : ptsL[(n - 1).toNat]? with
  | none => rw [hq] at this; cases this
  | some p => rw [hq] at this; exact Option.some.inj this
theorem ref_pt_at {n : Int} (h : 1 ≤ n ∧ n ≤ 15) : caduceusref10_Point.f 40 n = ptsL[(n - 1).toNat]? := by
  have := congrArg (fun l => l[(n - 1).toNat]?) ref_pts_all
  simp only [List.getElem?_map] at this
  rw [List.getElem?_range (by omega), Option.map_some, show (((n - 1).toNat : Nat) : Int) + 1 = n from by omega] at this
  cases hq : ptsL[(n - 1).toNat]? with
  | none => rw [hq] at this; cases this
  | some p => rw [hq] at this; exact Option.some.inj this
theorem pts_bounds : ptsL.all (fun p => decide (13480911808535249248 ≤ p ∧ p ≤ 16628136182464501853)) = true := by kernel_rfl
theorem pts_ne : ptsL.Pairwise (· ≠ ·) := by unfold ptsL; decide
theorem pointZ_at {n : Int} (h : 1 ≤ n ∧ n ≤ 15) : ∃ hi : (n - 1).toNat < ptsL.length, pointZ n = ptsL[(n - 1).toNat] := by
  have hi : (n - 1).toNat < ptsL.length := by show _ < 15; omega
  refine ⟨hi, ?_⟩
  have e := pt_at h
  rw [point_some, List.getElem?_eq_getElem hi] at e
  exact Option.some.inj e
theorem pointZ_bd {n : Int} (h : 1 ≤ n ∧ n ≤ 15) : 0 ≤ pointZ n ∧ pointZ n < 18446744073709551615 := by
  obtain ⟨hi, e⟩ := pointZ_at h
  have := of_decide_eq_true (List.all_eq_true.1 pts_bounds _ (List.getElem_mem hi))
  rw [← e] at this
  omega
theorem pointZ_inj {a b : Int} (ha : 1 ≤ a ∧ a ≤ 15) (hb : 1 ≤ b ∧ b ≤ 15) (h : pointZ a = pointZ b) : a = b := by
  obtain ⟨hi, e⟩ := pointZ_at ha
  obtain ⟨hj, e'⟩ := pointZ_at hb
  rw [e, e'] at h
  have hp := List.pairwise_iff_getElem.1 pts_ne
  rcases Nat.lt_trichotomy (a - 1).toNat (b - 1).toNat with k | k | k
  · exact absurd h (hp _ _ hi hj k)
  · omega
  · exact absurd h.symm (hp _ _ hj hi k)
theorem point_is (n : Int) (k : Nat) (hk : 40 ≤ k) : ring_Point.f k n = some (pointZ n) := at_rounds (g := fun k => ring_Point.f k n) (fun k => ring_Point.mono n k) hk (point_some n)
theorem pointZ_out {n : Int} (h : ¬ (1 ≤ n ∧ n ≤ 15)) : pointZ n = 0 := by
  unfold pointZ ring_Point.f
  rw [node_is, Option.bind_some, decide_eq_false h, if_neg (by decide)]
  rfl
theorem ref_point_is (n : Int) (k : Nat) (hk : 40 ≤ k) : caduceusref10_Point.f k n = some (pointZ n) := by
  by_cases h : 1 ≤ n ∧ n ≤ 15
  · refine at_rounds (g := fun k => caduceusref10_Point.f k n) (fun k => caduceusref10_Point.mono n k) hk ?_
    show caduceusref10_Point.f 40 n = _
    rw [ref_pt_at h, ← pt_at h, point_some]
  · obtain ⟨k, rfl⟩ : ∃ m, k = m + 1 := ⟨k - 1, by omega⟩
    rw [pointZ_out h]
    unfold caduceusref10_Point.f
    split
    · simp [caduceusref10_Point.j0]
    · simp only [caduceusref10_Point.j0]
      rw [if_pos (by simp; omega)]
theorem ahead_is (a b : Int) (k : Nat) (hk : 40 ≤ k) : caduceusref10_ahead.f k a b = some (decide (ah pointZ a b)) := by
  unfold caduceusref10_ahead.f
  simp only [ref_point_is _ k hk, Option.bind_some]
  split
  · rw [decide_eq_true (show ah pointZ a b from .inl ‹_›)]
  · split
    · congr 1
      rw [decide_eq_decide]
      unfold ah
      omega
    · rw [decide_eq_false (by unfold ah; omega)]
/-! The ring. -/
theorem ltOf_ah (x y : Int) : ltOf cmpZ x y = decide (ah pointZ x y) := by
  rw [Bool.eq_iff_iff, lt_iff, decide_eq_true_eq]
  rfl
theorem sortZ_ring (l : List Int) (hn : l.Nodup) : IsRing pointZ l (sortZ l) := by
  have hp : (sortZ l).Perm l := List.mergeSort_perm l _
  have ho := List.pairwise_mergeSort (le := fun x y : Int => !(ltOf cmpZ y x))
    (fun a b c h1 h2 => by
      rw [ltOf_ah, Bool.not_eq_true', decide_eq_false_iff_not] at *
      unfold ah at *
      omega)
    (fun a b => by
      rw [ltOf_ah, ltOf_ah, Bool.or_eq_true, Bool.not_eq_true', Bool.not_eq_true', decide_eq_false_iff_not, decide_eq_false_iff_not]
      unfold ah
      omega) l
  refine ⟨hp, ?_⟩
  have hd : (sortZ l).Nodup := hp.nodup_iff.2 hn
  have := List.Pairwise.and ho hd
  refine List.Pairwise.imp ?_ this
  rintro a b ⟨h1, h2⟩
  simp only [ltOf_ah, Bool.not_eq_true', decide_eq_false_iff_not] at h1
  rcases ah_tot (P := pointZ) h2 with h | h
  · exact h
  · exact absurd h h1
/-- A ring of any numbers: none of what are no nodes. -/
def ringZ (l : List Int) : List Int := if nodesB l = true then sortZ l else []
theorem nodesB_len {l : List Int} (h : nodesB l = true) : l.length ≤ 15 := (nodesB_NL h).len
theorem ring_is (l : List Int) (hl : l.length < 4611686018427387904) (k : Nat) (hk : l.length < k) : ring_Ring.f k l = some (ringZ l) := by
  unfold ring_Ring.f ringZ
  rw [nodes_is l hl k hk, Option.bind_some]
  split
  · rename_i h
    have := nodesB_len h
    rw [if_pos (by omega)]
  · rfl
theorem nodesB_ring {l : List Int} (h : nodesB l = true) : IsRing pointZ l (ringZ l) := by
  unfold ringZ
  rw [if_pos h]
  exact sortZ_ring l (nodesB_NL h).nodup
theorem ring_ord (l : List Int) : (ringZ l).Pairwise (ah pointZ) := by
  by_cases h : nodesB l = true
  · exact (nodesB_ring h).ord
  · unfold ringZ; rw [if_neg h]; exact List.Pairwise.nil
theorem ring_nodup (l : List Int) : (ringZ l).Nodup := (ring_ord l).imp (by rintro a _ h rfl; exact ah_irr h)
theorem ring_node {l : List Int} {x : Int} (h : x ∈ ringZ l) : nodesB l = true ∧ x ∈ l ∧ 1 ≤ x ∧ x ≤ 15 := by
  by_cases hn : nodesB l = true
  · have hx := (nodesB_ring hn).perm.mem_iff.1 h
    exact ⟨hn, hx, (nodesB_NL hn).1 x hx⟩
  · unfold ringZ at h; rw [if_neg hn] at h; cases h
theorem ring_len15 (l : List Int) : (ringZ l).length ≤ 15 := by
  by_cases hn : nodesB l = true
  · rw [(nodesB_ring hn).perm.length_eq]; exact nodesB_len hn
  · unfold ringZ; rw [if_neg hn]; simp
theorem ring_first_is (key : Int) (l : List Int) : ring_first.f key l = some (max (PAll.idxF (fun x => decide (key ≤ pointZ x)) l 0) 0) := rfl
theorem idxF_eq (p : Int → Bool) : ∀ (l : List Int) (i : Int), PAll.idxF p l i = RQ.idxF p l i
  | [], i => rfl
  | x :: l, i => by unfold PAll.idxF RQ.idxF; rw [idxF_eq p l]
theorem heirs_first {s : List Int} (hs : s.Pairwise (ah pointZ)) (key : Int) (hne : s ≠ []) : ∃ i : Nat, ∃ h : i < s.length, ring_first.f key s = some (i : Int) ∧ heirsZ pointZ key s = s.drop i ++ s.take i ∧ (heirsZ pointZ key s).head? = some s[i] := by
  have hl : 0 < s.length := List.length_pos_iff.2 hne
  have e := heirs_idx hs key
  rw [ring_first_is, idxF_eq]
  have hb : (max (RQ.idxF (fun x => decide (key ≤ pointZ x)) s 0) 0).toNat < s.length := by
    rcases idxF_spec (fun x => decide (key ≤ pointZ x)) s 0 with ⟨h1, _⟩ | ⟨j, h1, _, x, h3, _⟩
    · rw [h1]
      have : (max (-1 : Int) 0).toNat = 0 := rfl
      omega
    · rw [h1]
      have : j < s.length := by
        rcases Nat.lt_or_ge j s.length with h | h
        · exact h
        · rw [List.drop_eq_nil_of_le h] at h3; cases h3
      omega
  refine ⟨_, hb, by rw [Int.toNat_of_nonneg (by omega)], e.symm, ?_⟩
  rw [← e, List.drop_eq_getElem_cons hb]
  rfl
/-- The owner of a key in a ring; 0: there is none. -/
def ownZ (key : Int) (s : List Int) : Int := ((heirsZ pointZ key s).head?).getD 0
theorem ownZ_own {l : List Int} (key : Int) (h : ringZ l ≠ []) : Own pointZ key (ringZ l) (ownZ key (ringZ l)) := by
  obtain ⟨i, hi, _, _, h3⟩ := heirs_first (ring_ord l) key h
  unfold ownZ
  cases hq : heirsZ pointZ key (ringZ l) with
  | nil => rw [hq] at h3; cases h3
  | cons o r => exact own_head (ring_ord l) key o r hq
theorem owner_is (key : Int) (l : List Int) (hl : l.length < 4611686018427387904) (k : Nat) (hk : l.length < k) : ring_Owner.f k key l = some (ownZ key (ringZ l), decide (ringZ l ≠ [])) := by
  unfold ring_Owner.f
  rw [ring_is l hl k hk, Option.bind_some]
  by_cases h : ringZ l = []
  · rw [h]
    rfl
  · have hl0 : 0 < (ringZ l).length := List.length_pos_iff.2 h
    rw [if_neg (by omega)]
    obtain ⟨i, hi, h1, _, h3⟩ := heirs_first (ring_ord l) key h
    rw [h1, Option.bind_some, if_pos (by omega), if_pos (by omega), rd_lt hi, decide_eq_true h]
    unfold ownZ
    rw [h3]
    rfl
/-! The document's ring. -/
theorem ref_l2 (l : List Int) (out : List Int) (p i : Nat) (hi : i < l.length) (hl : l.length ≤ 15) (ho : out.length ≤ 40) (R : Option (List Int)) (K : Nat)
    (hR : ∀ k, K ≤ k → caduceusref10_Ring.l1 k l (if rank pointZ l l[i] = p then out ++ [l[i]] else out) (p : Int) ((i : Int) + 1) = R) :
    ∀ (d j n k : Nat), j + d = l.length → n + (l.drop j).countP (fun y => decide (ah pointZ y l[i])) = rank pointZ l l[i] → n ≤ 15 → d + K + 40 < k → caduceusref10_Ring.l2 k l out (p : Int) (i : Int) (n : Int) (j : Int) = R := by
  intro d
  induction d with
  | zero =>
    intro j n k h hn hn5 hk
    obtain ⟨k, rfl⟩ : ∃ m, k = m + 1 := ⟨k - 1, by omega⟩
    simp only [caduceusref10_Ring.l2]
    rw [List.drop_eq_nil_of_le (by omega), List.countP_nil] at hn
    have hr := hR k (by omega)
    rw [if_neg (by omega)]
    by_cases e : (n : Int) = (p : Int)
    · rw [if_pos e, if_pos (by omega), if_pos (by omega), if_pos (by omega), wrap1 (by omega) (by omega), rd_lt hi]
      rw [if_pos (by omega)] at hr
      exact hr
    · rw [if_neg e, wrap1 (by omega) (by omega)]
      rw [if_neg (by omega)] at hr
      exact hr
  | succ d ih =>
    intro j n k h hn hn5 hk
    obtain ⟨k, rfl⟩ : ∃ m, k = m + 1 := ⟨k - 1, by omega⟩
    have hj : j < l.length := by omega
    simp only [caduceusref10_Ring.l2]
    rw [if_pos (by omega), if_pos (by omega), if_pos (by omega), if_pos (by omega), ahead_is _ _ k (by omega), Option.bind_some, rd_lt hj, rd_lt hi, wrap1 (i := (j : Int)) (by omega) (by omega), show ((j : Int) + 1) = ((j + 1 : Nat) : Int) from by omega]
    rw [List.drop_eq_getElem_cons hj, List.countP_cons] at hn
    have hn16 : rank pointZ l l[i] ≤ 15 := Nat.le_trans List.countP_le_length hl
    by_cases e : ah pointZ l[j] l[i]
    · rw [decide_eq_true e, if_pos rfl, wrap1 (by omega) (by omega), show ((n : Int) + 1) = ((n + 1 : Nat) : Int) from by omega]
      rw [decide_eq_true e, if_pos rfl] at hn
      exact ih (j + 1) (n + 1) k (by omega) (by omega) (by omega) (by omega)
    · rw [decide_eq_false e, if_neg (by decide)]
      rw [decide_eq_false e, if_neg (by decide)] at hn
      exact ih (j + 1) n k (by omega) (by omega) (by omega) (by omega)
theorem ref_l1 (l : List Int) (p : Nat) (hl : l.length ≤ 15) (R : Option (List Int)) (K : Nat) (out0 : List Int)
    (hR : ∀ k, K ≤ k → caduceusref10_Ring.l0 k l (out0 ++ l.filter (fun x => decide (rank pointZ l x = p))) ((p : Int) + 1) = R) (hp : p < 100) :
    ∀ (d i k : Nat), i + d = l.length → out0.length ≤ 25 → d * 100 + K + 100 < k → caduceusref10_Ring.l1 k l (out0 ++ (l.take i).filter (fun x => decide (rank pointZ l x = p))) (p : Int) (i : Int) = R := by
  intro d
  induction d with
  | zero =>
    intro i k h ho hk
    obtain ⟨k, rfl⟩ : ∃ m, k = m + 1 := ⟨k - 1, by omega⟩
    simp only [caduceusref10_Ring.l1]
    rw [if_neg (by omega), wrap1 (by omega) (by omega), List.take_of_length_le (by omega)]
    exact hR k (by omega)
  | succ d ih =>
    intro i k h ho hk
    obtain ⟨k, rfl⟩ : ∃ m, k = m + 1 := ⟨k - 1, by omega⟩
    have hi : i < l.length := by omega
    simp only [caduceusref10_Ring.l1]
    rw [if_pos (by omega)]
    have hfl : ((l.take i).filter (fun x => decide (rank pointZ l x = p))).length ≤ 15 := Nat.le_trans (List.length_filter_le _ _) (by simp; omega)
    refine ref_l2 l _ p i hi hl (by rw [List.length_append]; omega) R (d * 100 + K + 101) ?_ l.length 0 0 k (by omega) (by rw [List.drop_zero, Nat.zero_add]; rfl) (by omega) (by omega)
    intro k' hk'
    have := ih (i + 1) k' (by omega) ho (by omega)
    rw [List.take_succ_eq_append_getElem hi, List.filter_append, ← List.append_assoc] at this
    rw [show ((i : Int) + 1) = ((i + 1 : Nat) : Int) from by omega, ← this]
    by_cases e : rank pointZ l l[i] = p
    · rw [if_pos e, List.filter_cons_of_pos (by simpa using e)]; rfl
    · rw [if_neg e, List.filter_cons_of_neg (by simpa using e), List.filter_nil, List.append_nil]
set_option maxRecDepth 10000 in
theorem ref_l0 (l s : List Int) (hl : l.length ≤ 15) (hs : IsRing pointZ l s) (hn : l.Nodup) :
    ∀ (d p k : Nat), p + d = l.length → d * 2000 + 2000 < k → caduceusref10_Ring.l0 k l (s.take p) (p : Int) = some s := by
  intro d
  have hlen := hs.perm.length_eq
  induction d with
  | zero =>
    intro p k h hk
    obtain ⟨k, rfl⟩ : ∃ m, k = m + 1 := ⟨k - 1, by omega⟩
    simp only [caduceusref10_Ring.l0]
    rw [if_neg (by omega), List.take_of_length_le (by omega)]
  | succ d ih =>
    intro p k h hk
    obtain ⟨k, rfl⟩ : ∃ m, k = m + 1 := ⟨k - 1, by omega⟩
    simp only [caduceusref10_Ring.l0]
    rw [if_pos (by omega)]
    have hp : p < s.length := by omega
    have := ref_l1 l p hl (some s) (d * 2000 + 2001) (s.take p) (by
      intro k' hk'
      rw [rank_pick hs hn p hp, ← List.take_succ_eq_append_getElem hp, show ((p : Int) + 1) = ((p + 1 : Nat) : Int) from by omega]
      exact ih (p + 1) k' (by omega) (by omega)) (by omega) l.length 0 k (by omega) (by simp; omega) (by omega)
    rw [List.take_zero, List.filter_nil, List.append_nil] at this
    exact this
theorem ref_ring_is (l : List Int) (hl : l.length < 4611686018427387904) (k : Nat) (hk : l.length < k) (hk2 : 33000 ≤ k) : caduceusref10_Ring.f k l = some (ringZ l) := by
  unfold caduceusref10_Ring.f
  rw [ref_nodes_is l hl k hk, Option.bind_some]
  by_cases h : nodesB l = true
  · rw [if_pos h]
    have h15 := nodesB_len h
    have := ref_l0 l (ringZ l) h15 (nodesB_ring h) (nodesB_NL h).nodup l.length 0 k (by omega) (by omega)
    exact this
  · rw [if_neg h]
    unfold ringZ
    rw [if_neg h]
theorem ref_heirs_l2 (s : List Int) (hs : s.length ≤ 15) (a : Nat) (ha : a ≤ s.length) : ∀ (d j k : Nat), j + d = a → d < k → caduceusref10_Heirs.l2 k s (a : Int) (s.drop a ++ s.take j) (j : Int) = some (s.drop a ++ s.take a) := by
  intro d
  induction d with
  | zero =>
    intro j k h hk
    obtain ⟨k, rfl⟩ : ∃ m, k = m + 1 := ⟨k - 1, by omega⟩
    simp only [caduceusref10_Heirs.l2]
    obtain rfl : j = a := by omega
    rw [if_neg (by omega)]
  | succ d ih =>
    intro j k h hk
    obtain ⟨k, rfl⟩ : ∃ m, k = m + 1 := ⟨k - 1, by omega⟩
    have hj : j < s.length := by omega
    have := ih (j + 1) k (by omega) (by omega)
    simp only [caduceusref10_Heirs.l2]
    rw [if_pos (by omega), if_pos (by omega), if_pos (by omega), if_pos (by simp; omega), wrap1 (by omega) (by omega), rd_lt hj, show ((j : Int) + 1) = ((j + 1 : Nat) : Int) from by omega, List.append_assoc, ← List.take_succ_eq_append_getElem hj]
    exact this
theorem ref_heirs_l1 (s : List Int) (hs : s.length ≤ 15) (a : Nat) (ha : a ≤ s.length) : ∀ (d j k : Nat), j + d = s.length → a ≤ j → d + 40 < k → caduceusref10_Heirs.l1 k s (a : Int) ((s.drop a).take (j - a)) (j : Int) = some (s.drop a ++ s.take a) := by
  intro d
  induction d with
  | zero =>
    intro j k h haj hk
    obtain ⟨k, rfl⟩ : ∃ m, k = m + 1 := ⟨k - 1, by omega⟩
    simp only [caduceusref10_Heirs.l1]
    rw [if_neg (by omega), List.take_of_length_le (by simp; omega)]
    have := ref_heirs_l2 s hs a ha a 0 k (by omega) (by omega)
    rw [List.take_zero, List.append_nil] at this
    exact this
  | succ d ih =>
    intro j k h haj hk
    obtain ⟨k, rfl⟩ : ∃ m, k = m + 1 := ⟨k - 1, by omega⟩
    have hj : j < s.length := by omega
    have := ih (j + 1) k (by omega) (by omega) (by omega)
    simp only [caduceusref10_Heirs.l1]
    rw [if_pos (by omega), if_pos (by omega), if_pos (by simp; omega), wrap1 (by omega) (by omega), rd_lt hj, show ((j : Int) + 1) = ((j + 1 : Nat) : Int) from by omega]
    rw [show j + 1 - a = j - a + 1 from by omega, List.take_succ_eq_append_getElem (by simp; omega)] at this
    rw [← this]
    congr 3
    rw [List.getElem_drop]
    congr 1
    omega
theorem ref_heirs_l0 {s : List Int} (hs : s.length ≤ 15) (ho : s.Pairwise (ah pointZ)) (key : Int) : ∀ (d j k : Nat), j + d = s.length → (∀ x, x ∈ s.take j → pointZ x < key) → d + 100 < k → caduceusref10_Heirs.l0 k key s (j : Int) = some (heirsZ pointZ key s) := by
  intro d
  induction d with
  | zero =>
    intro j k h hp hk
    obtain ⟨k, rfl⟩ : ∃ m, k = m + 2 := ⟨k - 2, by omega⟩
    simp only [caduceusref10_Heirs.l0, caduceusref10_Heirs.j1]
    rw [if_neg (by omega)]
    have := ref_heirs_l1 s hs j (by omega) (s.length - j) j k (by omega) (Nat.le_refl _) (by omega)
    rw [Nat.sub_self, List.take_zero] at this
    rw [this, heirs_at ho key j hp (by intro x hx; rw [List.drop_eq_nil_of_le (by omega)] at hx; cases hx)]
  | succ d ih =>
    intro j k h hp hk
    obtain ⟨k, rfl⟩ : ∃ m, k = m + 2 := ⟨k - 2, by omega⟩
    have hj : j < s.length := by omega
    rw [show k + 2 = (k + 1) + 1 from rfl]
    simp only [caduceusref10_Heirs.l0]
    rw [if_pos (by omega), if_pos (by omega), ref_point_is _ _ (by omega), Option.bind_some, rd_lt hj]
    by_cases e : pointZ s[j] < key
    · rw [if_pos e, wrap1 (by omega) (by omega), show ((j : Int) + 1) = ((j + 1 : Nat) : Int) from by omega]
      refine ih (j + 1) (k + 1) (by omega) ?_ (by omega)
      intro x hx
      rw [List.take_succ_eq_append_getElem hj] at hx
      rcases List.mem_append.1 hx with hx | hx
      · exact hp x hx
      · rcases List.mem_singleton.1 hx with rfl
        exact e
    · rw [if_neg e]
      simp only [caduceusref10_Heirs.j1]
      have := ref_heirs_l1 s hs j (by omega) (s.length - j) j k (by omega) (Nat.le_refl _) (by omega)
      rw [Nat.sub_self, List.take_zero] at this
      rw [this, heirs_at ho key j hp (by intro x hx; rw [List.drop_eq_getElem_cons hj] at hx; injection hx with hx; subst hx; omega)]
theorem ref_heirs_is (key : Int) (l : List Int) (hl : l.length < 4611686018427387904) (k : Nat) (hk : l.length < k) (hk2 : 33000 ≤ k) : caduceusref10_Heirs.f k key l = some (heirsZ pointZ key (ringZ l)) := by
  unfold caduceusref10_Heirs.f
  rw [ref_ring_is l hl k hk hk2, Option.bind_some]
  have := ring_len15 l
  exact ref_heirs_l0 this (ring_ord l) key (ringZ l).length 0 k (by omega) (by intro x hx; cases hx) (by omega)
theorem ref_owner_is (key : Int) (l : List Int) (hl : l.length < 4611686018427387904) (k : Nat) (hk : l.length < k) (hk2 : 33000 ≤ k) : caduceusref10_Owner.f k key l = some (ownZ key (ringZ l)) := by
  unfold caduceusref10_Owner.f ownZ
  rw [ref_heirs_is key l hl k hk hk2, Option.bind_some]
  cases heirsZ pointZ key (ringZ l) with
  | nil => rfl
  | cons o r =>
    rw [if_neg (by simp only [List.length_cons]; omega), if_pos (by simp only [List.length_cons]; omega)]
    rfl
/-! Which numbers are among others. -/
theorem index_l0 (l : List Int) (x : Int) (hl : l.length < 4611686018427387904) : ∀ (d k i : Nat), i + d = l.length → d < k → ∃ r, slices_Index_int_int.l0 k l x (l.length : Int) (i : Int) = some r ∧ decide (r ≥ 0) = decide (x ∈ l.drop i) := by
  intro d
  induction d with
  | zero =>
    intro k i h hk
    obtain ⟨k, rfl⟩ : ∃ m, k = m + 1 := ⟨k - 1, by omega⟩
    simp only [slices_Index_int_int.l0]
    rw [if_neg (by omega)]
    exact ⟨_, rfl, by rw [List.drop_eq_nil_of_le (by omega)]; simp⟩
  | succ d ih =>
    intro k i h hk
    obtain ⟨k, rfl⟩ : ∃ m, k = m + 1 := ⟨k - 1, by omega⟩
    have hi : i < l.length := by omega
    simp only [slices_Index_int_int.l0]
    rw [if_pos (by omega), if_pos (by omega), if_pos (by omega), rd_lt hi, List.drop_eq_getElem_cons hi]
    by_cases e : x = l[i]
    · rw [if_pos e]
      exact ⟨_, rfl, by rw [decide_eq_true (by omega), decide_eq_true (by rw [← e]; exact List.mem_cons_self)]⟩
    · rw [if_neg e, wrap1 (by omega) (by omega), show ((i : Int) + 1) = ((i + 1 : Nat) : Int) from by omega]
      obtain ⟨r, h1, h2⟩ := ih k (i + 1) (by omega) (by omega)
      exact ⟨r, h1, by rw [h2, decide_eq_decide, List.mem_cons]; exact ⟨.inr, fun h => h.resolve_left e⟩⟩
theorem contains_is (l : List Int) (x : Int) (hl : l.length < 4611686018427387904) (k : Nat) (hk : l.length < k) : slices_Contains_int_int.f k l x = some (decide (x ∈ l)) := by
  unfold slices_Contains_int_int.f slices_Index_int_int.f
  obtain ⟨r, h1, h2⟩ := index_l0 l x hl l.length k 0 (by omega) hk
  rw [show ((0 : Nat) : Int) = 0 from rfl] at h1
  rw [h1, Option.bind_some, h2, List.drop_zero]
theorem has_l0 (l : List Int) (x : Int) (hl : l.length < 4611686018427387904) : ∀ (d k i : Nat), i + d = l.length → d < k → caduceusref10_Has.l0 k l x (i : Int) = some (decide (x ∈ l.drop i)) := by
  intro d
  induction d with
  | zero =>
    intro k i h hk
    obtain ⟨k, rfl⟩ : ∃ m, k = m + 1 := ⟨k - 1, by omega⟩
    simp only [caduceusref10_Has.l0]
    rw [if_neg (by omega), List.drop_eq_nil_of_le (by omega)]
    simp
  | succ d ih =>
    intro k i h hk
    obtain ⟨k, rfl⟩ : ∃ m, k = m + 1 := ⟨k - 1, by omega⟩
    have hi : i < l.length := by omega
    simp only [caduceusref10_Has.l0]
    rw [if_pos (by omega), if_pos (by omega), rd_lt hi, List.drop_eq_getElem_cons hi]
    by_cases e : l[i] = x
    · rw [if_pos e, decide_eq_true (by rw [e]; exact List.mem_cons_self)]
    · rw [if_neg e, wrap1 (by omega) (by omega), show ((i : Int) + 1) = ((i + 1 : Nat) : Int) from by omega, ih k (i + 1) (by omega) (by omega)]
      congr 1
      rw [decide_eq_decide, List.mem_cons]
      exact ⟨.inr, fun h => h.resolve_left (fun h => e h.symm)⟩
theorem has_is (l : List Int) (x : Int) (hl : l.length < 4611686018427387904) (k : Nat) (hk : l.length < k) : caduceusref10_Has.f k l x = some (decide (x ∈ l)) := by
  have := has_l0 l x hl l.length k 0 (by omega) hk
  rw [List.drop_zero] at this
  exact this
theorem same_l0 (l m : List Int) (he : l.length = m.length) (hl : l.length < 4611686018427387904) : ∀ (d k i : Nat), i + d = l.length → d < k → caduceusref10_Same.l0 k l m (i : Int) = some (decide (l.drop i = m.drop i)) := by
  intro d
  induction d with
  | zero =>
    intro k i h hk
    obtain ⟨k, rfl⟩ : ∃ m, k = m + 1 := ⟨k - 1, by omega⟩
    simp only [caduceusref10_Same.l0]
    rw [if_neg (by omega), List.drop_eq_nil_of_le (by omega), List.drop_eq_nil_of_le (by omega)]
    simp
  | succ d ih =>
    intro k i h hk
    obtain ⟨k, rfl⟩ : ∃ m, k = m + 1 := ⟨k - 1, by omega⟩
    have hi : i < l.length := by omega
    have hj : i < m.length := by omega
    simp only [caduceusref10_Same.l0]
    rw [if_pos (by omega), if_pos (by omega), if_pos (by omega), rd_lt hi, rd_lt hj, List.drop_eq_getElem_cons hi, List.drop_eq_getElem_cons hj]
    by_cases e : l[i] = m[i]
    · rw [if_pos e, wrap1 (by omega) (by omega), show ((i : Int) + 1) = ((i + 1 : Nat) : Int) from by omega, ih k (i + 1) (by omega) (by omega)]
      congr 1
      rw [decide_eq_decide, List.cons.injEq]
      exact ⟨fun h => ⟨e, h⟩, fun h => h.2⟩
    · rw [if_neg e, decide_eq_false]
      rw [List.cons.injEq]
      exact fun h => e h.1
theorem same_is (l m : List Int) (hl : l.length < 4611686018427387904) (k : Nat) (hk : l.length < k) : caduceusref10_Same.f k l m = some (decide (l = m)) := by
  unfold caduceusref10_Same.f
  by_cases he : l.length = m.length
  · rw [if_pos (by omega)]
    have := same_l0 l m he hl l.length k 0 (by omega) hk
    rw [List.drop_zero, List.drop_zero] at this
    exact this
  · rw [if_neg (by omega), decide_eq_false (fun h => he (by rw [h]))]
theorem same_self (l : List Int) (hl : l.length < 4611686018427387904) (k : Nat) (hk : l.length < k) : caduceusref10_Same.f k l l = some true := by rw [same_is l l hl k hk, decide_eq_true rfl]
/-! Fingers. -/
def fK (n : Int) (i : Int) : Int := IntKind.u64.wrap (pointZ n + shl .u64 1 i)
def fingStep (n : Int) (s : List Int) (out : List Int) (i : Nat) : List Int := if ownZ (fK n i) s = n then out else if ownZ (fK n i) s ∈ out then out else out ++ [ownZ (fK n i) s]
def fingZ (n : Int) (s : List Int) : List Int := (List.range' 0 64).foldl (fingStep n s) []
theorem fingStep_len (n : Int) (s out : List Int) (i : Nat) : (fingStep n s out i).length ≤ out.length + 1 := by
  unfold fingStep
  split
  · omega
  · split
    · omega
    · simp
theorem fing_l0 (n : Int) (s : List Int) (hs : s.Pairwise (ah pointZ)) (hne : s ≠ []) : ∀ (d k i : Nat) (out : List Int), i + d = 64 → out.length ≤ i → d + 200 < k → ring_Fingers.l0 k n s out (i : Int) = some ((List.range' i d).foldl (fingStep n s) out) := by
  intro d
  induction d with
  | zero =>
    intro k i out h ho hk
    obtain ⟨k, rfl⟩ : ∃ m, k = m + 1 := ⟨k - 1, by omega⟩
    simp only [ring_Fingers.l0]
    rw [if_neg (by omega)]
    rfl
  | succ d ih =>
    intro k i out h ho hk
    obtain ⟨k, rfl⟩ : ∃ m, k = m + 1 := ⟨k - 1, by omega⟩
    simp only [ring_Fingers.l0]
    obtain ⟨j, hj, h1, _, h3⟩ := heirs_first hs (fK n i) hne
    have e : s[j] = ownZ (fK n i) s := by unfold ownZ; rw [h3]; rfl
    rw [if_pos (by omega), point_is _ _ (by omega), Option.bind_some, if_pos (by omega)]
    show ((ring_first.f (fK n i) s).bind _) = _
    rw [h1, Option.bind_some, if_pos (by omega), if_pos (by omega), rd_lt hj, e, contains_is out _ (by omega) k (by omega), Option.bind_some, wrap1 (by omega) (by omega), show ((i : Int) + 1) = ((i + 1 : Nat) : Int) from by omega]
    have hl := fingStep_len n s out i
    have ih2 := ih k (i + 1) (fingStep n s out i) (by omega) (by omega) (by omega)
    rw [List.range'_succ, List.foldl_cons, ← ih2]
    unfold fingStep
    split
    · rfl
    · by_cases hm : ownZ (fK n i) s ∈ out
      · rw [decide_eq_true hm, if_pos rfl, if_pos hm]
      · rw [decide_eq_false hm, if_neg (by decide), if_neg hm, if_pos (by omega)]
theorem nodesB_ne {l : List Int} {n : Int} (h : nodesB l = true) (hn : n ∈ l) : ringZ l ≠ [] := by
  intro e
  have := (nodesB_ring h).perm.mem_iff.2 hn
  rw [e] at this
  cases this
def fingersZ (n : Int) (l : List Int) : List Int := if nodesB l = true ∧ n ∈ l then fingZ n (ringZ l) else []
theorem fingers_is (n : Int) (l : List Int) (hl : l.length < 4611686018427387904) (k : Nat) (hk : l.length + 300 < k) : ring_Fingers.f k n l = some (fingersZ n l) := by
  unfold ring_Fingers.f fingersZ
  rw [nodes_is l hl k (by omega), Option.bind_some, contains_is l n hl k (by omega), Option.bind_some]
  obtain ⟨k, rfl⟩ : ∃ m, k = m + 1 := ⟨k - 1, by omega⟩
  by_cases h1 : nodesB l = true
  · rw [if_pos h1]
    by_cases h2 : n ∈ l
    · rw [decide_eq_true h2, if_pos ⟨h1, h2⟩]
      simp only [ring_Fingers.j0]
      rw [if_neg (by decide), ring_is l hl k (by omega), Option.bind_some]
      exact fing_l0 n _ (ring_ord l) (nodesB_ne h1 h2) 64 k 0 [] (by omega) (by simp) (by omega)
    · rw [decide_eq_false h2, if_neg (fun h => h2 h.2)]
      simp [ring_Fingers.j0]
  · rw [if_neg h1, if_neg (fun h => h1 h.1)]
    simp [ring_Fingers.j0]
theorem u64_small {i : Nat} (h : i ≤ 64) : IntKind.u64.wrap (i : Int) = (i : Int) := by
  show (i : Int) % 18446744073709551616 = i
  omega
theorem ref_fing_l0 (n : Int) (l : List Int) (hl : l.length < 4611686018427387904) : ∀ (d k i : Nat) (out : List Int), i + d = 64 → out.length ≤ i → d + l.length + 33000 < k → caduceusref10_Fingers.l0 k n l out (i : Int) = some ((List.range' i d).foldl (fingStep n (ringZ l)) out) := by
  intro d
  induction d with
  | zero =>
    intro k i out h ho hk
    obtain ⟨k, rfl⟩ : ∃ m, k = m + 1 := ⟨k - 1, by omega⟩
    simp only [caduceusref10_Fingers.l0]
    rw [if_neg (by omega)]
    rfl
  | succ d ih =>
    intro k i out h ho hk
    obtain ⟨k, rfl⟩ : ∃ m, k = m + 1 := ⟨k - 1, by omega⟩
    simp only [caduceusref10_Fingers.l0]
    rw [if_pos (by omega), ref_point_is _ _ (by omega), Option.bind_some, u64_small (by omega), if_pos (by omega)]
    show ((caduceusref10_Owner.f k (fK n i) l).bind _) = _
    rw [ref_owner_is _ l hl k (by omega) (by omega), Option.bind_some, has_is out _ (by omega) k (by omega), Option.bind_some, wrap1 (by omega) (by omega), show ((i : Int) + 1) = ((i + 1 : Nat) : Int) from by omega]
    have hl2 := fingStep_len n (ringZ l) out i
    have ih2 := ih k (i + 1) (fingStep n (ringZ l) out i) (by omega) (by omega) (by omega)
    rw [List.range'_succ, List.foldl_cons, ← ih2]
    unfold fingStep
    split
    · rfl
    · by_cases hm : ownZ (fK n i) (ringZ l) ∈ out
      · rw [decide_eq_true hm, if_pos rfl, if_pos hm]
      · rw [decide_eq_false hm, if_neg (by decide), if_neg hm, if_pos (by omega)]
theorem ref_fingers_is (n : Int) (l : List Int) (hl : l.length < 4611686018427387904) (k : Nat) (hk : l.length + 33100 < k) : caduceusref10_Fingers.f k n l = some (fingersZ n l) := by
  unfold caduceusref10_Fingers.f fingersZ
  rw [ref_nodes_is l hl k (by omega), Option.bind_some, has_is l n hl k (by omega), Option.bind_some]
  obtain ⟨k, rfl⟩ : ∃ m, k = m + 1 := ⟨k - 1, by omega⟩
  by_cases h1 : nodesB l = true
  · rw [if_pos h1]
    by_cases h2 : n ∈ l
    · rw [decide_eq_true h2, if_pos ⟨h1, h2⟩]
      simp only [caduceusref10_Fingers.j0]
      rw [if_neg (by decide)]
      exact ref_fing_l0 n l hl 64 k 0 [] (by omega) (by simp) (by omega)
    · rw [decide_eq_false h2, if_neg (fun h => h2 h.2)]
      simp [caduceusref10_Fingers.j0]
  · rw [if_neg h1, if_neg (fun h => h1 h.1)]
    simp [caduceusref10_Fingers.j0]
theorem fing_fold (n : Int) (s : List Int) : ∀ (t : List Nat) (out : List Int), (∀ x, x ∈ t.foldl (fingStep n s) out → x ∈ out ∨ (x ≠ n ∧ ∃ i, i ∈ t ∧ x = ownZ (fK n i) s)) ∧ (∀ x, x ∈ out → x ∈ t.foldl (fingStep n s) out) ∧ (∀ i, i ∈ t → ownZ (fK n i) s ≠ n → ownZ (fK n i) s ∈ t.foldl (fingStep n s) out)
  | [], out => ⟨fun x h => .inl h, fun x h => h, fun i h => by cases h⟩
  | j :: t, out => by
    obtain ⟨h1, h2, h3⟩ := fing_fold n s t (fingStep n s out j)
    have hin : ∀ x, x ∈ fingStep n s out j → x ∈ out ∨ (x ≠ n ∧ x = ownZ (fK n j) s) := by
      intro x hx
      unfold fingStep at hx
      split at hx
      · exact .inl hx
      · rename_i hne
        split at hx
        · exact .inl hx
        · rcases List.mem_append.1 hx with hx | hx
          · exact .inl hx
          · rcases List.mem_singleton.1 hx with rfl
            exact .inr ⟨hne, rfl⟩
    have hout : ∀ x, x ∈ out → x ∈ fingStep n s out j := by
      intro x hx
      unfold fingStep
      split
      · exact hx
      · split
        · exact hx
        · exact List.mem_append_left _ hx
    have hj : ownZ (fK n j) s ≠ n → ownZ (fK n j) s ∈ fingStep n s out j := by
      intro hne
      unfold fingStep
      rw [if_neg hne]
      split
      · assumption
      · exact List.mem_append_right _ (List.mem_singleton.2 rfl)
    rw [List.foldl_cons]
    refine ⟨fun x hx => ?_, fun x hx => h2 x (hout x hx), fun i hi hne => ?_⟩
    · rcases h1 x hx with h | ⟨ha, i, hi, hb⟩
      · rcases hin x h with h | ⟨ha, hb⟩
        · exact .inl h
        · exact .inr ⟨ha, j, List.mem_cons_self, hb⟩
      · exact .inr ⟨ha, i, List.mem_cons_of_mem _ hi, hb⟩
    · rcases List.mem_cons.1 hi with rfl | hi
      · exact h2 _ (hj hne)
      · exact h3 i hi hne
theorem fK0 {n : Int} (h : 1 ≤ n ∧ n ≤ 15) : fK n (0 : Nat) = (pointZ n + 1) % 18446744073709551616 := by
  unfold fK
  have : shl .u64 1 ((0 : Nat) : Int) = 1 := by decide
  rw [this]
  rfl
theorem fing_len {n : Int} {s : List Int} : (fingZ n s).length ≤ 64 := by
  have key : ∀ (t : List Nat) (out : List Int), (t.foldl (fingStep n s) out).length ≤ out.length + t.length := by
    intro t
    induction t with
    | nil => intro out; simp
    | cons j t ih =>
      intro out
      rw [List.foldl_cons]
      have := ih (fingStep n s out j)
      have := fingStep_len n s out j
      simp only [List.length_cons]
      omega
  have := key (List.range' 0 64) []
  unfold fingZ
  simpa using this
/-! Hops. -/
theorem far_wrap (key n : Int) : IntKind.u64.wrap (key - pointZ n) = far pointZ key n := rfl
theorem ring_far_is (n key : Int) (k : Nat) (hk : 40 ≤ k) : ring_far.f k n key = some (far pointZ key n) := by
  unfold ring_far.f
  rw [point_is n k hk, Option.bind_some, far_wrap]
def bestStep (key : Int) (b : Int × Int) (n : Int) : Int × Int := if far pointZ key n < b.2 then (n, far pointZ key n) else b
def bestZ (key from_ : Int) (f : List Int) : Int := (f.foldl (bestStep key) (f.headD 0, far pointZ key from_)).1
theorem hop_l0 (key : Int) (f : List Int) (hl : f.length ≤ 64) : ∀ (d k i : Nat) (b nr : Int), i + d = f.length → d + 40 < k → ring_Hop.l0 k key b nr f (f.length : Int) (i : Int) = some (((f.drop i).foldl (bestStep key) (b, nr)).1, true) := by
  intro d
  induction d with
  | zero =>
    intro k i b nr h hk
    obtain ⟨k, rfl⟩ : ∃ m, k = m + 1 := ⟨k - 1, by omega⟩
    simp only [ring_Hop.l0]
    rw [if_neg (by omega), List.drop_eq_nil_of_le (by omega)]
    rfl
  | succ d ih =>
    intro k i b nr h hk
    obtain ⟨k, rfl⟩ : ∃ m, k = m + 1 := ⟨k - 1, by omega⟩
    have hi : i < f.length := by omega
    simp only [ring_Hop.l0]
    rw [if_pos (by omega), if_pos (by omega), if_pos (by omega), rd_lt hi, ring_far_is _ _ k (by omega), Option.bind_some, Option.bind_some, wrap1 (by omega) (by omega), show ((i : Int) + 1) = ((i + 1 : Nat) : Int) from by omega, List.drop_eq_getElem_cons hi, List.foldl_cons, ih k (i + 1) _ _ (by omega) (by omega), ih k (i + 1) _ _ (by omega) (by omega)]
    unfold bestStep
    split <;> rfl
theorem ref_hop_l0 (key from_ : Int) (f : List Int) (hl : f.length ≤ 64) (hne : f ≠ []) : ∀ (d k i : Nat) (x b nr : Int), i + d = f.length → d + 40 < k →
    ((x = -1 ∧ b = f.headD 0 ∧ nr = far pointZ key from_) ∨ ∃ j : Nat, ∃ hj : j < f.length, x = j ∧ b = f[j] ∧ nr = far pointZ key f[j] ∧ nr < far pointZ key from_) →
    caduceusref10_Hop.l0 k from_ key f x (i : Int) = some (((f.drop i).foldl (bestStep key) (b, nr)).1) := by
  intro d
  have hl0 : 0 < f.length := List.length_pos_iff.2 hne
  induction d with
  | zero =>
    intro k i x b nr h hk hx
    obtain ⟨k, rfl⟩ : ∃ m, k = m + 1 := ⟨k - 1, by omega⟩
    simp only [caduceusref10_Hop.l0]
    rw [if_neg (by omega), List.drop_eq_nil_of_le (by omega)]
    rcases hx with ⟨rfl, rfl, rfl⟩ | ⟨j, hj, rfl, rfl, rfl, h5⟩
    · rw [if_pos (by omega), if_pos (by omega), show (0 : Int) = ((0 : Nat) : Int) from rfl, rd_lt hl0]
      cases f with
      | nil => cases hne rfl
      | cons a f => rfl
    · rw [if_neg (by omega), if_pos (by omega), if_pos (by omega), rd_lt hj]
      rfl
  | succ d ih =>
    intro k i x b nr h hk hx
    obtain ⟨k, rfl⟩ : ∃ m, k = m + 1 := ⟨k - 1, by omega⟩
    have hi : i < f.length := by omega
    simp only [caduceusref10_Hop.l0]
    rw [if_pos (by omega), if_pos (by omega), rd_lt hi, ref_point_is _ k (by omega), Option.bind_some, ref_point_is _ k (by omega), Option.bind_some, far_wrap, far_wrap, wrap1 (by omega) (by omega), show ((i : Int) + 1) = ((i + 1 : Nat) : Int) from by omega, List.drop_eq_getElem_cons hi, List.foldl_cons]
    rcases hx with ⟨rfl, rfl, rfl⟩ | ⟨j, hj, rfl, rfl, rfl, h5⟩
    · by_cases e : far pointZ key f[i] < far pointZ key from_
      · rw [if_pos e, if_pos (by omega)]
        unfold bestStep
        rw [if_pos e]
        exact ih k (i + 1) _ _ _ (by omega) (by omega) (.inr ⟨i, hi, rfl, rfl, rfl, e⟩)
      · rw [if_neg e]
        unfold bestStep
        rw [if_neg e]
        exact ih k (i + 1) _ _ _ (by omega) (by omega) (.inl ⟨rfl, rfl, rfl⟩)
    · by_cases e : far pointZ key f[i] < far pointZ key f[j]
      · rw [if_pos (by omega), if_neg (by omega), if_pos (by omega), if_pos (by omega), rd_lt hj, ref_point_is _ k (by omega), Option.bind_some, far_wrap, if_pos e]
        unfold bestStep
        rw [if_pos e]
        exact ih k (i + 1) _ _ _ (by omega) (by omega) (.inr ⟨i, hi, rfl, rfl, rfl, by omega⟩)
      · unfold bestStep
        rw [if_neg (show ¬ far pointZ key f[i] < (f[j], far pointZ key f[j]).2 from e)]
        have := ih k (i + 1) (j : Int) f[j] (far pointZ key f[j]) (by omega) (by omega) (.inr ⟨j, hj, rfl, rfl, rfl, h5⟩)
        by_cases e2 : far pointZ key f[i] < far pointZ key from_
        · rw [if_pos e2, if_neg (by omega), if_pos (by omega), if_pos (by omega), rd_lt hj, ref_point_is _ k (by omega), Option.bind_some, far_wrap, if_neg e]
          exact this
        · rw [if_neg e2]
          exact this
/-- Where the way goes from a node; 0: nowhere. -/
def hopZ (key : Int) (l : List Int) (from_ : Int) : Int :=
  if nodesB l = true ∧ from_ ∈ l ∧ ownZ key (ringZ l) ≠ from_ then (if ownZ key (ringZ l) ∈ fingZ from_ (ringZ l) then ownZ key (ringZ l) else bestZ key from_ (fingZ from_ (ringZ l))) else 0
theorem hopZ_yes {key : Int} {l : List Int} {from_ : Int} (h : nodesB l = true ∧ from_ ∈ l ∧ ownZ key (ringZ l) ≠ from_) : hopZ key l from_ = if ownZ key (ringZ l) ∈ fingZ from_ (ringZ l) then ownZ key (ringZ l) else bestZ key from_ (fingZ from_ (ringZ l)) := by
  unfold hopZ
  rw [if_pos h]
theorem hopZ_no {key : Int} {l : List Int} {from_ : Int} (h : ¬ (nodesB l = true ∧ from_ ∈ l ∧ ownZ key (ringZ l) ≠ from_)) : hopZ key l from_ = 0 := by
  unfold hopZ
  rw [if_neg h]
theorem next_fing {l : List Int} {from_ key : Int} (h : nodesB l = true) (hf : from_ ∈ l) (hne : ownZ key (ringZ l) ≠ from_) :
    ownZ (fK from_ (0 : Nat)) (ringZ l) ≠ from_ ∧ ownZ (fK from_ (0 : Nat)) (ringZ l) ∈ fingZ from_ (ringZ l) ∧ Own pointZ ((pointZ from_ + 1) % 18446744073709551616) (ringZ l) (ownZ (fK from_ (0 : Nat)) (ringZ l)) := by
  have hr := nodesB_ne h hf
  have hnl := nodesB_NL h
  have hfn := hnl.1 from_ hf
  have hb : ∀ x, x ∈ ringZ l → 0 ≤ pointZ x ∧ pointZ x < 18446744073709551616 := fun x hx => by have := pointZ_bd (ring_node hx).2.2; omega
  have hi : ∀ x y, x ∈ ringZ l → y ∈ ringZ l → pointZ x = pointZ y → x = y := fun x y hx hy e => pointZ_inj (ring_node hx).2.2 (ring_node hy).2.2 e
  have ho := ownZ_own (fK from_ (0 : Nat)) hr
  rw [fK0 hfn] at ho ⊢
  have hn := next_ne hb hi ((nodesB_ring h).perm.mem_iff.2 hf) (ownZ_own key hr).1 hne rfl ho
  refine ⟨hn, ?_, ho⟩
  have := (fing_fold from_ (ringZ l) (List.range' 0 64) []).2.2 0 (by simp) (by rw [fK0 hfn]; exact hn)
  rw [fK0 hfn] at this
  exact this
theorem fing_mem {l : List Int} {from_ x : Int} (h : nodesB l = true) (hf : from_ ∈ l) (hx : x ∈ fingZ from_ (ringZ l)) : x ≠ from_ ∧ x ∈ ringZ l := by
  rcases (fing_fold from_ (ringZ l) (List.range' 0 64) []).1 x hx with h0 | ⟨h1, i, _, rfl⟩
  · cases h0
  · exact ⟨h1, (ownZ_own _ (nodesB_ne h hf)).1⟩
theorem best_fold (key : Int) : ∀ (t : List Int) (b nr : Int), (((t.foldl (bestStep key) (b, nr)).1 = b ∧ (t.foldl (bestStep key) (b, nr)).2 = nr) ∨ ((t.foldl (bestStep key) (b, nr)).1 ∈ t ∧ (t.foldl (bestStep key) (b, nr)).2 = far pointZ key (t.foldl (bestStep key) (b, nr)).1 ∧ (t.foldl (bestStep key) (b, nr)).2 < nr)) ∧ ∀ x, x ∈ t → (t.foldl (bestStep key) (b, nr)).2 ≤ far pointZ key x
  | [], b, nr => ⟨.inl ⟨rfl, rfl⟩, fun x h => by cases h⟩
  | n :: t, b, nr => by
    rw [List.foldl_cons]
    unfold bestStep
    by_cases e : far pointZ key n < nr
    · rw [if_pos e]
      obtain ⟨h1, h2⟩ := best_fold key t n (far pointZ key n)
      show _ ∧ _
      rcases h1 with ⟨h1, h3⟩ | ⟨h1, h3, h4⟩
      · refine ⟨.inr ⟨?_, ?_, ?_⟩, ?_⟩
        · show (List.foldl (bestStep key) (n, far pointZ key n) t).1 ∈ _
          rw [h1]; exact List.mem_cons_self
        · show (List.foldl (bestStep key) (n, far pointZ key n) t).2 = far pointZ key (List.foldl (bestStep key) (n, far pointZ key n) t).1
          rw [h3, h1]
        · show (List.foldl (bestStep key) (n, far pointZ key n) t).2 < nr
          rw [h3]; exact e
        · intro x hx
          show (List.foldl (bestStep key) (n, far pointZ key n) t).2 ≤ _
          rcases List.mem_cons.1 hx with rfl | hx
          · omega
          · exact h2 x hx
      · refine ⟨.inr ⟨?_, ?_, ?_⟩, ?_⟩
        · exact List.mem_cons_of_mem _ h1
        · exact h3
        · show (List.foldl (bestStep key) (n, far pointZ key n) t).2 < nr
          omega
        · intro x hx
          show (List.foldl (bestStep key) (n, far pointZ key n) t).2 ≤ _
          rcases List.mem_cons.1 hx with rfl | hx
          · omega
          · exact h2 x hx
    · rw [if_neg e]
      obtain ⟨h1, h2⟩ := best_fold key t b nr
      have h5 : (List.foldl (bestStep key) (b, nr) t).2 ≤ nr := by rcases h1 with ⟨_, h3⟩ | ⟨_, _, h4⟩ <;> omega
      refine ⟨?_, ?_⟩
      · rcases h1 with h1 | ⟨h1, h3⟩
        · exact .inl h1
        · exact .inr ⟨List.mem_cons_of_mem _ h1, h3⟩
      · intro x hx
        show (List.foldl (bestStep key) (b, nr) t).2 ≤ _
        rcases List.mem_cons.1 hx with rfl | hx
        · omega
        · exact h2 x hx
theorem hop_ring {l : List Int} {key from_ : Int} (a0 : 0 ≤ key) (a1 : key < 18446744073709551616) (h : nodesB l = true) (hf : from_ ∈ l) (hne : from_ ≠ ownZ key (ringZ l)) :
    hopZ key l from_ ∈ ringZ l ∧ (hopZ key l from_ = ownZ key (ringZ l) ∨ hopZ key l from_ ≠ ownZ key (ringZ l) ∧ far pointZ key (hopZ key l from_) < far pointZ key from_) := by
  have hne' : ownZ key (ringZ l) ≠ from_ := fun e => hne e.symm
  have hr := nodesB_ne h hf
  have hb : ∀ x, x ∈ ringZ l → 0 ≤ pointZ x ∧ pointZ x < 18446744073709551616 := fun x hx => by have := pointZ_bd (ring_node hx).2.2; omega
  have hi : ∀ x y, x ∈ ringZ l → y ∈ ringZ l → pointZ x = pointZ y → x = y := fun x y hx hy e => pointZ_inj (ring_node hx).2.2 (ring_node hy).2.2 e
  obtain ⟨n1, n2, n3⟩ := next_fing (key := key) h hf hne'
  have ho := ownZ_own key hr
  unfold hopZ
  rw [if_pos ⟨h, hf, hne'⟩]
  by_cases hm : ownZ key (ringZ l) ∈ fingZ from_ (ringZ l)
  · rw [if_pos hm]
    exact ⟨ho.1, .inl rfl⟩
  · rw [if_neg hm]
    have hx : ownZ (fK from_ (0 : Nat)) (ringZ l) ≠ ownZ key (ringZ l) := fun e => hm (e ▸ n2)
    have hnear := next_near hb hi a0 a1 ((nodesB_ring h).perm.mem_iff.2 hf) ho rfl n3 hne hx
    obtain ⟨h1, h2⟩ := best_fold key (fingZ from_ (ringZ l)) ((fingZ from_ (ringZ l)).headD 0) (far pointZ key from_)
    have h3 := h2 _ n2
    show bestZ key from_ (fingZ from_ (ringZ l)) ∈ _ ∧ _
    unfold bestZ
    rcases h1 with ⟨_, h4⟩ | ⟨h4, h5, h6⟩
    · rw [h4] at h3; omega
    · refine ⟨(fing_mem h hf h4).2, .inr ⟨fun e => hm (e ▸ h4), ?_⟩⟩
      rw [← h5]
      exact h6
theorem rd_head (f : List Int) : rd f 0 = f.headD 0 := by cases f <;> rfl
theorem ring_hop_is (from_ key : Int) (l : List Int) (hl : l.length < 4611686018427387904) (k : Nat) (hk : l.length + 400 < k) : ring_Hop.f k from_ key l = some (hopZ key l from_, decide (nodesB l = true ∧ from_ ∈ l ∧ ownZ key (ringZ l) ≠ from_)) := by
  unfold ring_Hop.f
  rw [owner_is key l hl k (by omega), Option.bind_some, fingers_is from_ l hl k (by omega), Option.bind_some, contains_is l from_ hl k (by omega), Option.bind_some]
  obtain ⟨k, rfl⟩ : ∃ m, k = m + 1 := ⟨k - 1, by omega⟩
  by_cases h : nodesB l = true ∧ from_ ∈ l ∧ ownZ key (ringZ l) ≠ from_
  · obtain ⟨h1, h2, h3⟩ := h
    obtain ⟨n1, n2, n3⟩ := next_fing (key := key) h1 h2 h3
    have hne : fingZ from_ (ringZ l) ≠ [] := fun e => by rw [e] at n2; cases n2
    have hl0 : 0 < (fingZ from_ (ringZ l)).length := List.length_pos_iff.2 hne
    have hfl := fing_len (n := from_) (s := ringZ l)
    rw [hopZ_yes ⟨h1, h2, h3⟩, decide_eq_true (show nodesB l = true ∧ from_ ∈ l ∧ ownZ key (ringZ l) ≠ from_ from ⟨h1, h2, h3⟩)]
    show (if decide (ringZ l ≠ []) = true then _ else _) = _
    rw [if_pos (by rw [decide_eq_true (nodesB_ne h1 h2)]), decide_eq_true h2, if_pos rfl]
    show (if ownZ key (ringZ l) = from_ then _ else _) = _
    rw [if_neg h3]
    have hff : fingersZ from_ l = fingZ from_ (ringZ l) := by unfold fingersZ; rw [if_pos ⟨h1, h2⟩]
    rw [hff, beq_eq_false_iff_ne.2 (by omega)]
    simp only [ring_Hop.j0]
    rw [if_neg (by decide), contains_is _ _ (by omega) k (by omega), Option.bind_some]
    by_cases hm : ownZ key (ringZ l) ∈ fingZ from_ (ringZ l)
    · rw [decide_eq_true hm, if_pos rfl, if_pos hm]
    · rw [decide_eq_false hm, if_neg (by decide), if_neg hm, if_pos (by omega), ring_far_is _ _ k (by omega), Option.bind_some]
      have := hop_l0 key (fingZ from_ (ringZ l)) hfl (fingZ from_ (ringZ l)).length k 0 (rd (fingZ from_ (ringZ l)) 0) (far pointZ key from_) (by omega) (by omega)
      rw [List.drop_zero] at this
      refine this.trans ?_
      unfold bestZ
      congr 4
      rw [rd_head]
  · rw [hopZ_no h, decide_eq_false h]
    have hj : ∀ o f, ring_Hop.j0 (k + 1) from_ key o f true = some (0, false) := by intro o f; simp [ring_Hop.j0]
    simp only [hj]
    by_cases h1 : ringZ l = []
    · rw [decide_eq_false (fun h => h h1), if_neg (by decide)]
    · rw [decide_eq_true h1, if_pos rfl]
      have hn : nodesB l = true := by
        cases hq : ringZ l with
        | nil => exact absurd hq h1
        | cons a r => exact (ring_node (x := a) (by rw [hq]; exact List.mem_cons_self)).1
      by_cases h2 : from_ ∈ l
      · rw [decide_eq_true h2, if_pos rfl, if_pos]
        exact Decidable.byContradiction fun h3 => h ⟨hn, h2, h3⟩
      · rw [decide_eq_false h2, if_neg (by decide)]
theorem ref_hop_is (from_ key : Int) (l : List Int) (hl : l.length < 4611686018427387904) (k : Nat) (hk : l.length + 34000 < k) : caduceusref10_Hop.f k from_ key l = some (hopZ key l from_) := by
  unfold caduceusref10_Hop.f
  rw [ref_nodes_is l hl k (by omega), Option.bind_some, has_is l from_ hl k (by omega), Option.bind_some, ref_owner_is key l hl k (by omega) (by omega), Option.bind_some]
  obtain ⟨k, rfl⟩ : ∃ m, k = m + 1 := ⟨k - 1, by omega⟩
  by_cases h : nodesB l = true ∧ from_ ∈ l ∧ ownZ key (ringZ l) ≠ from_
  · obtain ⟨h1, h2, h3⟩ := h
    obtain ⟨n1, n2, n3⟩ := next_fing (key := key) h1 h2 h3
    have hne : fingZ from_ (ringZ l) ≠ [] := fun e => by rw [e] at n2; cases n2
    have hfl := fing_len (n := from_) (s := ringZ l)
    have hff : fingersZ from_ l = fingZ from_ (ringZ l) := by unfold fingersZ; rw [if_pos ⟨h1, h2⟩]
    rw [hopZ_yes ⟨h1, h2, h3⟩, if_pos h1, decide_eq_true h2, if_pos rfl, beq_eq_false_iff_ne.2 h3]
    simp only [caduceusref10_Hop.j0]
    rw [if_neg (by decide), ref_fingers_is _ _ hl k (by omega), Option.bind_some, ref_owner_is key l hl k (by omega) (by omega), Option.bind_some, hff, has_is _ _ (by omega) k (by omega), Option.bind_some, Option.bind_some]
    by_cases hm : ownZ key (ringZ l) ∈ fingZ from_ (ringZ l)
    · rw [decide_eq_true hm, if_pos rfl, if_pos hm]
    · rw [decide_eq_false hm, if_neg (by decide), if_neg hm]
      have := ref_hop_l0 key from_ (fingZ from_ (ringZ l)) hfl hne (fingZ from_ (ringZ l)).length k 0 (-1) _ _ (by omega) (by omega) (.inl ⟨rfl, rfl, rfl⟩)
      rw [List.drop_zero] at this
      exact this
  · rw [hopZ_no h]
    have hj : caduceusref10_Hop.j0 (k + 1) from_ key l true = some 0 := by simp [caduceusref10_Hop.j0]
    simp only [hj]
    by_cases h1 : nodesB l = true
    · rw [if_pos h1]
      by_cases h2 : from_ ∈ l
      · rw [decide_eq_true h2, if_pos rfl]
        have h3 : ownZ key (ringZ l) = from_ := Decidable.byContradiction fun h3 => h ⟨h1, h2, h3⟩
        rw [h3, beq_self_eq_true, hj]
      · rw [decide_eq_false h2, if_neg (by decide)]
    · rw [if_neg h1]
/-! The page's example. -/
theorem awake_is (k : Nat) (hk : 40000 ≤ k) : caduceuslaw10_awake.f k = some true := by
  unfold caduceuslaw10_awake.f
  have r4 : ringZ [4] = [4] := by
    have h := (nodesB_ring (l := [4]) (by decide)).perm
    exact List.perm_singleton.1 h
  have r0 : ringZ [] = [] := by
    have h := (nodesB_ring (l := []) (by decide)).perm
    exact List.perm_nil.1 h
  have r5 : (ringZ [1, 2, 3, 4, 5]).length = 5 := (nodesB_ring (l := [1, 2, 3, 4, 5]) (by decide)).perm.length_eq
  have o4 : ∀ key, ownZ key [4] = 4 := by
    intro key
    have h := ownZ_own (l := [4]) key (by rw [r4]; simp)
    rw [r4] at h
    simpa using h.1
  have f4 : fingersZ 4 [4] = [] := by
    unfold fingersZ
    rw [if_pos ⟨by decide, by simp⟩, r4]
    have : ∀ x, x ∉ fingZ 4 [4] := by
      intro x hx
      rcases (fing_fold 4 [4] (List.range' 0 64) []).1 x hx with h0 | ⟨h1, i, _, rfl⟩
      · cases h0
      · exact h1 (o4 _)
    exact List.eq_nil_iff_forall_not_mem.2 this
  rw [owner_is 77 [4] (by simp) k (by simp; omega), Option.bind_some, ring_is [1, 2, 3, 4, 5] (by simp) k (by simp; omega), Option.bind_some, owner_is 77 [] (by simp) k (by simp; omega), Option.bind_some, r4, r0, o4]
  show (if (4 : Int) = 4 then _ else _) = _
  rw [if_pos rfl, fingers_is 4 [4] (by simp) k (by simp; omega), Option.bind_some, f4, r5]
  rw [point_is 1 k (by omega), Option.bind_some]
  have hq : caduceusref02_Hash.f 40 (⟨#[110, 111, 100, 101, 32, 49]⟩ : ByteArray) = ring_Point.f 40 1 := by kernel_rfl
  rw [point_some] at hq
  rw [at_rounds (g := fun k => caduceusref02_Hash.f k _) (fun k => caduceusref02_Hash.mono _ k) (show 40 ≤ k by omega) hq, Option.bind_some]
  simp
theorem u64_wf {key : Int} (h : (Lit.int .u64 key).wf = true) : 0 ≤ key ∧ key < 18446744073709551616 := by
  simp only [Lit.wf, Bool.and_eq_true, decide_eq_true_eq] at h
  have e1 : IntKind.u64.min = 0 := by decide
  have e2 : IntKind.u64.max = 18446744073709551615 := by decide
  omega
theorem few_is (l : List Int) : caduceuslaw10_few.f l = some (decide ((l.length : Int) ≤ 40)) := rfl
theorem hopZ_pos {key : Int} {l : List Int} {from_ : Int} (a0 : 0 ≤ key) (a1 : key < 18446744073709551616) : decide (nodesB l = true ∧ from_ ∈ l ∧ ownZ key (ringZ l) ≠ from_) = decide (hopZ key l from_ > 0) := by
  rw [decide_eq_decide]
  by_cases h : nodesB l = true ∧ from_ ∈ l ∧ ownZ key (ringZ l) ≠ from_
  · have := (hop_ring a0 a1 h.1 h.2.1 (fun e => h.2.2 e.symm)).1
    have := (ring_node this).2.2
    exact ⟨fun _ => by omega, fun _ => h⟩
  · rw [hopZ_no h]
    exact ⟨fun k => absurd k h, fun k => by omega⟩
end Go.Proofs.YtfmjhklejjohcaaDoor.RN
