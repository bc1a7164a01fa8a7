/- How texts stand; what folding keeps; parts. -/
import Derived.Test.YtiaacpjibhnhiaaDoorNS
namespace Go.Proofs.YtiaacpjibhnhiaaDoor.NQ
open Go.RowKit Go.Lib Go.Proofs.YtiaacpjibhnhiaaDoor.PAll Go.Proofs.YtiaacpjibhnhiaaDoorW.PrintWords Go.Proofs.YtiaacpjibhnhiaaDoorW.PrintLast Go.Proofs.YtiaacpjibhnhiaaDoorW.PrintMore
set_option linter.unusedVariables false
set_option linter.unusedSimpArgs false
/-! ### folding -/
theorem small_46 (c : Int) : NC.smallZ c = 46 ↔ c = 46 := by unfold NC.smallZ; split <;> omega
theorem small_95 (c : Int) : NC.smallZ c = 95 ↔ c = 95 := by unfold NC.smallZ; split <;> omega
theorem small_45 (c : Int) : NC.smallZ c = 45 ↔ c = 45 := by unfold NC.smallZ; split <;> omega
theorem small_digit (c : Int) : NC.digitZ (NC.smallZ c) = NC.digitZ c := by
  unfold NC.digitZ NC.smallZ
  split
  · exact decide_eq_decide.2 (by omega)
  · rfl
theorem small_letter (c : Int) : NC.letterZ (NC.smallZ c) = NC.letterZ c := by
  unfold NC.letterZ NC.smallZ
  split
  · exact decide_eq_decide.2 (by omega)
  · rfl
theorem small_small (c : Int) : NC.smallZ (NC.smallZ c) = NC.smallZ c := by
  by_cases h : (65 ≤ c ∧ c ≤ 90) ∨ (192 ≤ c ∧ c ≤ 222 ∧ c ≠ 215) ∨ (913 ≤ c ∧ c ≤ 937 ∧ c ≠ 930) ∨ (1040 ≤ c ∧ c ≤ 1071)
  · have e : NC.smallZ c = c + 32 := by unfold NC.smallZ; rw [if_pos h]
    rw [e]
    unfold NC.smallZ
    rw [if_neg (by omega)]
  · have e : NC.smallZ c = c := by unfold NC.smallZ; rw [if_neg h]
    rw [e, e]
theorem okC_small (b : Bool) (c : Int) : okC b (NC.smallZ c) = okC b c := by
  unfold okC
  have h1 : (NC.smallZ c == 95) = (c == 95) := by rw [Bool.eq_iff_iff]; simp [small_95]
  have h2 : (NC.smallZ c == 45) = (c == 45) := by rw [Bool.eq_iff_iff]; simp [small_45]
  rw [small_letter, small_digit, h1, h2]
theorem partR_small (l : List Int) : ∀ b, partR b (l.map NC.smallZ) = partR b l := by
  induction l with
  | nil => intro b; rfl
  | cons c r ih => intro b; rw [List.map_cons, partR_cons, partR_cons, ih, okC_small]
theorem splitQ_small (l : List Int) : splitQ (l.map NC.smallZ) = (splitQ l).map (List.map NC.smallZ) := by
  induction l with
  | nil => rfl
  | cons c r ih =>
    rw [List.map_cons]
    unfold splitQ
    by_cases h : c = 46
    · rw [if_pos ((small_46 c).2 h), if_pos h, ih]
      rfl
    · rw [if_neg (fun e => h ((small_46 c).1 e)), if_neg h, ih]
      cases splitQ r with
      | nil => rfl
      | cons a b => simp [prep]
theorem form_small (l : List Int) : NC.formL true (l.map NC.smallZ) = NC.formL true l := by
  rw [form_all, form_all, splitQ_small, List.all_map]
  congr 1
  funext x
  exact partR_small x true
theorem count_small (l : List Int) : (l.map NC.smallZ).count 46 = l.count 46 := by
  have h1 := splitQ_len (l.map NC.smallZ)
  have h2 := splitQ_len l
  rw [splitQ_small, List.length_map] at h1
  omega
/-- The folded bytes. -/
def foldL (l : List UInt8) : List UInt8 := if validD l = true then encL ((rD l).map NC.smallZ) else l
theorem fold_data (s : ByteArray) : (NC.foldB s).data.toList = foldL s.data.toList := fold_list s
theorem map_ok (l : List Int) (h : ∀ c ∈ l, okR c) : ∀ c ∈ l.map NC.smallZ, okR c := by
  intro c hc
  obtain ⟨x, hx, rfl⟩ := List.mem_map.1 hc
  exact smallZ_ok x (h x hx)
theorem fold_valid (l : List UInt8) (hv : validD l = true) : validD (foldL l) = true ∧ rD (foldL l) = (rD l).map NC.smallZ := by
  unfold foldL
  rw [if_pos hv]
  exact enc_all _ (map_ok _ (rD_ok l hv))
theorem fold_valid_eq (l : List UInt8) : validD (foldL l) = validD l := by
  by_cases hv : validD l = true
  · rw [(fold_valid l hv).1, hv]
  · unfold foldL
    rw [if_neg hv]
theorem fold_fold (l : List UInt8) : foldL (foldL l) = foldL l := by
  by_cases hv : validD l = true
  · obtain ⟨h1, h2⟩ := fold_valid l hv
    have e : foldL (foldL l) = encL ((rD (foldL l)).map NC.smallZ) := by rw [foldL, if_pos h1]
    rw [e, h2, List.map_map]
    have : (NC.smallZ ∘ NC.smallZ) = NC.smallZ := funext small_small
    rw [this, foldL, if_pos hv]
  · have e : foldL l = l := by unfold foldL; rw [if_neg hv]
    rw [e, e]
theorem foldB_foldB (s : ByteArray) : NC.foldB (NC.foldB s) = NC.foldB s := ba_ext (by rw [fold_data, fold_data, fold_fold])
theorem enc_nil (l : List Int) : encL l = [] ↔ l = [] := by
  cases l with
  | nil => simp [encL]
  | cons c r => simp only [encL_cons]; exact ⟨fun h => absurd h (enc_ne c _), fun h => by cases h⟩
theorem rD_nil_iff (l : List UInt8) : rD l = [] ↔ l = [] := by
  constructor
  · intro h
    by_cases hne : l = []
    · exact hne
    · rw [rD_step l hne] at h; cases h
  · rintro rfl; rfl
theorem empty_iff {α : Type} (l : List α) : l.isEmpty = true ↔ l = [] := by cases l <;> simp
theorem chk_fold (l : List UInt8) : chk (foldL l) = chk l := by
  by_cases hv : validD l = true
  · obtain ⟨h1, h2⟩ := fold_valid l hv
    have he : (foldL l).isEmpty = l.isEmpty := by
      rw [Bool.eq_iff_iff, empty_iff, empty_iff, ← rD_nil_iff (foldL l), h2, List.map_eq_nil_iff, rD_nil_iff]
    unfold chk
    rw [h1, h2, he, hv, form_small, count_small, List.length_map]
  · have e : foldL l = l := by unfold foldL; rw [if_neg hv]
    rw [e]
/-! ### orders -/
theorem cmpL_self (l : List Int) : NC.cmpL l l = 0 := by
  induction l with
  | nil => rfl
  | cons a r ih => simp [NC.cmpL, ih]
theorem cmpL_zero : ∀ l m : List Int, NC.cmpL l m = 0 ↔ l = m := by
  intro l
  induction l with
  | nil => intro m; cases m <;> simp [NC.cmpL]
  | cons a r ih =>
    intro m
    cases m with
    | nil => simp [NC.cmpL]
    | cons b q =>
      rw [NC.cmpL]
      by_cases h1 : a < b
      · rw [if_pos h1]
        constructor
        · intro h; omega
        · intro h; injection h with h _; omega
      · rw [if_neg h1]
        by_cases h2 : a > b
        · rw [if_pos h2]
          constructor
          · intro h; omega
          · intro h; injection h with h _; omega
        · rw [if_neg h2, ih]
          have : a = b := by omega
          subst this
          simp
theorem cmpL_neg : ∀ l m : List Int, NC.cmpL l m = -(NC.cmpL m l) := by
  intro l
  induction l with
  | nil => intro m; cases m <;> rfl
  | cons a r ih =>
    intro m
    cases m with
    | nil => rfl
    | cons b q =>
      rw [NC.cmpL, NC.cmpL]
      by_cases h1 : a < b
      · rw [if_pos h1, if_neg (by omega), if_pos (by omega)]
      · rw [if_neg h1]
        by_cases h2 : a > b
        · rw [if_pos h2, if_pos (by omega)]; rfl
        · rw [if_neg h2, if_neg (by omega), if_neg (by omega), ih]
theorem cmpL_range : ∀ l m : List Int, NC.cmpL l m = -1 ∨ NC.cmpL l m = 0 ∨ NC.cmpL l m = 1 := by
  intro l
  induction l with
  | nil => intro m; cases m <;> simp [NC.cmpL]
  | cons a r ih =>
    intro m
    cases m with
    | nil => simp [NC.cmpL]
    | cons b q =>
      rw [NC.cmpL]
      split
      · simp
      · split
        · simp
        · exact ih q
theorem cmpL_trans : ∀ l m n : List Int, NC.cmpL l m < 0 → NC.cmpL m n < 0 → NC.cmpL l n < 0 := by
  intro l
  induction l with
  | nil =>
    intro m n h1 h2
    cases n with
    | nil => cases m <;> simp [NC.cmpL] at h1 h2
    | cons c p => simp [NC.cmpL]
  | cons a r ih =>
    intro m n h1 h2
    cases m with
    | nil => simp [NC.cmpL] at h1
    | cons b q =>
      cases n with
      | nil => simp [NC.cmpL] at h2
      | cons c p =>
        rw [NC.cmpL] at h1 h2 ⊢
        by_cases a1 : a < b
        · by_cases b1 : b < c
          · rw [if_pos (by omega)]; decide
          · rw [if_neg b1] at h2
            by_cases b2 : b > c
            · rw [if_pos b2] at h2; omega
            · rw [if_pos (by omega)]; decide
        · rw [if_neg a1] at h1
          by_cases a2 : a > b
          · rw [if_pos a2] at h1; omega
          · rw [if_neg a2] at h1
            by_cases b1 : b < c
            · rw [if_pos (by omega)]; decide
            · rw [if_neg b1] at h2
              by_cases b2 : b > c
              · rw [if_pos b2] at h2; omega
              · rw [if_neg b2] at h2
                rw [if_neg (by omega), if_neg (by omega)]
                exact ih q p h1 h2
/-- How two lists of bytes stand, folded. -/
def cmpV (x y : List UInt8) : Int :=
  if validD x = true ∧ validD y = true then NC.cmpL (rD x) (rD y) else NC.cmpL (x.map fun b => (b.toNat : Int)) (y.map fun b => (b.toNat : Int))
theorem ofNat_inj : ∀ x y : List UInt8, (x.map fun b => (b.toNat : Int)) = (y.map fun b => (b.toNat : Int)) ↔ x = y := by
  intro x
  induction x with
  | nil => intro y; cases y <;> simp
  | cons a r ih =>
    intro y
    cases y with
    | nil => simp
    | cons b q =>
      simp only [List.map_cons, List.cons.injEq, ih]
      constructor
      · rintro ⟨h, rfl⟩; exact ⟨UInt8.toNat_inj.1 (by omega), rfl⟩
      · rintro ⟨rfl, rfl⟩; exact ⟨rfl, rfl⟩
theorem cmpV_zero (x y : List UInt8) : cmpV x y = 0 ↔ x = y := by
  unfold cmpV
  split
  · rename_i h
    rw [cmpL_zero]
    constructor
    · intro e
      rw [← dec_enc_all x h.1, ← dec_enc_all y h.2, e]
    · rintro rfl; rfl
  · rw [cmpL_zero, ofNat_inj]
theorem cmpV_neg (x y : List UInt8) : cmpV x y = -(cmpV y x) := by
  unfold cmpV
  by_cases h : validD x = true ∧ validD y = true
  · rw [if_pos h, if_pos ⟨h.2, h.1⟩, cmpL_neg]
  · rw [if_neg h, if_neg (fun e => h ⟨e.2, e.1⟩), cmpL_neg]
theorem cmpV_range (x y : List UInt8) : cmpV x y = -1 ∨ cmpV x y = 0 ∨ cmpV x y = 1 := by
  unfold cmpV
  split
  · exact cmpL_range _ _
  · exact cmpL_range _ _
theorem cmpRune_is (a b : Int) : cmp_Compare_rune.f a b = some (if a < b then -1 else if a > b then 1 else 0) := by
  unfold cmp_Compare_rune.f cmp_isNaN_rune.f
  simp
  repeat' split
  all_goals first | rfl | omega
theorem slices_Compare_l (l m : List Int) (hl : l.length ≤ 1000000000) (hm : m.length ≤ 1000000000) : ∀ (d i k : Nat), l.length - i ≤ d → d + 1 ≤ k → i ≤ l.length → i ≤ m.length →
    slices_Compare_rune_rune.l0 k l m l (l.length : Int) (i : Int) = some (NC.cmpL (l.drop i) (m.drop i)) := by
  intro d
  induction d with
  | zero =>
    intro i k hd hk hi him
    obtain ⟨k, rfl⟩ : ∃ m, k = m + 1 := ⟨k - 1, by omega⟩
    rw [slices_Compare_rune_rune.l0, if_neg (by omega), NC.cmpL_lens l m i (Or.inl (by omega)) hi him]
    by_cases h : l.length < m.length
    · rw [if_pos (by omega), if_pos h]
    · rw [if_neg (by omega), if_neg h, if_neg (by omega)]
  | succ d ih =>
    intro i k hd hk hi him
    obtain ⟨k, rfl⟩ : ∃ m, k = m + 1 := ⟨k - 1, by omega⟩
    by_cases hlt : i < l.length
    · have hw : wrap64 ((i : Int) + 1) = ((i + 1 : Nat) : Int) := by rw [wr _ (by omega) (by omega)]; omega
      rw [slices_Compare_rune_rune.l0, if_pos (by omega), if_pos (by omega), if_pos (by omega)]
      by_cases hme : i < m.length
      · have hr : rd l (i : Int) = l.getD i 0 := by simp [rd]
        have hr2 : rd m (i : Int) = m.getD i 0 := by simp [rd]
        rw [if_neg (by omega), if_pos (by omega), cmpRune_is, Option.bind_some, hr, hr2, NC.cmpL_step l m i hlt hme]
        by_cases c1 : l.getD i 0 < m.getD i 0
        · rw [if_pos c1, if_pos c1, if_neg (by decide)]
        · rw [if_neg c1, if_neg c1]
          by_cases c2 : l.getD i 0 > m.getD i 0
          · rw [if_pos c2, if_pos c2, if_neg (by decide)]
          · rw [if_neg c2, if_neg c2, if_pos rfl, hw, ih _ _ (by omega) (by omega) (by omega) (by omega)]
      · rw [if_pos (by omega), NC.cmpL_lens l m i (Or.inr (by omega)) hi him, if_neg (by omega), if_pos (by omega)]
    · rw [slices_Compare_rune_rune.l0, if_neg (by omega), NC.cmpL_lens l m i (Or.inl (by omega)) hi him]
      by_cases h : l.length < m.length
      · rw [if_pos (by omega), if_pos h]
      · rw [if_neg (by omega), if_neg h, if_neg (by omega)]
theorem slices_Compare_is (l m : List Int) (hl : l.length ≤ 1000000000) (hm : m.length ≤ 1000000000) (k : Nat) (hk : l.length + 1 ≤ k) : slices_Compare_rune_rune.f k l m = some (NC.cmpL l m) := by
  have := slices_Compare_l l m hl hm l.length 0 k (by omega) hk (by omega) (by omega)
  rw [List.drop_zero, List.drop_zero] at this
  exact this
theorem bytesLess_cmp : ∀ x y : List UInt8, (if Op.bytesLess x y = true then (-1 : Int) else if (x == y) = true then 0 else 1) = NC.cmpL (x.map fun b => (b.toNat : Int)) (y.map fun b => (b.toNat : Int)) := by
  intro x
  induction x with
  | nil => intro y; cases y <;> simp [Op.bytesLess, NC.cmpL]
  | cons a r ih =>
    intro y
    cases y with
    | nil => simp [Op.bytesLess, NC.cmpL]
    | cons b q =>
      rw [List.map_cons, List.map_cons, NC.cmpL, ← ih q, Op.bytesLess]
      by_cases h1 : a < b
      · have : (a.toNat : Int) < (b.toNat : Int) := by have := UInt8.lt_iff_toNat_lt.1 h1; omega
        rw [if_pos this]
        simp [h1]
      · have n1 : ¬ (a.toNat : Int) < (b.toNat : Int) := fun h => h1 (UInt8.lt_iff_toNat_lt.2 (by omega))
        rw [if_neg n1]
        by_cases h2 : a = b
        · subst h2
          rw [if_neg (show ¬ ((a.toNat : Int) > (a.toNat : Int)) from Int.lt_irrefl _)]
          have e1 : (decide (a < a) || (a == a && Op.bytesLess r q)) = Op.bytesLess r q := by simp [h1]
          have e2 : ((a :: r) == (a :: q)) = (r == q) := by rw [Bool.eq_iff_iff]; simp
          rw [e1, e2]
        · have h3 : (a.toNat : Int) > (b.toNat : Int) := by
            have : a.toNat ≠ b.toNat := fun e => h2 (UInt8.toNat_inj.1 e)
            omega
          rw [if_pos h3]
          simp [h1, h2]
theorem name_Compare_is (a b : ByteArray) (ha : a.size ≤ 100000000) (hb : b.size ≤ 100000000) (k : Nat) (hk : 4 * a.size + 1 ≤ k) : name_Compare.f k a b = some (cmpV (foldL a.data.toList) (foldL b.data.toList)) := by
  unfold name_Compare.f cmpV
  have za := fold_size a
  have zb := fold_size b
  have la := rD_len (NC.foldB a)
  have lb := rD_len (NC.foldB b)
  rw [if_pos (by omega), if_pos (by omega), runes_rD, runes_rD, ← fold_data, ← fold_data]
  have hc : ∀ x y : ByteArray, cmp_Compare_string.f x y = some (NC.cmpL (x.data.toList.map fun b => (b.toNat : Int)) (y.data.toList.map fun b => (b.toNat : Int))) := by
    intro x y
    unfold cmp_Compare_string.f
    rw [toList_data, toList_data, ← bytesLess_cmp]
    split
    · rfl
    · split <;> rfl
  by_cases h1 : validD (NC.foldB a).data.toList = true
  · rw [if_pos h1]
    by_cases h2 : validD (NC.foldB b).data.toList = true
    · rw [if_pos h2, if_pos ⟨h1, h2⟩, slices_Compare_is _ _ (by omega) (by omega) k (by omega)]
    · rw [if_neg h2, if_neg (fun h => h2 h.2), hc]
  · rw [if_neg h1, if_neg (fun h => h1 h.1), hc]
theorem ref_Compare_is (a b : ByteArray) (ha : a.size ≤ 100000000) (hb : b.size ≤ 100000000) (k : Nat) (hk : 4 * a.size + 5 ≤ k) (hk2 : 4 * b.size + 5 ≤ k) : caduceusref02_Compare.f k a b = some (cmpV (foldL a.data.toList) (foldL b.data.toList)) := by
  unfold caduceusref02_Compare.f cmpV
  have za := fold_size a
  have zb := fold_size b
  rw [ref_Fold_is a (by omega) k (by omega), Option.bind_some, ref_Fold_is b (by omega) k (by omega), Option.bind_some, if_pos (by omega), if_pos (by omega), ref_Valid_is _ (by omega) k (by omega), Option.bind_some, ← fold_data, ← fold_data]
  have hb' : ∀ x : ByteArray, bytesOf x = x.data.toList.map fun b => (b.toNat : Int) := fun _ => rfl
  by_cases h1 : validD (NC.foldB a).data.toList = true
  · rw [if_pos h1, ref_Valid_is _ (by omega) k (by omega), Option.bind_some]
    by_cases h2 : validD (NC.foldB b).data.toList = true
    · rw [if_pos h2, if_pos ⟨h1, h2⟩, ref_Runes_is _ (by omega) k (by omega) h1, Option.bind_some, ref_Runes_is _ (by omega) k (by omega) h2, Option.bind_some]
    · rw [if_neg h2, if_neg (fun h => h2 h.2), hb', hb']
  · rw [if_neg h1, if_neg (fun h => h1 h.1), hb', hb']
theorem name_Same_is (a b : ByteArray) (ha : a.size ≤ 100000000) (hb : b.size ≤ 100000000) : name_Same.f a b = some (foldL a.data.toList == foldL b.data.toList) := by
  unfold name_Same.f
  rw [name_Fold_is a (by omega), Option.bind_some, name_Fold_is b (by omega), Option.bind_some, toList_data, toList_data, fold_data, fold_data]
end Go.Proofs.YtiaacpjibhnhiaaDoor.NQ
