/- The same texts; what is under what. -/
import Derived.Test.YtiaacpjibhnhiaaDoorNV
namespace Go.Proofs.YtiaacpjibhnhiaaDoor.NQ
open Go.RowKit Go.Lib Go.Proofs.YtiaacpjibhnhiaaDoor.PAll Go.Proofs.YtiaacpjibhnhiaaDoorW.PrintWords Go.Proofs.YtiaacpjibhnhiaaDoorW.PrintLast Go.Proofs.YtiaacpjibhnhiaaDoorW.PrintMore
set_option linter.unusedVariables false
set_option linter.unusedSimpArgs false
/-! ### the same texts -/
theorem SameTexts_l (l : List ByteArray) (hl : l.length ≤ 1000000) : ∀ (d i k : Nat), l.length - i ≤ d → d + 1 ≤ k → i ≤ l.length → caduceusref01_SameTexts.l0 k l l (i : Int) = some true := by
  intro d
  induction d with
  | zero =>
    intro i k hd hk hi
    obtain ⟨k, rfl⟩ : ∃ m, k = m + 1 := ⟨k - 1, by omega⟩
    rw [caduceusref01_SameTexts.l0, if_neg (by omega)]
  | succ d ih =>
    intro i k hd hk hi
    obtain ⟨k, rfl⟩ : ∃ m, k = m + 1 := ⟨k - 1, by omega⟩
    by_cases hlt : i < l.length
    · have hw : wrap64 ((i : Int) + 1) = ((i + 1 : Nat) : Int) := by rw [wr _ (by omega) (by omega)]; omega
      rw [caduceusref01_SameTexts.l0, if_pos (by omega), if_pos (by omega), if_pos (by omega), if_pos rfl, hw, ih _ _ (by omega) (by omega) (by omega)]
    · rw [caduceusref01_SameTexts.l0, if_neg (by omega)]
theorem SameTexts_is (l : List ByteArray) (hl : l.length ≤ 1000000) (k : Nat) (hk : l.length + 1 ≤ k) : caduceusref01_SameTexts.f k l l = some true := by
  unfold caduceusref01_SameTexts.f
  rw [if_pos rfl]
  exact SameTexts_l l hl l.length 0 k (by omega) hk (by omega)
/-! ### under -/
theorem rdOf_get (l : List ByteArray) (i : Nat) (h : i < l.length) : rdOf ByteArray.empty l (i : Int) = l[i] := by simp [rdOf, List.getD_eq_getElem?_getD, h]
theorem ba_toList (a b : ByteArray) : a.toList = b.toList ↔ a = b := by
  rw [toList_data, toList_data]
  exact ⟨ba_ext, fun h => by rw [h]⟩
theorem drop_eq (a b : List ByteArray) (i : Nat) (h1 : i < a.length) (h2 : i < b.length) : a.drop i = b.drop i ↔ a[i] = b[i] ∧ a.drop (i + 1) = b.drop (i + 1) := by
  rw [List.drop_eq_getElem_cons h1, List.drop_eq_getElem_cons h2, List.cons.injEq]
theorem slices_Equal_l (a b : List ByteArray) (hl : a.length ≤ 1000000) (he : a.length = b.length) : ∀ (d i k : Nat), a.length - i ≤ d → d + 1 ≤ k → i ≤ a.length → slices_Equal_string_string.l0 k a b (a.length : Int) (i : Int) = some (decide (a.drop i = b.drop i)) := by
  intro d
  induction d with
  | zero =>
    intro i k hd hk hi
    obtain ⟨k, rfl⟩ : ∃ m, k = m + 1 := ⟨k - 1, by omega⟩
    rw [slices_Equal_string_string.l0, if_neg (by omega), List.drop_eq_nil_of_le (by omega), List.drop_eq_nil_of_le (by omega)]
    simp
  | succ d ih =>
    intro i k hd hk hi
    obtain ⟨k, rfl⟩ : ∃ m, k = m + 1 := ⟨k - 1, by omega⟩
    by_cases hlt : i < a.length
    · have hw : wrap64 ((i : Int) + 1) = ((i + 1 : Nat) : Int) := by rw [wr _ (by omega) (by omega)]; omega
      rw [slices_Equal_string_string.l0, if_pos (by omega), if_pos (by omega), if_pos (by omega), if_pos (by omega), rdOf_get a i hlt, rdOf_get b i (by omega)]
      by_cases hx : a[i] = b[i]
      · rw [if_pos ((ba_toList _ _).2 hx), hw, ih _ _ (by omega) (by omega) (by omega)]
        congr 1
        rw [decide_eq_decide, drop_eq a b i hlt (by omega)]
        exact ⟨fun h => ⟨hx, h⟩, fun h => h.2⟩
      · rw [if_neg (fun h => hx ((ba_toList _ _).1 h))]
        congr 1
        symm
        rw [decide_eq_false_iff_not, drop_eq a b i hlt (by omega)]
        exact fun h => hx h.1
    · rw [slices_Equal_string_string.l0, if_neg (by omega), List.drop_eq_nil_of_le (by omega), List.drop_eq_nil_of_le (by omega)]
      simp
theorem slices_Equal_is (a b : List ByteArray) (hl : a.length ≤ 1000000) (k : Nat) (hk : a.length + 1 ≤ k) : slices_Equal_string_string.f k a b = some (decide (a = b)) := by
  unfold slices_Equal_string_string.f
  by_cases he : a.length = b.length
  · rw [if_pos (by omega)]
    have := slices_Equal_l a b hl he a.length 0 k (by omega) hk (by omega)
    rw [List.drop_zero, List.drop_zero] at this
    exact this
  · rw [if_neg (by omega)]
    congr 1
    symm
    rw [decide_eq_false_iff_not]
    rintro rfl
    exact he rfl
/-- Is one list of parts the other one's beginning? -/
def underL (a b : List ByteArray) : Bool := decide (0 < b.length ∧ b.length ≤ a.length ∧ a.take b.length = b)
theorem partsB_len (s : ByteArray) : (partsB s).length ≤ 5 := by
  by_cases h : chk s.data.toList = 0
  · obtain ⟨_, _, _, _, h4⟩ := chk_valid' _ h
    have := congrArg List.length (partsB_data s h)
    rw [List.length_map, List.length_map, splitQ_len] at this
    omega
  · unfold partsB
    rw [if_neg h]
    simp
theorem name_Under_is (a b : ByteArray) (ha : a.size ≤ 100000) (hb : b.size ≤ 100000) (k : Nat) (hk : 10 ≤ k) : name_Under.f k a b = some (underL (partsB (NC.foldB a)) (partsB (NC.foldB b))) := by
  have za := fold_size a
  have zb := fold_size b
  unfold name_Under.f underL
  rw [name_Fold_is a (by omega), Option.bind_some, name_Parts_is _ (by omega), Option.bind_some, name_Fold_is b (by omega), Option.bind_some, name_Parts_is _ (by omega), Option.bind_some]
  have la := partsB_len (NC.foldB a)
  have lb := partsB_len (NC.foldB b)
  generalize partsB (NC.foldB a) = p at la ⊢
  generalize partsB (NC.foldB b) = q at lb ⊢
  by_cases h1 : q.length ≤ p.length
  · rw [if_pos (by omega)]
    by_cases h2 : 0 < q.length
    · rw [if_pos (by omega), if_pos (by omega), if_pos (by omega), Int.toNat_natCast, slices_Equal_is _ _ (by rw [List.length_take]; omega) k (by rw [List.length_take]; omega), Option.bind_some]
      congr 1
      rw [decide_eq_decide]
      exact ⟨fun h => ⟨h2, h1, h⟩, fun h => h.2.2⟩
    · rw [if_neg (by omega)]
      congr 1
      symm
      rw [decide_eq_false_iff_not]
      exact fun h => h2 h.1
  · rw [if_neg (by omega)]
    congr 1
    symm
    rw [decide_eq_false_iff_not]
    exact fun h => h1 h.2.1
theorem ref_Under_l (a b : List ByteArray) (hl : b.length ≤ 1000000) (he : b.length ≤ a.length) : ∀ (d i k : Nat), b.length - i ≤ d → d + 1 ≤ k → i ≤ b.length → caduceusref02_Under.l0 k a b (i : Int) = some (decide ((a.take b.length).drop i = b.drop i)) := by
  have ht : (a.take b.length).length = b.length := by rw [List.length_take]; omega
  intro d
  induction d with
  | zero =>
    intro i k hd hk hi
    obtain ⟨k, rfl⟩ : ∃ m, k = m + 1 := ⟨k - 1, by omega⟩
    rw [caduceusref02_Under.l0, if_neg (by omega), List.drop_eq_nil_of_le (by omega), List.drop_eq_nil_of_le (by omega)]
    simp
  | succ d ih =>
    intro i k hd hk hi
    obtain ⟨k, rfl⟩ : ∃ m, k = m + 1 := ⟨k - 1, by omega⟩
    by_cases hlt : i < b.length
    · have hw : wrap64 ((i : Int) + 1) = ((i + 1 : Nat) : Int) := by rw [wr _ (by omega) (by omega)]; omega
      have hg : (a.take b.length)[i]'(by omega) = a[i]'(by omega) := List.getElem_take
      rw [caduceusref02_Under.l0, if_pos (by omega), if_pos (by omega), if_pos (by omega), rdOf_get a i (by omega), rdOf_get b i hlt]
      by_cases hx : a[i]'(by omega) = b[i]
      · rw [if_pos ((ba_toList _ _).2 hx), hw, ih _ _ (by omega) (by omega) (by omega)]
        congr 1
        rw [decide_eq_decide, drop_eq _ b i (by omega) hlt, hg]
        exact ⟨fun h => ⟨hx, h⟩, fun h => h.2⟩
      · rw [if_neg (fun h => hx ((ba_toList _ _).1 h))]
        congr 1
        symm
        rw [decide_eq_false_iff_not, drop_eq _ b i (by omega) hlt, hg]
        exact fun h => hx h.1
    · rw [caduceusref02_Under.l0, if_neg (by omega), List.drop_eq_nil_of_le (by omega), List.drop_eq_nil_of_le (by omega)]
      simp
theorem ref_Under_is (a b : ByteArray) (ha : a.size ≤ 10000) (hb : b.size ≤ 10000) (k : Nat) (hk : 130001 ≤ k) : caduceusref02_Under.f k a b = some (underL (partsB (NC.foldB a)) (partsB (NC.foldB b))) := by
  have za := fold_size a
  have zb := fold_size b
  obtain ⟨k, rfl⟩ : ∃ m, k = m + 1 := ⟨k - 1, by omega⟩
  unfold caduceusref02_Under.f underL
  rw [ref_Fold_is a (by omega) _ (by omega), Option.bind_some, ref_Parts_is _ (by omega) _ (by omega), Option.bind_some, ref_Fold_is b (by omega) _ (by omega), Option.bind_some, ref_Parts_is _ (by omega) _ (by omega), Option.bind_some]
  have la := partsB_len (NC.foldB a)
  have lb := partsB_len (NC.foldB b)
  generalize partsB (NC.foldB a) = p at la ⊢
  generalize partsB (NC.foldB b) = q at lb ⊢
  by_cases h2 : 0 < q.length
  · rw [if_neg (by omega)]
    by_cases h1 : q.length ≤ p.length
    · rw [show decide ((p.length : Int) < (q.length : Int)) = false from decide_eq_false (by omega), caduceusref02_Under.j0, if_neg (by decide)]
      have := ref_Under_l p q (by omega) h1 q.length 0 k (by omega) (by omega) (by omega)
      rw [List.drop_zero, List.drop_zero] at this
      refine (show caduceusref02_Under.l0 k p q 0 = _ from this).trans ?_
      congr 1
      rw [decide_eq_decide]
      exact ⟨fun h => ⟨h2, h1, h⟩, fun h => h.2.2⟩
    · rw [show decide ((p.length : Int) < (q.length : Int)) = true from decide_eq_true (by omega), caduceusref02_Under.j0, if_pos rfl]
      congr 1
      symm
      rw [decide_eq_false_iff_not]
      exact fun h => h1 h.2.1
  · rw [if_pos (by omega), caduceusref02_Under.j0, if_pos rfl]
    congr 1
    symm
    rw [decide_eq_false_iff_not]
    exact fun h => h2 h.1
end Go.Proofs.YtiaacpjibhnhiaaDoor.NQ
