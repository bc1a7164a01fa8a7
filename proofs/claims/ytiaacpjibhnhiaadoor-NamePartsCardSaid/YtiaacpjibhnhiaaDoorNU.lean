/- Parts of names, and what is under what: the document's and the program's. -/
import Derived.Test.YtiaacpjibhnhiaaDoorNT
namespace Go.Proofs.YtiaacpjibhnhiaaDoor.NQ
open Go.RowKit Go.Lib Go.Proofs.YtiaacpjibhnhiaaDoor.PAll Go.Proofs.YtiaacpjibhnhiaaDoorW.PrintWords Go.Proofs.YtiaacpjibhnhiaaDoorW.PrintLast Go.Proofs.YtiaacpjibhnhiaaDoorW.PrintMore
set_option linter.unusedVariables false
set_option linter.unusedSimpArgs false
/-- Bytes cut at each point. -/
def splitP : List UInt8 → List (List UInt8)
  | [] => [[]]
  | b :: l => if b = 46 then [] :: splitP l else prep [b] (splitP l)
theorem index_cons (b : UInt8) (l : List UInt8) : index (b :: l) [46] = if b = 46 then 0 else if index l [46] == -1 then -1 else index l [46] + 1 := by
  rw [index]
  by_cases h : b = 46
  · subst h; simp
  · have : ([46] : List UInt8).isPrefixOf (b :: l) = false := by simp [List.isPrefixOf, Ne.symm h]
    rw [this, if_neg h]
    simp
theorem index_ge : ∀ l : List UInt8, -1 ≤ index l [46] := by
  intro l
  induction l with
  | nil => decide
  | cons b l ih =>
    rw [index_cons]
    split
    · decide
    · split
      · decide
      · omega
theorem splitK_cons (b : UInt8) (hb : b ≠ 46) (l : List UInt8) : ∀ k, splitK [46] 0 k (b :: l) = prep [b] (splitK [46] 0 k l) := by
  intro k
  cases k with
  | zero => rfl
  | succ k =>
    have hg := index_ge l
    rw [splitK, splitK, index_cons, if_neg hb]
    by_cases h : (index l [46] == -1) = true
    · rw [if_pos h, if_pos h]
      rfl
    · rw [if_neg h, if_neg h]
      have h' : index l [46] ≠ -1 := by simpa using h
      obtain ⟨n, hn⟩ : ∃ n : Nat, index l [46] = n := ⟨(index l [46]).toNat, by omega⟩
      rw [hn]
      have h1 : ((n : Int) + 1 == -1) = false := by simp; omega
      rw [h1, if_neg (by decide)]
      have e1 : ((n : Int) + 1).toNat = n + 1 := by omega
      rw [e1, Int.toNat_natCast]
      simp [prep, List.take_succ_cons, Nat.add_right_comm]
theorem splitK_P : ∀ l : List UInt8, splitK [46] 0 (l.count 46) l = splitP l := by
  intro l
  induction l with
  | nil => rfl
  | cons b l ih =>
    unfold splitP
    by_cases h : b = 46
    · subst h
      rw [if_pos rfl, List.count_cons_self, splitK, index_cons, if_pos rfl, if_neg (by decide)]
      simp only [Int.toNat_zero, Nat.zero_add, List.take_zero, List.length_cons, List.length_nil, Nat.reduceAdd, List.drop_one, List.tail_cons]
      rw [ih]
    · rw [if_neg h, List.count_cons_of_ne (by simpa using h), splitK_cons b h, ih]
theorem splitP_app (bs l : List UInt8) (h : (46 : UInt8) ∉ bs) : splitP (bs ++ l) = prep bs (splitP l) := by
  induction bs with
  | nil => rw [List.nil_append, prep_nil]
  | cons b bs ih =>
    have hb : b ≠ 46 := fun e => h (by rw [e]; exact List.mem_cons_self)
    rw [List.cons_append, splitP, if_neg hb, ih (fun e => h (List.mem_cons_of_mem _ e)), prep_prep]
    rfl
theorem splitP_enc (ns : List Int) (h : ∀ c ∈ ns, okR c) : splitP (encL ns) = (splitQ ns).map encL := by
  induction ns with
  | nil => rfl
  | cons c r ih =>
    have ih := ih fun x hx => h x (List.mem_cons_of_mem _ hx)
    have hc := h c List.mem_cons_self
    rw [encL_cons]
    unfold splitQ
    by_cases h46 : c = 46
    · subst h46
      rw [enc_46, if_pos rfl, List.cons_append, List.nil_append, splitP, if_pos rfl, ih]
      rfl
    · rw [if_neg h46, splitP_app _ _ (enc46 c hc h46), ih]
      obtain ⟨a, t, e⟩ := splitQ_head r
      rw [e]
      simp [prep, encL]
/-- A name's parts. -/
def partsB (s : ByteArray) : List ByteArray := if chk s.data.toList = 0 then Lib.splitB ⟨#[46]⟩ 0 (Lib.countB s ⟨#[46]⟩) s else []
theorem name_Parts_is (s : ByteArray) (hs : s.size ≤ 1000000) : name_Parts.f s = some (partsB s) := by
  unfold name_Parts.f partsB strings_Split.f
  rw [name_Check_is s (by omega), Option.bind_some]
  by_cases h : chk s.data.toList = 0
  · rw [if_pos h, if_pos h, if_pos rfl, if_pos (by omega), Option.bind_some]
  · rw [if_neg h, if_neg h]
theorem chk_valid' (l : List UInt8) (h : chk l = 0) : l ≠ [] ∧ validD l = true ∧ NC.formL true (rD l) = true ∧ (rD l).length ≤ 40 ∧ (rD l).count 46 ≤ 4 := by
  unfold chk at h
  by_cases hf : (!l.isEmpty && validD l && NC.formL true (rD l)) = true
  · rw [if_pos hf] at h
    simp only [Bool.and_eq_true] at hf
    refine ⟨?_, hf.1.2, hf.2, ?_, ?_⟩
    · have := hf.1.1
      cases l with
      | nil => simp at this
      | cons a b => simp
    · by_cases h1 : 40 < (rD l).length ∨ 5 ≤ (rD l).count 46
      · rw [if_pos h1] at h; cases h
      · omega
    · by_cases h1 : 40 < (rD l).length ∨ 5 ≤ (rD l).count 46
      · rw [if_pos h1] at h; cases h
      · omega
  · rw [if_neg hf] at h
    cases h
theorem chk_mk (l : List UInt8) (h0 : l ≠ []) (hv : validD l = true) (hf : NC.formL true (rD l) = true) (h1 : (rD l).length ≤ 40) (h2 : (rD l).count 46 ≤ 4) : chk l = 0 := by
  unfold chk
  have he : l.isEmpty = false := by cases l with | nil => exact absurd rfl h0 | cons a b => rfl
  rw [he, hv, hf, if_pos (by decide), if_neg (by omega)]
theorem partsB_data (s : ByteArray) (h : chk s.data.toList = 0) : (partsB s).map (·.data.toList) = (splitQ (rD s.data.toList)).map encL := by
  obtain ⟨_, hv, _, _, _⟩ := chk_valid' _ h
  unfold partsB
  rw [if_pos h, splitB_data]
  have hc : Lib.countB s ⟨#[46]⟩ = s.data.toList.count 46 := count_one 46 s.data.toList
  rw [hc]
  show splitK [46] 0 _ _ = _
  rw [splitK_P, ← splitP_enc _ (rD_ok _ hv), dec_enc_all _ hv]
theorem ba_map : ∀ a b : List ByteArray, a.map (·.data.toList) = b.map (·.data.toList) → a = b := by
  intro a
  induction a with
  | nil => intro b h; cases b with | nil => rfl | cons x y => simp at h
  | cons x r ih =>
    intro b h
    cases b with
    | nil => simp at h
    | cons y q =>
      simp only [List.map_cons, List.cons.injEq] at h
      rw [ba_ext h.1, ih q h.2]
end Go.Proofs.YtiaacpjibhnhiaaDoor.NQ
