/- Forms, parts and orders of the layer 'name': what the document's functions, and the program's, come to. -/
import Derived.Test.YtiaacpjibhnhiaaDoorNR
namespace Go.Proofs.YtiaacpjibhnhiaaDoor.NQ
open Go.RowKit Go.Lib Go.Proofs.YtiaacpjibhnhiaaDoor.PAll Go.Proofs.YtiaacpjibhnhiaaDoorW.PrintWords Go.Proofs.YtiaacpjibhnhiaaDoorW.PrintLast Go.Proofs.YtiaacpjibhnhiaaDoorW.PrintMore
set_option linter.unusedVariables false
set_option linter.unusedSimpArgs false
theorem ref_Letter_is (k : Nat) (c : Int) (hk : 2 ≤ k) : caduceusref02_Letter.f k c = some (NC.letterZ c) := by
  obtain ⟨k, rfl⟩ : ∃ m, k = m + 2 := ⟨k - 2, by omega⟩
  unfold caduceusref02_Letter.f
  simp only [caduceusref02_Letter.j0, caduceusref02_Letter.j1, decide_eq_true_eq, Bool.false_eq_true, if_false, if_true]
  have e : ∀ b : Bool, b = NC.letterZ c → (some b : Option Bool) = some (NC.letterZ c) := fun b h => by rw [h]
  have t : ((65 ≤ c ∧ c ≤ 90) ∨ (97 ≤ c ∧ c ≤ 122) ∨ (192 ≤ c ∧ c ≤ 591 ∧ c ≠ 215 ∧ c ≠ 247) ∨ (913 ≤ c ∧ c ≤ 937 ∧ c ≠ 930) ∨ (945 ≤ c ∧ c ≤ 969) ∨ (1040 ≤ c ∧ c ≤ 1103) ∨ (19968 ≤ c ∧ c ≤ 40959)) → true = NC.letterZ c := fun h => (decide_eq_true h).symm
  have f : ¬ ((65 ≤ c ∧ c ≤ 90) ∨ (97 ≤ c ∧ c ≤ 122) ∨ (192 ≤ c ∧ c ≤ 591 ∧ c ≠ 215 ∧ c ≠ 247) ∨ (913 ≤ c ∧ c ≤ 937 ∧ c ≠ 930) ∨ (945 ≤ c ∧ c ≤ 969) ∨ (1040 ≤ c ∧ c ≤ 1103) ∨ (19968 ≤ c ∧ c ≤ 40959)) → false = NC.letterZ c := fun h => (decide_eq_false h).symm
  by_cases a1 : 65 ≤ c ∧ c ≤ 90
  · repeat (first | rw [if_pos (by omega)] | rw [if_neg (by omega)])
    exact e _ (t (by omega))
  by_cases a2 : 97 ≤ c ∧ c ≤ 122
  · repeat (first | rw [if_pos (by omega)] | rw [if_neg (by omega)])
    exact e _ (t (by omega))
  by_cases a3 : 192 ≤ c ∧ c ≤ 591
  · by_cases b1 : c = 215
    · subst b1; rfl
    by_cases b2 : c = 247
    · subst b2; rfl
    repeat (first | rw [if_pos (by omega)] | rw [if_neg (by omega)])
    exact e _ ((by simp [b2] : (c != 247) = true).trans (t (by omega)))
  by_cases a4 : 913 ≤ c ∧ c ≤ 937
  · by_cases b1 : c = 930
    · subst b1; rfl
    repeat (first | rw [if_pos (by omega)] | rw [if_neg (by omega)])
    exact e _ ((by simp [b1] : (c != 930) = true).trans (t (by omega)))
  by_cases a5 : 945 ≤ c ∧ c ≤ 969
  · repeat (first | rw [if_pos (by omega)] | rw [if_neg (by omega)])
    exact e _ (t (by omega))
  by_cases a6 : 1040 ≤ c ∧ c ≤ 1103
  · repeat (first | rw [if_pos (by omega)] | rw [if_neg (by omega)])
    exact e _ (t (by omega))
  by_cases a7 : 19968 ≤ c ∧ c ≤ 40959
  · repeat (first | rw [if_pos (by omega)] | rw [if_neg (by omega)])
    exact e _ ((decide_eq_true a7.2).trans (t (by omega)))
  by_cases g1 : c < 65
  · repeat (first | rw [if_pos (by omega)] | rw [if_neg (by omega)])
    exact e _ (f (by omega))
  by_cases g2 : c < 97
  · repeat (first | rw [if_pos (by omega)] | rw [if_neg (by omega)])
    exact e _ (f (by omega))
  by_cases g3 : c < 192
  · repeat (first | rw [if_pos (by omega)] | rw [if_neg (by omega)])
    exact e _ (f (by omega))
  by_cases g4 : c < 913
  · repeat (first | rw [if_pos (by omega)] | rw [if_neg (by omega)])
    exact e _ (f (by omega))
  by_cases g5 : c < 945
  · repeat (first | rw [if_pos (by omega)] | rw [if_neg (by omega)])
    exact e _ (f (by omega))
  by_cases g6 : c < 1040
  · repeat (first | rw [if_pos (by omega)] | rw [if_neg (by omega)])
    exact e _ (f (by omega))
  by_cases g7 : c < 19968
  · repeat (first | rw [if_pos (by omega)] | rw [if_neg (by omega)])
    exact e _ (f (by omega))
  · repeat (first | rw [if_pos (by omega)] | rw [if_neg (by omega)])
    exact e _ ((decide_eq_false (by omega)).trans (f (by omega)))
theorem count_from (s : ByteArray) : ∀ f i, runeCountFrom s f i = (NC.runesL s f i).length := by
  intro f
  induction f with
  | zero => intro i; rfl
  | succ f ih =>
    intro i
    simp only [runeCountFrom, NC.runesL]
    split
    · rw [ih]; simp; omega
    · rfl
theorem runeCount_is (s : ByteArray) : runeCount s = (rD s.data.toList).length := by rw [← runes_rD]; exact count_from s s.size 0
theorem name_Runes_is (s : ByteArray) (hs : s.size ≤ 1099511627776) : name_Runes.f s = some (if validD s.data.toList = true then ((rD s.data.toList).length : Int) else -1) := by
  unfold name_Runes.f
  rw [name_Valid_is s hs, Option.bind_some]
  split
  · unfold utf8_RuneCountInString.f
    rw [if_pos (by omega), Option.bind_some, runeCount_is]
  · rfl
/-! ### forms -/
def chk (l : List UInt8) : Int := if (!l.isEmpty && validD l && NC.formL true (rD l)) = true then (if 40 < (rD l).length ∨ 5 ≤ (rD l).count 46 then 2 else 0) else 3
theorem enc46 (c : Int) (h : okR c) (hc : c ≠ 46) : (46 : UInt8) ∉ encodeRune c := by
  obtain ⟨h0, h1, h2⟩ := h
  have key : ∀ z : Int, z ∈ encodeRuneZ c → z ≠ 46 := by
    intro z hz
    by_cases a : c ≤ 127
    · rw [encodeRuneZ_one h0 a] at hz; simp at hz; omega
    by_cases b : c ≤ 2047
    · rw [encodeRuneZ_two (by omega) b] at hz; simp at hz; omega
    by_cases d : c ≤ 65535
    · rw [encodeRuneZ_three (by omega)] at hz; simp at hz; omega
    · rw [encodeRuneZ_four (by omega) (by omega)] at hz; simp at hz; omega
  intro hm
  unfold encodeRune at hm
  obtain ⟨z, hz, he⟩ := List.mem_map.1 hm
  have hb := encodeRuneZ_byte c z hz
  have := congrArg UInt8.toNat he
  rw [u8natN z hb.1 hb.2] at this
  exact key z hz (by have h46 : (46 : UInt8).toNat = 46 := rfl; omega)
theorem enc_46 : encodeRune 46 = [46] := by decide
theorem count_enc (ns : List Int) (h : ∀ c ∈ ns, okR c) : (encL ns).count (46 : UInt8) = ns.count 46 := by
  induction ns with
  | nil => rfl
  | cons c ns ih =>
    have ih := ih fun x hx => h x (List.mem_cons_of_mem _ hx)
    rw [encL_cons, List.count_append, ih]
    by_cases hc : c = 46
    · subst hc
      rw [enc_46, List.count_cons_self]
      simp
      omega
    · rw [List.count_eq_zero_of_not_mem (enc46 c (h c List.mem_cons_self) hc), List.count_cons_of_ne (by simpa using hc)]
      omega
theorem name_Check_is (s : ByteArray) (hs : s.size ≤ 1099511627776) : name_Check.f s = some (chk s.data.toList) := by
  unfold name_Check.f name_formed.f NC.formB chk
  rw [if_pos (by omega), Option.bind_some, toList_data, runes_rD]
  by_cases hf : (!s.data.toList.isEmpty && validD s.data.toList && NC.formL true (rD s.data.toList)) = true
  · rw [if_pos hf, if_pos hf]
    have hv : validD s.data.toList = true := by simp only [Bool.and_eq_true] at hf; exact hf.1.2
    unfold utf8_RuneCountInString.f strings_Count.f
    rw [if_pos (by omega), Option.bind_some, runeCount_is, if_pos rfl, Option.bind_some]
    have hc : countByte s.data.toList 46 = (rD s.data.toList).count 46 := by
      unfold countByte
      conv => lhs; rw [← dec_enc_all _ hv]
      exact count_enc _ (rD_ok _ hv)
    rw [hc]
    by_cases h1 : 40 < (rD s.data.toList).length
    · rw [if_pos (by omega), if_pos (Or.inl h1)]
    · rw [if_neg (by omega)]
      by_cases h2 : 5 ≤ (rD s.data.toList).count 46
      · rw [if_pos (by omega), if_pos (Or.inr h2)]
      · rw [if_neg (by omega), if_neg (by omega)]
  · rw [if_neg hf, if_neg hf]
/-- A text cut at its points. -/
def prep {α : Type} (c : List α) : List (List α) → List (List α)
  | [] => []
  | h :: t => (c ++ h) :: t
def splitQ : List Int → List (List Int)
  | [] => [[]]
  | c :: r => if c = 46 then [] :: splitQ r else prep [c] (splitQ r)
theorem prep_nil {α : Type} : ∀ l : List (List α), prep [] l = l
  | [] => rfl
  | _ :: _ => rfl
theorem prep_prep {α : Type} (a b : List α) : ∀ l, prep a (prep b l) = prep (a ++ b) l
  | [] => rfl
  | _ :: _ => by simp [prep]
theorem prep_len {α : Type} (a : List α) : ∀ l, (prep a l).length = l.length
  | [] => rfl
  | _ :: _ => rfl
theorem splitQ_ne (l : List Int) : splitQ l ≠ [] := by
  induction l with
  | nil => simp [splitQ]
  | cons c r ih =>
    unfold splitQ
    split
    · simp
    · intro h
      apply ih
      have := congrArg List.length h
      rw [prep_len] at this
      exact List.eq_nil_of_length_eq_zero this
theorem splitQ_len (l : List Int) : (splitQ l).length = l.count 46 + 1 := by
  induction l with
  | nil => rfl
  | cons c r ih =>
    unfold splitQ
    split
    · rename_i h
      subst h
      rw [List.length_cons, ih, List.count_cons_self]
    · rename_i h
      rw [prep_len, ih, List.count_cons_of_ne (by simpa using h)]
theorem ref_Split_l (L : List Int) (hl : L.length ≤ 1000000000) : ∀ (d i k : Nat) (out : List (List Int)) (cur : List Int), L.length - i ≤ d → d + 1 ≤ k → i ≤ L.length → out.length ≤ i → cur.length ≤ i →
    caduceusref02_Split.l0 k L out cur (i : Int) = some (out ++ prep cur (splitQ (L.drop i))) := by
  intro d
  induction d with
  | zero =>
    intro i k out cur hd hk hi ho hc
    obtain ⟨k, rfl⟩ : ∃ m, k = m + 1 := ⟨k - 1, by omega⟩
    rw [caduceusref02_Split.l0, if_neg (by omega), if_pos (by omega), List.drop_eq_nil_of_le (by omega)]
    simp [splitQ, prep]
  | succ d ih =>
    intro i k out cur hd hk hi ho hc
    obtain ⟨k, rfl⟩ : ∃ m, k = m + 1 := ⟨k - 1, by omega⟩
    by_cases hlt : i < L.length
    · have hr : rd L (i : Int) = L[i] := by simp [rd, List.getD_eq_getElem?_getD, hlt]
      have hw : wrap64 ((i : Int) + 1) = ((i + 1 : Nat) : Int) := by rw [wr _ (by omega) (by omega)]; omega
      rw [caduceusref02_Split.l0, if_pos (by omega), if_pos (by omega), hr, List.drop_eq_getElem_cons hlt]
      unfold splitQ
      by_cases h46 : L[i] = 46
      · rw [if_pos h46, if_pos (by omega), if_pos h46, hw, ih _ _ _ _ (by omega) (by omega) (by omega) (by simp; omega) (by simp), prep_nil]
        simp [prep]
      · rw [if_neg h46, if_pos (by omega), if_neg h46, hw, ih _ _ _ _ (by omega) (by omega) (by omega) (by omega) (by simp; omega), prep_prep]
    · rw [caduceusref02_Split.l0, if_neg (by omega), if_pos (by omega), List.drop_eq_nil_of_le (by omega)]
      simp [splitQ, prep]
theorem ref_Split_is (L : List Int) (hl : L.length ≤ 1000000000) (k : Nat) (hk : L.length + 1 ≤ k) : caduceusref02_Split.f k L = some (splitQ L) := by
  have := ref_Split_l L hl L.length 0 k [] [] (by omega) hk (by omega) (by simp) (by simp)
  rw [List.nil_append, prep_nil, List.drop_zero] at this
  exact this
/-- Is this a part ('first': at its first rune)? -/
def okC (first : Bool) (c : Int) : Bool := NC.letterZ c || c == 95 || (!first && (NC.digitZ c || c == 45))
def partR : Bool → List Int → Bool
  | first, [] => !first
  | first, c :: r => okC first c && partR false r
theorem partR_nil (first : Bool) : partR first [] = !first := rfl
theorem partR_cons (first : Bool) (c : Int) (r : List Int) : partR first (c :: r) = (okC first c && partR false r) := rfl
theorem ref_part_l (L : List Int) (hl : L.length ≤ 1000000000) : ∀ (d i k : Nat), L.length - i ≤ d → d + 3 ≤ k → i ≤ L.length →
    caduceusref02_part.l0 k L (i : Int) = some (partR (decide (i = 0)) (L.drop i)) := by
  intro d
  induction d with
  | zero =>
    intro i k hd hk hi
    obtain ⟨k, rfl⟩ : ∃ m, k = m + 1 := ⟨k - 1, by omega⟩
    rw [caduceusref02_part.l0, if_neg (by omega), List.drop_eq_nil_of_le (by omega)]
    rw [partR_nil]
    congr 1
    by_cases h : i = 0
    · simp only [h, decide_true, Bool.not_true]; exact decide_eq_false (by omega)
    · simp only [h, decide_false, Bool.not_false]; exact decide_eq_true (by omega)
  | succ d ih =>
    intro i k hd hk hi
    obtain ⟨k, rfl⟩ : ∃ m, k = m + 1 := ⟨k - 1, by omega⟩
    by_cases hlt : i < L.length
    · have hr : rd L (i : Int) = L[i] := by simp [rd, List.getD_eq_getElem?_getD, hlt]
      have hw : wrap64 ((i : Int) + 1) = ((i + 1 : Nat) : Int) := by rw [wr _ (by omega) (by omega)]; omega
      have hih := ih (i + 1) k (by omega) (by omega) (by omega)
      rw [show decide (i + 1 = 0) = false from decide_eq_false (by omega)] at hih
      rw [caduceusref02_part.l0, if_pos (by omega), if_pos (by omega), hr, ref_Letter_is k _ (by omega), Option.bind_some, hw, hih, List.drop_eq_getElem_cons hlt]
      rw [partR_cons]
      generalize partR false (L.drop (i + 1)) = q
      unfold okC
      by_cases h1 : NC.letterZ L[i] = true
      · rw [if_pos h1, h1]; simp
      · have h1' : NC.letterZ L[i] = false := by simpa using h1
        rw [if_neg h1, h1']
        by_cases h2 : L[i] = 95
        · rw [if_pos h2]; simp [h2]
        · rw [if_neg h2]
          by_cases h3 : i = 0
          · subst h3; simp [h2]
          · have h3' : ¬ (i : Int) = 0 := by omega
            rw [if_neg h3']
            by_cases h4 : L[i] = 45
            · rw [if_pos h4]; simp [h4, h3]
            · rw [if_neg h4]
              unfold NC.digitZ
              by_cases h5 : L[i] < 48
              · rw [if_pos h5]; simp [h2, h3, h4]; omega
              · rw [if_neg h5]
                by_cases h6 : L[i] > 57
                · rw [if_pos h6]; simp [h2, h3, h4]; omega
                · rw [if_neg h6]
                  have : (decide (48 ≤ L[i]) && decide (L[i] ≤ 57)) = true := by simp; omega
                  simp [h2, h3, h4, show 48 ≤ L[i] by omega, show L[i] ≤ 57 by omega]
    · rw [caduceusref02_part.l0, if_neg (by omega), List.drop_eq_nil_of_le (by omega)]
      rw [partR_nil]
      congr 1
      by_cases h : i = 0
      · simp only [h, decide_true, Bool.not_true]; exact decide_eq_false (by omega)
      · simp only [h, decide_false, Bool.not_false]; exact decide_eq_true (by omega)
theorem ref_part_is (L : List Int) (hl : L.length ≤ 1000000000) (k : Nat) (hk : L.length + 3 ≤ k) : caduceusref02_part.f k L = some (partR true L) := by
  have := ref_part_l L hl L.length 0 k (by omega) hk (by omega)
  rw [List.drop_zero] at this
  exact this
theorem partR_app (a b : List Int) : ∀ first, partR first (a ++ b) = if a = [] then partR first b else (a.head?.elim true (okC first) && a.tail.all (okC false) && partR false b) := by
  induction a with
  | nil => intro first; simp
  | cons c r ih =>
    intro first
    rw [List.cons_append, partR_cons, ih false]
    cases r with
    | nil => simp
    | cons d r => simp [Bool.and_assoc]
theorem partR_snoc (cur : List Int) (c : Int) (h : cur ≠ [] → partR true cur = true) : partR true (cur ++ [c]) = okC cur.isEmpty c := by
  rw [partR_app]
  by_cases hn : cur = []
  · subst hn; simp [partR]
  · have h1 := h hn
    have h2 := partR_app cur [] true
    rw [List.append_nil, if_neg hn, h1] at h2
    rw [if_neg hn]
    simp only [partR, Bool.not_false, Bool.and_true] at h2 ⊢
    have he : cur.isEmpty = false := by cases cur with | nil => exact absurd rfl hn | cons a b => rfl
    rw [he]
    cases cur with
    | nil => exact absurd rfl hn
    | cons a b =>
      simp only [List.cons_append, List.head?_cons, List.tail_cons, List.all_append, List.all_cons, List.all_nil, Bool.and_true, Option.elim_some] at h2 ⊢
      rw [← h2, Bool.true_and]
theorem partR_stuck (cur : List Int) (c : Int) (x : List Int) (h : partR true (cur ++ [c]) = false) : partR true (cur ++ [c] ++ x) = false := by
  rw [partR_app, if_neg (by simp)]
  have h2 := partR_app (cur ++ [c]) [] true
  rw [List.append_nil, if_neg (by simp), h] at h2
  simp only [partR, Bool.not_false, Bool.and_true] at h2
  rw [← h2]
  simp
theorem splitQ_head (l : List Int) : ∃ h t, splitQ l = h :: t := by
  cases hs : splitQ l with
  | nil => exact absurd hs (splitQ_ne l)
  | cons h t => exact ⟨h, t, rfl⟩
theorem form_parts (ns : List Int) : ∀ cur : List Int, (cur ≠ [] → partR true cur = true) → NC.formL cur.isEmpty ns = (prep cur (splitQ ns)).all (partR true) := by
  induction ns with
  | nil =>
    intro cur h
    by_cases hn : cur = []
    · subst hn; rfl
    · have h1 := h hn
      simp [NC.formL, splitQ, prep, h1, hn]
  | cons c r ih =>
    intro cur h
    unfold splitQ NC.formL
    by_cases h46 : c = 46
    · rw [if_pos h46, if_pos h46]
      have hi := ih [] (fun h => absurd rfl h)
      rw [prep_nil] at hi
      by_cases hn : cur = []
      · subst hn
        simp [prep, partR]
      · have h1 := h hn
        have : cur.isEmpty = false := by simp [hn]
        rw [this]
        simp only [Bool.false_eq_true, if_false, prep, List.all_cons, List.append_nil, h1, Bool.true_and]
        exact hi
    · rw [if_neg h46, if_neg h46, prep_prep]
      have hs := partR_snoc cur c h
      by_cases hok : okC cur.isEmpty c = true
      · have hi := ih (cur ++ [c]) (fun _ => hs.trans hok)
        have hne : (cur ++ [c]).isEmpty = false := by simp
        rw [hne] at hi
        rw [← hi]
        unfold okC at hok
        by_cases hl : (NC.letterZ c || c == 95) = true
        · rw [if_pos hl]
        · rw [if_neg hl]
          have hl' : (NC.letterZ c || c == 95) = false := by simpa using hl
          rw [hl', Bool.false_or] at hok
          rw [if_pos hok]
          simp only [Bool.and_eq_true] at hok
          have : cur.isEmpty = false := by simpa using hok.1
          rw [this]
      · have hok' : okC cur.isEmpty c = false := by simpa using hok
        rw [hok'] at hs
        obtain ⟨h', t', e⟩ := splitQ_head r
        rw [e]
        simp only [prep, List.all_cons]
        rw [partR_stuck cur c h' hs]
        unfold okC at hok'
        simp only [Bool.or_eq_false_iff] at hok'
        rw [if_neg (by simp [hok'.1.1, hok'.1.2]), if_neg (by rw [hok'.2]; simp)]
        simp
theorem form_all (ns : List Int) : NC.formL true ns = (splitQ ns).all (partR true) := by
  have := form_parts ns [] (fun h => absurd rfl h)
  rw [prep_nil] at this
  exact this
theorem splitQ_sub (l : List Int) : ∀ p ∈ splitQ l, p.length ≤ l.length := by
  induction l with
  | nil => intro p hp; simp [splitQ] at hp; simp [hp]
  | cons c r ih =>
    intro p hp
    unfold splitQ at hp
    split at hp
    · rcases List.mem_cons.1 hp with rfl | hp
      · simp
      · have := ih p hp; simp; omega
    · obtain ⟨h, t, e⟩ := splitQ_head r
      rw [e] at hp
      simp only [prep] at hp
      rcases List.mem_cons.1 hp with rfl | hp
      · have := ih h (by rw [e]; exact List.mem_cons_self)
        simp; omega
      · have := ih p (by rw [e]; exact List.mem_cons_of_mem _ hp)
        simp; omega
theorem ref_Check_l (L : List Int) (P : List (List Int)) (hP : ∀ p ∈ P, p.length ≤ 40000) (hl : P.length ≤ 1000000000) : ∀ (d i k : Nat), P.length - i ≤ d → d + 40005 ≤ k → i ≤ P.length →
    caduceusref02_Check.l0 k L P (i : Int) = some (if (P.drop i).all (partR true) = true then (if 40 < L.length ∨ 5 < P.length then 2 else 0) else 3) := by
  have fin : ∀ k : Nat, (if (L.length : Int) > 40 then (some 2) else (if (P.length : Int) > 5 then (some 2) else (some 0)) : Option Int) = some (if 40 < L.length ∨ 5 < P.length then 2 else 0) := by
    intro k
    by_cases h1 : 40 < L.length
    · rw [if_pos (by omega), if_pos (Or.inl h1)]
    · rw [if_neg (by omega)]
      by_cases h2 : 5 < P.length
      · rw [if_pos (by omega), if_pos (Or.inr h2)]
      · rw [if_neg (by omega), if_neg (by omega)]
  intro d
  induction d with
  | zero =>
    intro i k hd hk hi
    obtain ⟨k, rfl⟩ : ∃ m, k = m + 1 := ⟨k - 1, by omega⟩
    rw [caduceusref02_Check.l0, if_neg (by omega), List.drop_eq_nil_of_le (by omega), fin 0]
    simp
  | succ d ih =>
    intro i k hd hk hi
    obtain ⟨k, rfl⟩ : ∃ m, k = m + 1 := ⟨k - 1, by omega⟩
    by_cases hlt : i < P.length
    · have hr : rd_L5 P (i : Int) = P[i] := by simp [rd_L5, List.getD_eq_getElem?_getD, hlt]
      have hw : wrap64 ((i : Int) + 1) = ((i + 1 : Nat) : Int) := by rw [wr _ (by omega) (by omega)]; omega
      have hp := hP _ (List.getElem_mem hlt)
      rw [caduceusref02_Check.l0, if_pos (by omega), if_pos (by omega), hr, ref_part_is _ (by omega) k (by omega), Option.bind_some, List.drop_eq_getElem_cons hlt]
      rw [List.all_cons]
      by_cases hb : partR true P[i] = true
      · rw [if_pos hb, hw, ih _ _ (by omega) (by omega) (by omega), hb, Bool.true_and]
      · have hb' : partR true P[i] = false := by simpa using hb
        rw [if_neg hb, hb', Bool.false_and, if_neg (by decide)]
    · rw [caduceusref02_Check.l0, if_neg (by omega), List.drop_eq_nil_of_le (by omega), fin 0]
      simp
theorem ref_Check_is (s : ByteArray) (hs : s.size ≤ 40000) (k : Nat) (hk : 130000 ≤ k) : caduceusref02_Check.f k s = some (chk s.data.toList) := by
  obtain ⟨k, rfl⟩ : ∃ m, k = m + 1 := ⟨k - 1, by omega⟩
  unfold caduceusref02_Check.f chk
  rw [toList_data]
  by_cases he : s.data.toList = []
  · rw [if_pos he, he, caduceusref02_Check.j0, if_pos rfl]
    rfl
  · rw [if_neg he, ref_Valid_is s (by omega) _ (by omega), Option.bind_some, caduceusref02_Check.j0]
    have he2 : s.data.toList.isEmpty = false := by cases hq : s.data.toList with | nil => exact absurd hq he | cons a b => rfl
    rw [he2]
    by_cases hv : validD s.data.toList = true
    · rw [hv, Bool.not_true, if_neg (by decide), ref_Runes_is s (by omega) _ (by omega) hv, Option.bind_some]
      have hl := rD_len s
      rw [ref_Split_is _ (by omega) _ (by omega), Option.bind_some]
      have hsl := splitQ_len (rD s.data.toList)
      have hcl := List.count_le_length (a := (46 : Int)) (l := rD s.data.toList)
      have := ref_Check_l (rD s.data.toList) (splitQ (rD s.data.toList)) (fun p hp => by have := splitQ_sub _ p hp; omega) (by omega) (splitQ (rD s.data.toList)).length 0 k (by omega) (by omega) (by omega)
      rw [List.drop_zero] at this
      refine (show caduceusref02_Check.l0 k (rD s.data.toList) (splitQ (rD s.data.toList)) 0 = _ from this).trans ?_
      rw [form_all, hsl]
      simp only [Bool.not_false, Bool.true_and]
      congr 1
      by_cases hf : (splitQ (rD s.data.toList)).all (partR true) = true
      · rw [if_pos hf, if_pos hf]
        by_cases h1 : 40 < (rD s.data.toList).length ∨ 5 < (rD s.data.toList).count 46 + 1
        · rw [if_pos h1, if_pos (by omega)]
        · rw [if_neg h1, if_neg (by omega)]
      · rw [if_neg hf, if_neg hf]
    · have hv' : validD s.data.toList = false := by simpa using hv
      rw [hv', Bool.not_false, if_pos rfl]
      simp
end Go.Proofs.YtiaacpjibhnhiaaDoor.NQ
