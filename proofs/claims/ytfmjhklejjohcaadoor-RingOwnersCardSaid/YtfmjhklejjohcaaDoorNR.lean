/- What the document's functions of the layer 'name', and the program's, come to on any text. -/
import Derived.Test.YtfmjhklejjohcaaDoorNQ
namespace Go.Proofs.YtfmjhklejjohcaaDoor.NQ
open Go.RowKit Go.Lib Go.Proofs.YtfmjhklejjohcaaDoor.PAll Go.Proofs.YtfmjhklejjohcaaDoorW.PrintWords Go.Proofs.YtfmjhklejjohcaaDoorW.PrintLast Go.Proofs.YtfmjhklejjohcaaDoorW.PrintMore
set_option linter.unusedVariables false
set_option linter.unusedSimpArgs false
theorem ext_drop (s : ByteArray) (i : Nat) : (s.extract i s.size).data.toList = s.data.toList.drop i := ext_list s i
theorem step_le (s : ByteArray) (i : Nat) (h : i < s.size) : 1 ≤ (decodeL (s.data.toList.drop i)).2 ∧ i + (decodeL (s.data.toList.drop i)).2 ≤ s.size := by
  have h1 := decodeL_width (s.data.toList.drop i)
  have h2 := decodeL_le _ (drop_ne s i h)
  rw [List.length_drop, ← size_eq] at h2
  omega
theorem drop_end (s : ByteArray) (i : Nat) (h : ¬ i < s.size) : s.data.toList.drop i = [] := List.drop_eq_nil_of_le (by rw [← size_eq]; omega)
theorem ref_Valid_l (s : ByteArray) (hs : s.size ≤ 1099511627776) : ∀ (d i k : Nat), s.size - i ≤ d → d + 5 ≤ k → i ≤ s.size →
    caduceusref02_Valid.l0 k s (i : Int) = some (validD (s.data.toList.drop i)) := by
  intro d
  induction d with
  | zero =>
    intro i k hd hk hi
    obtain ⟨k, rfl⟩ : ∃ m, k = m + 1 := ⟨k - 1, by omega⟩
    rw [caduceusref02_Valid.l0, if_neg (by omega), drop_end s i (by omega)]
    rfl
  | succ d ih =>
    intro i k hd hk hi
    obtain ⟨k, rfl⟩ : ∃ m, k = m + 1 := ⟨k - 1, by omega⟩
    by_cases hlt : i < s.size
    · obtain ⟨w1, w2⟩ := step_le s i hlt
      rw [caduceusref02_Valid.l0, if_pos (by omega), if_pos (by omega), if_pos (by omega), Int.toNat_natCast, first_is _ (by rw [ext_drop]; exact drop_ne s i hlt) k (by omega), Option.bind_some, ext_drop, v_step _ (drop_ne s i hlt)]
      by_cases hb : bad (s.data.toList.drop i) = true
      · rw [if_pos hb, if_pos hb]
        rfl
      · rw [if_neg hb, if_neg hb]
        dsimp only
        rw [if_neg (by omega), show wrap64 ((i : Int) + ((decodeL (s.data.toList.drop i)).2 : Int)) = ((i + (decodeL (s.data.toList.drop i)).2 : Nat) : Int) by rw [wr _ (by omega) (by omega)]; omega, ih _ _ (by omega) (by omega) w2, List.drop_drop]
    · rw [caduceusref02_Valid.l0, if_neg (by omega), drop_end s i hlt]
      rfl
theorem ref_Valid_is (s : ByteArray) (hs : s.size ≤ 1099511627776) (k : Nat) (hk : s.size + 5 ≤ k) : caduceusref02_Valid.f k s = some (validD s.data.toList) :=
  ref_Valid_l s hs s.size 0 k (by omega) hk (by omega)
theorem ref_Runes_l (s : ByteArray) (hs : s.size ≤ 1099511627776) : ∀ (d i k : Nat) (acc : List Int), s.size - i ≤ d → d + 5 ≤ k → i ≤ s.size → acc.length ≤ i → validD (s.data.toList.drop i) = true →
    caduceusref02_Runes.l0 k s acc (i : Int) = some (acc ++ rD (s.data.toList.drop i)) := by
  intro d
  induction d with
  | zero =>
    intro i k acc hd hk hi ha hv
    obtain ⟨k, rfl⟩ : ∃ m, k = m + 1 := ⟨k - 1, by omega⟩
    rw [caduceusref02_Runes.l0, if_neg (by omega), drop_end s i (by omega), rD_nil, List.append_nil]
  | succ d ih =>
    intro i k acc hd hk hi ha hv
    obtain ⟨k, rfl⟩ : ∃ m, k = m + 1 := ⟨k - 1, by omega⟩
    by_cases hlt : i < s.size
    · obtain ⟨w1, w2⟩ := step_le s i hlt
      rw [v_step _ (drop_ne s i hlt)] at hv
      by_cases hb : bad (s.data.toList.drop i) = true
      · rw [if_pos hb] at hv
        cases hv
      · rw [if_neg hb] at hv
        rw [List.drop_drop] at hv
        rw [caduceusref02_Runes.l0, if_pos (by omega), if_pos (by omega), if_pos (by omega), Int.toNat_natCast, first_is _ (by rw [ext_drop]; exact drop_ne s i hlt) k (by omega), Option.bind_some, ext_drop, if_neg hb]
        dsimp only
        rw [if_neg (by omega), if_pos (by omega), show wrap64 ((i : Int) + ((decodeL (s.data.toList.drop i)).2 : Int)) = ((i + (decodeL (s.data.toList.drop i)).2 : Nat) : Int) by rw [wr _ (by omega) (by omega)]; omega, ih _ _ _ (by omega) (by omega) w2 (by simp; omega) hv, rD_step _ (drop_ne s i hlt), List.drop_drop, List.append_assoc]
        rfl
    · rw [caduceusref02_Runes.l0, if_neg (by omega), drop_end s i hlt, rD_nil, List.append_nil]
theorem ref_Runes_is (s : ByteArray) (hs : s.size ≤ 1099511627776) (k : Nat) (hk : s.size + 5 ≤ k) (hv : validD s.data.toList = true) : caduceusref02_Runes.f k s = some (rD s.data.toList) := by
  have := ref_Runes_l s hs s.size 0 k [] (by omega) hk (by omega) (by simp) hv
  rw [List.drop_zero, List.nil_append] at this
  exact this
theorem smallZ_ok (c : Int) (h : okR c) : okR (NC.smallZ c) := by
  unfold NC.smallZ
  unfold okR at *
  split <;> omega
theorem ref_Small_is (c : Int) (h : 0 ≤ c ∧ c ≤ 2147483647 ∨ c < 0) : caduceusref02_Small.f c = some (NC.smallZ c) := by
  have hw : ∀ x : Int, 0 ≤ x → x ≤ 3000000000 → wrap64 x = x := fun x a b => wr x (by omega) (by omega)
  unfold caduceusref02_Small.f NC.smallZ
  repeat' split
  all_goals first | (exfalso; omega) | rfl | (rw [hw _ (by omega) (by omega)])
theorem ref_Bytes_is (c : Int) (h : okR c) : ∃ b, caduceusref02_Bytes.f c = some b ∧ b.data.toList = encodeRune c := by
  obtain ⟨h0, h1, h2⟩ := h
  have hs : ∀ l : List Int, (strOfNums l).data.toList = l.map fun x => x.toNat.toUInt8 := by intro l; simp [strOfNums]
  have d1 : Int.tdiv c 64 = c / 64 := Int.tdiv_eq_ediv_of_nonneg h0
  have d2 : Int.tdiv c 4096 = c / 4096 := Int.tdiv_eq_ediv_of_nonneg h0
  have d3 : Int.tdiv c 262144 = c / 262144 := Int.tdiv_eq_ediv_of_nonneg h0
  have m0 : Int.tmod c 64 = c % 64 := Int.tmod_eq_emod_of_nonneg h0
  have m1 : Int.tmod (c / 64) 64 = c / 64 % 64 := Int.tmod_eq_emod_of_nonneg (by omega)
  have m2 : Int.tmod (c / 4096) 64 = c / 4096 % 64 := Int.tmod_eq_emod_of_nonneg (by omega)
  have w1 : wrap64 (c / 64) = c / 64 := wr _ (by omega) (by omega)
  have w2 : wrap64 (c / 4096) = c / 4096 := wr _ (by omega) (by omega)
  have w3 : wrap64 (c / 262144) = c / 262144 := wr _ (by omega) (by omega)
  unfold caduceusref02_Bytes.f
  simp only [d1, d2, d3, m0, w1, w2, w3, m1, m2]
  unfold encodeRune
  by_cases a : c ≤ 127
  · rw [if_pos (by omega), encodeRuneZ_one h0 a]
    refine ⟨_, rfl, ?_⟩
    rw [hs, show c % 256 = c by omega]
  by_cases b : c ≤ 2047
  · rw [if_neg (by omega), if_pos (by omega), encodeRuneZ_two (by omega) b]
    refine ⟨_, rfl, ?_⟩
    rw [hs, wr (192 + c / 64) (by omega) (by omega), wr (128 + c % 64) (by omega) (by omega), show (192 + c / 64) % 256 = 192 + c / 64 by omega, show (128 + c % 64) % 256 = 128 + c % 64 by omega]
  by_cases d : c ≤ 65535
  · rw [if_neg (by omega), if_neg (by omega), if_pos (by omega), encodeRuneZ_three (by omega)]
    refine ⟨_, rfl, ?_⟩
    rw [hs, wr (224 + c / 4096) (by omega) (by omega), wr (128 + c / 64 % 64) (by omega) (by omega), wr (128 + c % 64) (by omega) (by omega), show (224 + c / 4096) % 256 = 224 + c / 4096 by omega, show (128 + c / 64 % 64) % 256 = 128 + c / 64 % 64 by omega, show (128 + c % 64) % 256 = 128 + c % 64 by omega]
  · rw [if_neg (by omega), if_neg (by omega), if_neg (by omega), encodeRuneZ_four (by omega) (by omega)]
    refine ⟨_, rfl, ?_⟩
    rw [hs, wr (240 + c / 262144) (by omega) (by omega), wr (128 + c / 4096 % 64) (by omega) (by omega), wr (128 + c / 64 % 64) (by omega) (by omega), wr (128 + c % 64) (by omega) (by omega), show (240 + c / 262144) % 256 = 240 + c / 262144 by omega, show (128 + c / 4096 % 64) % 256 = 128 + c / 4096 % 64 by omega, show (128 + c / 64 % 64) % 256 = 128 + c / 64 % 64 by omega, show (128 + c % 64) % 256 = 128 + c % 64 by omega]
theorem enc_len4 (c : Int) : (encodeRune c).length ≤ 4 := by
  unfold encodeRune
  rw [List.length_map]
  exact (encodeRuneZ_length c).2
theorem ref_Fold_l (L : List Int) (hL : ∀ c ∈ L, okR c) (hl : L.length ≤ 1099511627776) : ∀ (d i k : Nat) (out : ByteArray), L.length - i ≤ d → d + 1 ≤ k → i ≤ L.length → out.size ≤ 4 * i →
    ∃ r, caduceusref02_Fold.l0 k L out (i : Int) = some r ∧ r.data.toList = out.data.toList ++ encL ((L.drop i).map NC.smallZ) := by
  intro d
  induction d with
  | zero =>
    intro i k out hd hk hi ho
    obtain ⟨k, rfl⟩ : ∃ m, k = m + 1 := ⟨k - 1, by omega⟩
    rw [caduceusref02_Fold.l0, if_neg (by omega)]
    exact ⟨_, rfl, by rw [List.drop_eq_nil_of_le (by omega)]; simp [encL]⟩
  | succ d ih =>
    intro i k out hd hk hi ho
    obtain ⟨k, rfl⟩ : ∃ m, k = m + 1 := ⟨k - 1, by omega⟩
    by_cases hlt : i < L.length
    · have hc := hL _ (List.getElem_mem hlt)
      have hr : rd L (i : Int) = L[i] := by simp [rd, List.getD_eq_getElem?_getD, hlt]
      obtain ⟨b, hb, hbl⟩ := ref_Bytes_is _ (smallZ_ok _ hc)
      have hbs : b.size ≤ 4 := by rw [size_eq, hbl]; exact enc_len4 _
      have hos : (out ++ b).size = out.size + b.size := by simp
      rw [caduceusref02_Fold.l0, if_pos (by omega), if_pos (by omega), hr, ref_Small_is _ (by unfold okR at hc; omega), Option.bind_some, hb, Option.bind_some, if_pos (by omega), show wrap64 ((i : Int) + 1) = ((i + 1 : Nat) : Int) by rw [wr _ (by omega) (by omega)]; omega]
      obtain ⟨r, h1, h2⟩ := ih (i + 1) k (out ++ b) (by omega) (by omega) (by omega) (by omega)
      refine ⟨r, h1, ?_⟩
      rw [h2, List.drop_eq_getElem_cons hlt, List.map_cons, encL_cons, show (out ++ b).data.toList = out.data.toList ++ b.data.toList by simp, hbl, List.append_assoc]
    · rw [caduceusref02_Fold.l0, if_neg (by omega)]
      exact ⟨_, rfl, by rw [List.drop_eq_nil_of_le (by omega)]; simp [encL]⟩
theorem rD_len (s : ByteArray) : (rD s.data.toList).length ≤ s.size := by rw [← runes_rD]; exact NC.runes_len s
theorem fold_list (s : ByteArray) : (NC.foldB s).data.toList = if validD s.data.toList = true then encL ((rD s.data.toList).map NC.smallZ) else s.data.toList := by
  unfold NC.foldB
  split
  · rw [runesBytes_list, runes_rD]
  · rfl
theorem ref_Fold_is (s : ByteArray) (hs : s.size ≤ 1099511627776) (k : Nat) (hk : s.size + 5 ≤ k) : caduceusref02_Fold.f k s = some (NC.foldB s) := by
  unfold caduceusref02_Fold.f
  rw [ref_Valid_is s hs k hk, Option.bind_some]
  have hf := fold_list s
  by_cases hv : validD s.data.toList = true
  · rw [if_pos hv] at hf ⊢
    rw [ref_Runes_is s hs k hk hv, Option.bind_some]
    have hl := rD_len s
    obtain ⟨r, h1, h2⟩ := ref_Fold_l (rD s.data.toList) (rD_ok _ hv) (by omega) (rD s.data.toList).length 0 k ⟨#[]⟩ (by omega) (by omega) (by omega) (by decide)
    refine (show caduceusref02_Fold.l0 k (rD s.data.toList) ⟨#[]⟩ 0 = some r from h1).trans ?_
    congr 1
    apply ba_ext
    rw [h2, hf]
    simp
  · rw [if_neg hv] at hf ⊢
    congr 1
    exact ba_ext hf.symm
/-! ### FNV-1a -/
def hashL : Int → List UInt8 → Int
  | h, [] => h
  | h, b :: l => hashL (IntKind.u64.wrap ((Go.bits .xor .u64 h (IntKind.u64.wrap (b.toNat : Int))) * 1099511628211)) l
def hashB (s : ByteArray) : Int := hashL 14695981039346656037 s.data.toList
theorem drop_cons (s : ByteArray) (i : Nat) (h : i < s.size) : s.data.toList.drop i = s.data.toList.getD i 0 :: s.data.toList.drop (i + 1) := by
  have h' : i < s.data.toList.length := by rw [← size_eq]; exact h
  rw [List.drop_eq_getElem_cons h']
  simp [List.getD_eq_getElem?_getD, List.getElem?_eq_getElem h']
theorem name_Hash_l (s : ByteArray) (hs : s.size ≤ 1099511627776) : ∀ (d i k : Nat) (h : Int), s.size - i ≤ d → d + 1 ≤ k → i ≤ s.size → name_Hash.l0 k s h (s.size : Int) (i : Int) = some (hashL h (s.data.toList.drop i)) := by
  intro d
  induction d with
  | zero =>
    intro i k h hd hk hi
    obtain ⟨k, rfl⟩ : ∃ m, k = m + 1 := ⟨k - 1, by omega⟩
    rw [name_Hash.l0, if_neg (by omega), drop_end s i (by omega)]
    rfl
  | succ d ih =>
    intro i k h hd hk hi
    obtain ⟨k, rfl⟩ : ∃ m, k = m + 1 := ⟨k - 1, by omega⟩
    by_cases hlt : i < s.size
    · rw [name_Hash.l0, if_pos (by omega), if_pos (by omega), if_pos (by omega), bt_getD, show wrap64 ((i : Int) + 1) = ((i + 1 : Nat) : Int) by rw [wr _ (by omega) (by omega)]; omega, ih _ _ _ (by omega) (by omega) (by omega), drop_cons s i hlt]
      rfl
    · rw [name_Hash.l0, if_neg (by omega), drop_end s i hlt]
      rfl
theorem name_Hash_is (s : ByteArray) (hs : s.size ≤ 1099511627776) (k : Nat) (hk : s.size + 1 ≤ k) : name_Hash.f k s = some (hashB s) :=
  name_Hash_l s hs s.size 0 k _ (by omega) hk (by omega)
theorem ref_Hash_l (s : ByteArray) (hs : s.size ≤ 1099511627776) : ∀ (d i k : Nat) (h : Int), s.size - i ≤ d → d + 1 ≤ k → i ≤ s.size → caduceusref02_Hash.l0 k s h (i : Int) = some (hashL h (s.data.toList.drop i)) := by
  intro d
  induction d with
  | zero =>
    intro i k h hd hk hi
    obtain ⟨k, rfl⟩ : ∃ m, k = m + 1 := ⟨k - 1, by omega⟩
    rw [caduceusref02_Hash.l0, if_neg (by omega), drop_end s i (by omega)]
    rfl
  | succ d ih =>
    intro i k h hd hk hi
    obtain ⟨k, rfl⟩ : ∃ m, k = m + 1 := ⟨k - 1, by omega⟩
    by_cases hlt : i < s.size
    · rw [caduceusref02_Hash.l0, if_pos (by omega), if_pos (by omega), bt_getD, show wrap64 ((i : Int) + 1) = ((i + 1 : Nat) : Int) by rw [wr _ (by omega) (by omega)]; omega, ih _ _ _ (by omega) (by omega) (by omega), drop_cons s i hlt]
      rfl
    · rw [caduceusref02_Hash.l0, if_neg (by omega), drop_end s i hlt]
      rfl
theorem ref_Hash_is (s : ByteArray) (hs : s.size ≤ 1099511627776) (k : Nat) (hk : s.size + 1 ≤ k) : caduceusref02_Hash.f k s = some (hashB s) :=
  ref_Hash_l s hs s.size 0 k _ (by omega) hk (by omega)
/-! ### the program's -/
theorem name_Fold_is (s : ByteArray) (hs : s.size ≤ 1099511627776) : name_Fold.f s = some (NC.foldB s) := by unfold name_Fold.f; rw [if_pos (by omega)]
theorem fold_size (s : ByteArray) : (NC.foldB s).size ≤ 4 * s.size := by
  unfold NC.foldB
  split
  · have h1 := runesBytes_size_le ((NC.runes s).map NC.smallZ)
    have h2 := NC.runes_len s
    rw [List.length_map] at h1
    omega
  · omega
theorem name_Key_is (s : ByteArray) (hs : s.size ≤ 4294967296) (k : Nat) (hk : 4 * s.size + 1 ≤ k) : name_Key.f k s = some (hashB (NC.foldB s)) := by
  unfold name_Key.f
  have := fold_size s
  rw [name_Fold_is s (by omega), Option.bind_some, name_Hash_is _ (by omega) k (by omega)]
  rfl
theorem name_Valid_is (s : ByteArray) (hs : s.size ≤ 1099511627776) : utf8_ValidString.f s = some (validD s.data.toList) := by unfold utf8_ValidString.f; rw [if_pos (by omega)]
end Go.Proofs.YtfmjhklejjohcaaDoor.NQ
