import Derived.Test.YtpdalofhekmbeaaPViewReadsy
import Derived.Test.YtpdalofhekmbeaaQB
namespace Go.Proofs.Ytpdalofhekmbeaa.Pure
open Go.RowKit Go.Proofs.Ytpdalofhekmbeaa.PViewReads Go.Proofs.YtpdalofhekmbeaaW.PrintWords Go.Proofs.YtpdalofhekmbeaaW.PrintLast Go.Proofs.YtpdalofhekmbeaaW.PrintMore Go.Proofs.Ytpdalofhekmbeaa.QB
set_option linter.unusedSimpArgs false
set_option linter.unusedVariables false

namespace ViewReadsC
theorem quic_size_is (n : Int) : quic_Size.f n = some (psize n) := by
  unfold quic_Size.f psize
  repeat' split
  all_goals first | rfl | (exfalso; omega)

theorem ref_size_is (k : Nat) (n : Int) : caduceusref01_Size.f (k + 1) n = some (psize n) := by
  unfold caduceusref01_Size.f psize
  rw [caduceusref01_Size.j0, caduceusref01_Size.j0]
  simp only [decide_eq_true_eq]
  repeat' split
  all_goals first | rfl | (exfalso; first | omega | simp_all)

theorem ref_num_is (k : Nat) (n : Int) : caduceusref01_Num.f (k + 12) n = some (pnum n) := by
  unfold caduceusref01_Num.f pnum pnums
  rw [ref_size_is (k + 11), Option.bind_some]
  rcases psize_cases n with ⟨h, h'⟩ | ⟨h, h0, h1⟩ | ⟨h, h0, h1⟩ | ⟨h, h0, h1⟩ | ⟨h, h0, h1⟩
  · rw [h]
    simp [caduceusref01_Num.l0, caduceusref01_Num.j1, wrap64]
  all_goals
    have hu : IntKind.u64.wrap n = n := u64id (by omega) (by omega)
    rw [h]
    simp [caduceusref01_Num.l0, caduceusref01_Num.j1, wrap64, hu, shr_u_0, wrap_u_0, shr_u_8, wrap_u_8, shr_u_16, wrap_u_16, shr_u_24, wrap_u_24, shr_u_32, wrap_u_32, shr_u_40, wrap_u_40, shr_u_48, wrap_u_48, shr_u_56, wrap_u_56, rd]
    congr 1
    simp only [List.cons.injEq, and_true]
    omega

theorem class_is (k : Nat) : quic_class.f (k + 12) 1 = some 0 ∧ quic_class.f (k + 12) 2 = some 1 ∧ quic_class.f (k + 12) 4 = some 2 ∧ quic_class.f (k + 12) 8 = some 3 := by
  refine ⟨?_, ?_, ?_, ?_⟩ <;> simp [quic_class.f, quic_class.l0, wrap64]

theorem quic_num_is (k : Nat) (n : Int) : quic_Num.f (k + 24) n = some (pnum n) := by
  unfold quic_Num.f pnum pnums
  rw [quic_size_is, Option.bind_some]
  rcases psize_cases n with ⟨h, h'⟩ | ⟨h, h0, h1⟩ | ⟨h, h0, h1⟩ | ⟨h, h0, h1⟩ | ⟨h, h0, h1⟩
  · rw [h]
    simp [strOfNums]
  · rw [h]
    simp [quic_Num.l0, wrap64, shr_i_0, shr_i_8, shr_i_16, shr_i_24, shr_i_32, shr_i_40, shr_i_48, shr_i_56, rd, class_is]
    rw [(u8_or_top (by omega) (by omega)).1]
    congr 1
    simp only [List.cons.injEq, and_true]
    omega
  · rw [h]
    simp [quic_Num.l0, wrap64, shr_i_0, shr_i_8, shr_i_16, shr_i_24, shr_i_32, shr_i_40, shr_i_48, shr_i_56, rd, class_is]
    rw [(u8_or_top (by omega) (by omega)).2.1]
    congr 1
    simp only [List.cons.injEq, and_true]
    omega
  · rw [h]
    simp [quic_Num.l0, wrap64, shr_i_0, shr_i_8, shr_i_16, shr_i_24, shr_i_32, shr_i_40, shr_i_48, shr_i_56, rd, class_is]
    rw [(u8_or_top (by omega) (by omega)).2.2.1]
    congr 1
    simp only [List.cons.injEq, and_true]
    omega
  · rw [h]
    simp [quic_Num.l0, wrap64, shr_i_0, shr_i_8, shr_i_16, shr_i_24, shr_i_32, shr_i_40, shr_i_48, shr_i_56, rd, class_is]
    rw [(u8_or_top (by omega) (by omega)).2.2.2]
    congr 1
    simp only [List.cons.injEq, and_true]
    omega

theorem plong_quic (s : ByteArray) : shl .i64 1 (bt s 0 / 64) = plong s ∧ 0 ≤ bt s 0 / 64 := by
  have B := bt_range s 0
  unfold plong
  refine ⟨?_, by omega⟩
  by_cases c0 : bt s 0 < 64
  · rw [if_pos c0, show bt s 0 / 64 = 0 by omega]; exact shl_1.1
  · by_cases c1 : bt s 0 < 128
    · rw [if_neg c0, if_pos c1, show bt s 0 / 64 = 1 by omega]; exact shl_1.2.1
    · by_cases c2 : bt s 0 < 192
      · rw [if_neg c0, if_neg c1, if_pos c2, show bt s 0 / 64 = 2 by omega]; exact shl_1.2.2.1
      · rw [if_neg c0, if_neg c1, if_neg c2, show bt s 0 / 64 = 3 by omega]; exact shl_1.2.2.2
theorem plong_cases (s : ByteArray) : plong s = 1 ∨ plong s = 2 ∨ plong s = 4 ∨ plong s = 8 := by
  unfold plong; (repeat' split) <;> simp

def getF (s : ByteArray) : Int × ByteArray × Int :=
  if s.size = 0 then (0, ⟨#[]⟩, 7)
  else if (s.size : Int) < plong s then (0, ⟨#[]⟩, 7)
  else if psize (pval (plong s) s) = plong s then (pval (plong s) s, s.extract (plong s).toNat s.size, 0)
  else (0, ⟨#[]⟩, 3)

theorem quic_get_round (k : Nat) (s : ByteArray) (x m i j : Int) (hj : j = i + 1) (h0 : 0 ≤ i) (h1 : i < m) (h2 : m ≤ s.size) (h3 : m ≤ 8) (hx : 0 ≤ x) (hx1 : x < 36028797018963968) :
    quic_Get.l0 (k + 1) s x m i = quic_Get.l0 k s (x * 256 + bt s i) m j := by
  subst hj
  have B := bt_range s i
  rw [quic_Get.l0, if_pos h1, if_pos h0, if_pos (by omega), w64 (n := x * 256) (by omega) (by omega), w64 (n := bt s i) (by omega) (by omega), w64 (n := i + 1) (by omega) (by omega), or_byte hx hx1 (by omega) (by omega)]
theorem quic_get_end (k : Nat) (s : ByteArray) (x m : Int) (h2 : m ≤ s.size) (h3 : 0 ≤ m) :
    quic_Get.l0 (k + 2) s x m m = some (if psize x = m then (x, s.extract m.toNat s.size, 0) else (0, ⟨#[]⟩, 3)) := by
  rw [quic_Get.l0, if_neg (by omega), quic_size_is, Option.bind_some]
  by_cases h : psize x = m
  · rw [if_pos h, if_pos h, if_pos h3, if_pos h2]
  · rw [if_neg h, if_neg h]

theorem quic_get_is (k : Nat) (s : ByteArray) : quic_Get.f (k + 12) s = some (getF s) := by
  unfold quic_Get.f getF
  by_cases hs : s.size = 0
  · rw [if_pos ((ba_nil s).2 hs), if_pos hs]
  · rw [if_neg (fun h => hs ((ba_nil s).1 h)), if_neg hs, if_pos (by omega), if_pos (plong_quic s).2, (plong_quic s).1]
    by_cases hl : (s.size : Int) < plong s
    · rw [if_pos hl, if_pos hl]
    · rw [if_neg hl, if_neg hl]
      have B := fun i => bt_range s i
      have b0 := B 0; have b1 := B 1; have b2 := B 2; have b3 := B 3; have b4 := B 4; have b5 := B 5; have b6 := B 6; have b7 := B 7
      rw [u8_and63 _ b0.1 (by omega), w64 (by omega) (by omega)]
      rcases plong_cases s with h | h | h | h
      · rw [h] at hl ⊢
        rw [quic_get_end _ _ _ _ (by omega) (by omega)]
        simp only [pval]
        rfl
      · rw [h] at hl ⊢
        rw [quic_get_round _ _ _ _ 1 2 rfl (by omega) (by omega) (by omega) (by omega) (by omega) (by omega), quic_get_end _ _ _ _ (by omega) (by omega)]
        simp only [pval]
        rfl
      · rw [h] at hl ⊢
        rw [quic_get_round _ _ _ _ 1 2 rfl (by omega) (by omega) (by omega) (by omega) (by omega) (by omega), quic_get_round _ _ _ _ 2 3 rfl (by omega) (by omega) (by omega) (by omega) (by omega) (by omega), quic_get_round _ _ _ _ 3 4 rfl (by omega) (by omega) (by omega) (by omega) (by omega) (by omega), quic_get_end _ _ _ _ (by omega) (by omega)]
        simp only [pval]
        rfl
      · rw [h] at hl ⊢
        rw [quic_get_round _ _ _ _ 1 2 rfl (by omega) (by omega) (by omega) (by omega) (by omega) (by omega), quic_get_round _ _ _ _ 2 3 rfl (by omega) (by omega) (by omega) (by omega) (by omega) (by omega), quic_get_round _ _ _ _ 3 4 rfl (by omega) (by omega) (by omega) (by omega) (by omega) (by omega), quic_get_round _ _ _ _ 4 5 rfl (by omega) (by omega) (by omega) (by omega) (by omega) (by omega), quic_get_round _ _ _ _ 5 6 rfl (by omega) (by omega) (by omega) (by omega) (by omega) (by omega), quic_get_round _ _ _ _ 6 7 rfl (by omega) (by omega) (by omega) (by omega) (by omega) (by omega), quic_get_round _ _ _ _ 7 8 rfl (by omega) (by omega) (by omega) (by omega) (by omega) (by omega), quic_get_end _ _ _ _ (by omega) (by omega)]
        simp only [pval]
        rfl


theorem pval_1 (s : ByteArray) : pval 1 s = bt s 0 % 64 := by simp [pval]
theorem pval_2 (s : ByteArray) : pval 2 s = bt s 0 % 64 * 256 + bt s 1 := by simp [pval]
theorem pval_4 (s : ByteArray) : pval 4 s = ((bt s 0 % 64 * 256 + bt s 1) * 256 + bt s 2) * 256 + bt s 3 := by simp [pval]
theorem pval_8 (s : ByteArray) : pval 8 s = ((((((bt s 0 % 64 * 256 + bt s 1) * 256 + bt s 2) * 256 + bt s 3) * 256 + bt s 4) * 256 + bt s 5) * 256 + bt s 6) * 256 + bt s 7 := by simp [pval]
theorem ref_get_round (k : Nat) (s : ByteArray) (x m i j : Int) (hj : j = i + 1) (h0 : 0 ≤ i) (h1 : i < m) (h2 : m ≤ s.size) (h3 : m ≤ 8) (hx : 0 ≤ x) (hx1 : x < 36028797018963968) :
    caduceusref01_Get.l1 (k + 1) s m x i = caduceusref01_Get.l1 k s m (x * 256 + bt s i) j := by
  subst hj
  have B := bt_range s i
  rw [caduceusref01_Get.l1, if_pos h1, if_pos h0, if_pos (by omega), w64 (n := 256 * x) (by omega) (by omega), w64 (n := bt s i) (by omega) (by omega), w64 (n := i + 1) (by omega) (by omega), w64 (by omega) (by omega), Int.mul_comm 256 x]
theorem ref_get_end (k : Nat) (s : ByteArray) (x m : Int) (h2 : m ≤ s.size) (h3 : 0 ≤ m) :
    caduceusref01_Get.l1 (k + 13) s m x m = some (if (pnum x).toList = (s.extract 0 m.toNat).toList then (x, ⟨#[]⟩, s.extract m.toNat s.size, 0) else (0, ⟨#[]⟩, ⟨#[]⟩, 3)) := by
  rw [caduceusref01_Get.l1, if_neg (by omega), ref_num_is k, Option.bind_some, if_pos h3, if_pos h2]
  split <;> rfl
theorem ref_get_at (k : Nat) (s : ByteArray) (h : 0 < s.size) : caduceusref01_Get.l0 (k + 5) s 1 0 = if (s.size : Int) < plong s then some (0, ⟨#[]⟩, ⟨#[]⟩, 7) else caduceusref01_Get.l1 (k + 4 - (bt s 0 / 64).toNat) s (plong s) (bt s 0 % 64) 1 := by
  have b0 := bt_range s 0
  have hm : wrap64 (Int.tmod (bt s 0) 64) = bt s 0 % 64 := by rw [Int.tmod_eq_emod_of_nonneg b0.1]; exact w64 (by omega) (by omega)
  have hd : Int.tdiv (bt s 0) 64 % 256 = bt s 0 / 64 := by rw [Int.tdiv_eq_ediv_of_nonneg b0.1]; omega
  have hs : 0 < (s.size : Int) := by omega
  have w1 : wrap64 (2 * 1) = 2 := w64 (by omega) (by omega)
  have w2 : wrap64 (2 * 2) = 4 := w64 (by omega) (by omega)
  have w3 : wrap64 (2 * 4) = 8 := w64 (by omega) (by omega)
  have v1 : wrap64 (0 + 1) = 1 := w64 (by omega) (by omega)
  have v2 : wrap64 (1 + 1) = 2 := w64 (by omega) (by omega)
  have v3 : wrap64 (2 + 1) = 3 := w64 (by omega) (by omega)
  unfold plong
  by_cases c0 : bt s 0 < 64
  · have e : bt s 0 / 64 = 0 := by omega
    rw [caduceusref01_Get.l0, if_pos hs, hm, hd, e, if_neg (by omega), if_pos c0]
    rfl
  · by_cases c1 : bt s 0 < 128
    · have e : bt s 0 / 64 = 1 := by omega
      rw [caduceusref01_Get.l0, if_pos hs, hm, hd, e, if_pos (by omega), w1, v1, caduceusref01_Get.l0, if_pos hs, hm, hd, e, if_neg (by omega), if_neg c0, if_pos c1]
      rfl
    · by_cases c2 : bt s 0 < 192
      · have e : bt s 0 / 64 = 2 := by omega
        rw [caduceusref01_Get.l0, if_pos hs, hm, hd, e, if_pos (by omega), w1, v1, caduceusref01_Get.l0, if_pos hs, hm, hd, e, if_pos (by omega), w2, v2, caduceusref01_Get.l0, if_pos hs, hm, hd, e, if_neg (by omega), if_neg c0, if_neg c1, if_pos c2]
        rfl
      · have e : bt s 0 / 64 = 3 := by omega
        rw [caduceusref01_Get.l0, if_pos hs, hm, hd, e, if_pos (by omega), w1, v1, caduceusref01_Get.l0, if_pos hs, hm, hd, e, if_pos (by omega), w2, v2, caduceusref01_Get.l0, if_pos hs, hm, hd, e, if_pos (by omega), w3, v3, caduceusref01_Get.l0, if_pos hs, hm, hd, e, if_neg (by omega), if_neg c0, if_neg c1, if_neg c2]
        rfl

theorem ref_get_is (k : Nat) (s : ByteArray) : caduceusref01_Get.f (k + 40) s = some ((getF s).1, ⟨#[]⟩, (getF s).2.1, (getF s).2.2) := by
  unfold caduceusref01_Get.f getF
  by_cases hs : s.size = 0
  · rw [if_pos ((ba_nil s).2 hs), if_pos hs]
  · rw [if_neg (fun h => hs ((ba_nil s).1 h)), if_neg hs, ref_get_at (k + 35) s (by omega)]
    by_cases hl : (s.size : Int) < plong s
    · rw [if_pos hl, if_pos hl]
    · rw [if_neg hl, if_neg hl]
      have B := fun i => bt_range s i
      have b0 := B 0; have b1 := B 1; have b2 := B 2; have b3 := B 3; have b4 := B 4; have b5 := B 5; have b6 := B 6; have b7 := B 7
      have hf := pval_fits s (by omega)
      obtain ⟨j, hj⟩ : ∃ j, k + 35 + 4 - (bt s 0 / 64).toNat = j + 1 + 1 + 1 + 1 + 1 + 1 + 1 + 13 := ⟨k + 35 + 4 - (bt s 0 / 64).toNat - 20, by omega⟩
      rw [hj]
      rcases plong_cases s with h | h | h | h
      · rw [h] at hl hf ⊢
        rw [ref_get_end _ _ _ _ (by omega) (by omega)]
        rw [← pval_1 s]
        by_cases hp : psize (pval 1 s) = 1
        · rw [if_pos (hf.1 hp), if_pos hp]
        · rw [if_neg (fun q => hp (hf.2 q)), if_neg hp]
      · rw [h] at hl hf ⊢
        rw [ref_get_round _ _ _ _ 1 2 rfl (by omega) (by omega) (by omega) (by omega) (by omega) (by omega), ref_get_end _ _ _ _ (by omega) (by omega)]
        rw [← pval_2 s]
        by_cases hp : psize (pval 2 s) = 2
        · rw [if_pos (hf.1 hp), if_pos hp]
        · rw [if_neg (fun q => hp (hf.2 q)), if_neg hp]
      · rw [h] at hl hf ⊢
        rw [ref_get_round _ _ _ _ 1 2 rfl (by omega) (by omega) (by omega) (by omega) (by omega) (by omega), ref_get_round _ _ _ _ 2 3 rfl (by omega) (by omega) (by omega) (by omega) (by omega) (by omega), ref_get_round _ _ _ _ 3 4 rfl (by omega) (by omega) (by omega) (by omega) (by omega) (by omega), ref_get_end _ _ _ _ (by omega) (by omega)]
        rw [← pval_4 s]
        by_cases hp : psize (pval 4 s) = 4
        · rw [if_pos (hf.1 hp), if_pos hp]
        · rw [if_neg (fun q => hp (hf.2 q)), if_neg hp]
      · rw [h] at hl hf ⊢
        rw [ref_get_round _ _ _ _ 1 2 rfl (by omega) (by omega) (by omega) (by omega) (by omega) (by omega), ref_get_round _ _ _ _ 2 3 rfl (by omega) (by omega) (by omega) (by omega) (by omega) (by omega), ref_get_round _ _ _ _ 3 4 rfl (by omega) (by omega) (by omega) (by omega) (by omega) (by omega), ref_get_round _ _ _ _ 4 5 rfl (by omega) (by omega) (by omega) (by omega) (by omega) (by omega), ref_get_round _ _ _ _ 5 6 rfl (by omega) (by omega) (by omega) (by omega) (by omega) (by omega), ref_get_round _ _ _ _ 6 7 rfl (by omega) (by omega) (by omega) (by omega) (by omega) (by omega), ref_get_round _ _ _ _ 7 8 rfl (by omega) (by omega) (by omega) (by omega) (by omega) (by omega), ref_get_end _ _ _ _ (by omega) (by omega)]
        rw [← pval_8 s]
        by_cases hp : psize (pval 8 s) = 8
        · rw [if_pos (hf.1 hp), if_pos hp]
        · rw [if_neg (fun q => hp (hf.2 q)), if_neg hp]

theorem getF_range (s : ByteArray) : 0 ≤ (getF s).1 ∧ (getF s).1 ≤ 4611686018427387903 ∧ 0 ≤ (getF s).2.2 := by
  unfold getF
  split
  · simp
  · split
    · simp
    · split
      · rename_i h
        have h1 : 1 ≤ plong s := by rcases plong_cases s with h | h | h | h <;> omega
        rcases psize_cases (pval (plong s) s) with ⟨g, _⟩ | ⟨g, h0, h1⟩ | ⟨g, h0, h1⟩ | ⟨g, h0, h1⟩ | ⟨g, h0, h1⟩ <;> (refine ⟨?_, ?_, Int.le_refl _⟩ <;> simp only <;> omega)
      · simp

/-- A text at the front of bytes: the text, the rest, the error. -/
def textF (s : ByteArray) : ByteArray × ByteArray × Int :=
  if (getF s).2.2 = 0 then
    if (getF s).1 > 65536 then (⟨#[]⟩, ⟨#[]⟩, 2)
    else if (getF s).1 > ((getF s).2.1.size : Int) then (⟨#[]⟩, ⟨#[]⟩, 7)
    else ((getF s).2.1.extract 0 (getF s).1.toNat, (getF s).2.1.extract (getF s).1.toNat (getF s).2.1.size, 0)
  else (⟨#[]⟩, ⟨#[]⟩, (getF s).2.2)
/-- A flag at the front of bytes: the number, the rest, the error. -/
def flagF (s : ByteArray) : Int × ByteArray × Int :=
  if s.size = 0 then (0, ⟨#[]⟩, 7) else if bt s 0 > 1 then (0, ⟨#[]⟩, 3) else (bt s 0, s.extract 1 s.size, 0)
/-- A number as a whole number. -/
def unfoldF (n : Int) : Int := if n % 2 = 1 then -(n / 2) - 1 else n / 2
/-- An item of a kind at the front of bytes: its number, its text, the rest, the error. -/
def takeF (s : ByteArray) (kind : Int) : Int × ByteArray × ByteArray × Int :=
  if kind = 4 then (0, (textF s).1, (textF s).2.1, (textF s).2.2)
  else if kind = 3 then ((flagF s).1, ⟨#[]⟩, (flagF s).2.1, (flagF s).2.2)
  else if kind = 2 then (unfoldF (getF s).1, ⟨#[]⟩, (getF s).2.1, (getF s).2.2)
  else ((getF s).1, ⟨#[]⟩, (getF s).2.1, (getF s).2.2)

theorem quic_flag_is (s : ByteArray) : quic_getFlag.f s = some (flagF s) := by
  unfold quic_getFlag.f flagF
  by_cases hs : s.size = 0
  · rw [if_pos ((ba_nil s).2 hs), if_pos hs]
  · rw [if_neg (fun h => hs ((ba_nil s).1 h)), if_neg hs, if_pos (by omega)]
    have b := bt_range s 0
    by_cases h : bt s 0 > 1
    · rw [if_pos h, if_pos h]
    · rw [if_neg h, if_neg h, if_pos (by omega), w64 (by omega) (by omega)]

def takeL : List Int → ByteArray → List (Int × Int × ByteArray) → List (Int × Int × ByteArray) × ByteArray × Int
  | [], s, acc => (acc, s, 0)
  | k :: ks, s, acc => if (takeF s k).2.2.2 = 0 then takeL ks (takeF s k).2.2.1 (acc ++ [(k, (takeF s k).1, (takeF s k).2.1)]) else ([], ⟨#[]⟩, (takeF s k).2.2.2)
def okKinds (ks : List Int) : Bool := ks.all fun k => decide (1 ≤ k) && decide (k ≤ 4)
def takesF (s : ByteArray) (ks : List Int) : List (Int × Int × ByteArray) × ByteArray × Int :=
  if ks.length > 4096 then ([], ⟨#[]⟩, 2) else if okKinds ks then takeL ks s [] else ([], ⟨#[]⟩, 1)
def qi (x : Int × Int × ByteArray) : S76 := ⟨x.1, x.2.1, x.2.2⟩
def ri (x : Int × Int × ByteArray) : S81 := ⟨x.1, x.2.1, x.2.2⟩

theorem rd_drop {l : List Int} {i : Nat} {k : Int} {ks : List Int} (h : l.drop i = k :: ks) : rd l (i : Int) = k ∧ i < l.length ∧ l.drop (i + 1) = ks := by
  have hi : i < l.length := by
    rcases Nat.lt_or_ge i l.length with g | g
    · exact g
    · rw [List.drop_eq_nil_of_le g] at h; cases h
  rw [List.drop_eq_getElem_cons hi] at h
  injection h with h1 h2
  refine ⟨?_, hi, h2⟩
  unfold rd
  rw [Int.toNat_natCast, List.getD_eq_getElem?_getD, List.getElem?_eq_getElem hi]
  exact h1

def mayF (x : Int × Int × ByteArray) : Bool :=
  if x.1 = 1 then decide (0 ≤ x.2.1) && decide (x.2.1 ≤ 4611686018427387903) && decide (x.2.2.size = 0)
  else if x.1 = 2 then decide (-2305843009213693952 ≤ x.2.1) && decide (x.2.1 ≤ 2305843009213693951) && decide (x.2.2.size = 0)
  else if x.1 = 3 then (decide (x.2.1 = 0) || decide (x.2.1 = 1)) && decide (x.2.2.size = 0)
  else if x.1 = 4 then decide (x.2.2.size ≤ 65536) && decide (x.2.1 = 0)
  else false
/-- A whole number as a number. -/
def foldF (z : Int) : Int := if z < 0 then -2 * z - 1 else 2 * z
/-- An item's bytes. -/
def oneF (x : Int × Int × ByteArray) : ByteArray :=
  if x.1 = 1 then pnum x.2.1
  else if x.1 = 2 then pnum (foldF x.2.1)
  else if x.1 = 3 then strOfNums [x.2.1]
  else pnum (x.2.2.size : Int) ++ x.2.2
theorem ba_nil_beq (s : ByteArray) : (s.toList == ([] : List UInt8)) = decide (s.size = 0) := by
  rw [Bool.eq_iff_iff]; simp only [beq_iff_eq, decide_eq_true_eq]; exact ba_nil s
theorem pnum_small (n : Int) : (pnum n).size ≤ 8 := by
  have := pnum_size n
  rcases psize_cases n with ⟨h, _⟩ | ⟨h, _⟩ | ⟨h, _⟩ | ⟨h, _⟩ | ⟨h, _⟩ <;> omega
theorem strOf_one (n : Int) : (strOfNums [n]).size = 1 := by rw [strOf_size]; rfl
theorem oneF_size (x : Int × Int × ByteArray) : (oneF x).size ≤ 8 + x.2.2.size := by
  unfold oneF
  have h1 := pnum_small x.2.1; have h2 := pnum_small (foldF x.2.1); have h3 := pnum_small (x.2.2.size : Int); have h4 := strOf_one x.2.1
  split
  · omega
  · split
    · omega
    · split
      · omega
      · rw [ByteArray.size_append]; omega

theorem bits_flag : Go.bits .and .i64 0 1 = 0 ∧ Go.bits .and .i64 1 1 = 1 := ⟨bits_mask .i64 63 (by decide) wraps_i64 1 (by decide) 0 (by decide) (by decide), bits_mask .i64 63 (by decide) wraps_i64 1 (by decide) 1 (by decide) (by decide)⟩

def joinF : ByteArray → List (Int × Int × ByteArray) → ByteArray
  | b, [] => b
  | b, x :: l => joinF (b ++ oneF x) l
def putF (l : List (Int × Int × ByteArray)) : ByteArray × Int := if l.all mayF then (joinF ⟨#[]⟩ l, 0) else (⟨#[]⟩, 1)
/-- A bound on items' bytes. -/
def boundF (l : List (Int × Int × ByteArray)) : Nat := (l.map fun x => 8 + x.2.2.size).sum

theorem rdI_drop {l : List (Int × Int × ByteArray)} {i : Nat} {x : Int × Int × ByteArray} {r : List (Int × Int × ByteArray)} (h : l.drop i = x :: r) : rd_T76 (l.map qi) (i : Int) = qi x ∧ i < l.length ∧ l.drop (i + 1) = r := by
  have hi : i < l.length := by
    rcases Nat.lt_or_ge i l.length with g | g
    · exact g
    · rw [List.drop_eq_nil_of_le g] at h; cases h
  rw [List.drop_eq_getElem_cons hi] at h
  injection h with h1 h2
  refine ⟨?_, hi, h2⟩
  unfold rd_T76
  rw [Int.toNat_natCast, List.getD_eq_getElem?_getD, List.getElem?_map, List.getElem?_eq_getElem hi, h1]
  rfl
theorem ba_app_assoc (a b c : ByteArray) : a ++ b ++ c = a ++ (b ++ c) := ByteArray.append_assoc
theorem ba_nil_app (a : ByteArray) : (⟨#[]⟩ : ByteArray) ++ a = a := by apply ba_ext; simp
theorem ba_app_nil (a : ByteArray) : a ++ (⟨#[]⟩ : ByteArray) = a := by apply ba_ext; simp
theorem ba_size_zero {a : ByteArray} (h : a.size = 0) : a = ⟨#[]⟩ := by
  apply ba_ext
  have : a.data.toList.length = 0 := by rw [ba_len]; exact h
  rw [List.length_eq_zero_iff.1 this]
theorem ba_extract (s : ByteArray) (i j : Nat) : (s.extract i j).data.toList = (s.data.toList.take j).drop i := by
  rw [ByteArray.data_extract, Array.toList_extract, List.extract_eq_drop_take', List.drop_take]
theorem ba_app (a b : ByteArray) : (a ++ b).data.toList = a.data.toList ++ b.data.toList := by simp
theorem ba_cut (a b : ByteArray) : (a ++ b).extract 0 a.size = a ∧ (a ++ b).extract a.size (a ++ b).size = b := by
  constructor
  · apply ba_ext
    rw [ba_extract, ba_app, List.take_left' (ba_len a)]
    rfl
  · apply ba_ext
    rw [ba_extract, ba_app, ByteArray.size_append, List.take_of_length_le (by rw [List.length_append, ba_len, ba_len]; omega), List.drop_left' (ba_len a)]
theorem ba_join (s : ByteArray) (m : Nat) (h : m ≤ s.size) : s.extract 0 m ++ s.extract m s.size = s := by
  apply ba_ext
  rw [ba_app, ba_extract, ba_extract, List.take_of_length_le (i := s.size) (by rw [ba_len]; omega), List.drop_zero, List.take_append_drop]
theorem bt_strOf (xs : List Int) (r : ByteArray) (hx : byteRow xs) (i : Nat) (hi : i < xs.length) : bt (strOfNums xs ++ r) (i : Int) = xs[i] := by
  have hs : i < (strOfNums xs ++ r).size := by rw [ByteArray.size_append, strOf_size]; omega
  have h1 := bt_get (strOfNums xs ++ r) i hs
  have h2 : (strOfNums xs ++ r).data.toList[i]'(by rw [ba_len]; exact hs) = UInt8.ofNat (xs[i]).toNat := by
    simp [strOf_data, List.getElem_append, hi]
  rw [h2] at h1
  have b := bt_range (strOfNums xs ++ r) (i : Int)
  have c := hx xs[i] (List.getElem_mem hi)
  have h3 := congrArg UInt8.toNat h1
  simp at h3
  omega

theorem getF_pnum (n : Int) (r : ByteArray) (h : psize n ≠ 0) : getF (pnum n ++ r) = (n, r, 0) := by
  have row := pnums_row n
  have hb := fun (i : Nat) (hi : i < (pnums n).length) => bt_strOf (pnums n) r row i hi
  have hsz := pnum_size n
  have key : plong (pnum n ++ r) = psize n ∧ pval (psize n) (pnum n ++ r) = n := by
    rcases psize_cases n with ⟨g, _⟩ | ⟨g, h0, h1⟩ | ⟨g, h0, h1⟩ | ⟨g, h0, h1⟩ | ⟨g, h0, h1⟩
    · contradiction
    · have e : pnums n = [n] := by unfold pnums; rw [g]; simp
      have b0 := hb 0 (by rw [e]; simp)
      simp only [e, List.getElem_cons_zero] at b0
      have b0' : bt (pnum n ++ r) 0 = n := by unfold pnum; rw [e]; simpa using b0
      rw [g]
      unfold plong
      rw [pval_1, b0']
      exact ⟨by rw [if_pos (by omega)], by omega⟩
    · have e : pnums n = [n / 256 + 64, n % 256] := by unfold pnums; rw [g]; simp
      have b0 := hb 0 (by rw [e]; simp); have b1 := hb 1 (by rw [e]; simp)
      simp only [e, List.getElem_cons_zero, List.getElem_cons_succ] at b0 b1
      have b0' : bt (pnum n ++ r) 0 = n / 256 + 64 := by unfold pnum; rw [e]; simpa using b0
      have b1' : bt (pnum n ++ r) 1 = n % 256 := by unfold pnum; rw [e]; simpa using b1
      rw [g]
      unfold plong
      rw [pval_2, b0', b1']
      exact ⟨by rw [if_neg (by omega), if_pos (by omega)], by omega⟩
    · have e : pnums n = [n / 16777216 + 128, n / 65536 % 256, n / 256 % 256, n % 256] := by unfold pnums; rw [g]; simp
      have b0 := hb 0 (by rw [e]; simp); have b1 := hb 1 (by rw [e]; simp); have b2 := hb 2 (by rw [e]; simp); have b3 := hb 3 (by rw [e]; simp)
      simp only [e, List.getElem_cons_zero, List.getElem_cons_succ] at b0 b1 b2 b3
      have b0' : bt (pnum n ++ r) 0 = n / 16777216 + 128 := by unfold pnum; rw [e]; simpa using b0
      have b1' : bt (pnum n ++ r) 1 = n / 65536 % 256 := by unfold pnum; rw [e]; simpa using b1
      have b2' : bt (pnum n ++ r) 2 = n / 256 % 256 := by unfold pnum; rw [e]; simpa using b2
      have b3' : bt (pnum n ++ r) 3 = n % 256 := by unfold pnum; rw [e]; simpa using b3
      rw [g]
      unfold plong
      rw [pval_4, b0', b1', b2', b3']
      exact ⟨by rw [if_neg (by omega), if_neg (by omega), if_pos (by omega)], by omega⟩
    · have e : pnums n = [n / 72057594037927936 + 192, n / 281474976710656 % 256, n / 1099511627776 % 256, n / 4294967296 % 256, n / 16777216 % 256, n / 65536 % 256, n / 256 % 256, n % 256] := by unfold pnums; rw [g]; simp
      have b0 := hb 0 (by rw [e]; simp); have b1 := hb 1 (by rw [e]; simp); have b2 := hb 2 (by rw [e]; simp); have b3 := hb 3 (by rw [e]; simp)
      have b4 := hb 4 (by rw [e]; simp); have b5 := hb 5 (by rw [e]; simp); have b6 := hb 6 (by rw [e]; simp); have b7 := hb 7 (by rw [e]; simp)
      simp only [e, List.getElem_cons_zero, List.getElem_cons_succ] at b0 b1 b2 b3 b4 b5 b6 b7
      have b0' : bt (pnum n ++ r) 0 = n / 72057594037927936 + 192 := by unfold pnum; rw [e]; simpa using b0
      have b1' : bt (pnum n ++ r) 1 = n / 281474976710656 % 256 := by unfold pnum; rw [e]; simpa using b1
      have b2' : bt (pnum n ++ r) 2 = n / 1099511627776 % 256 := by unfold pnum; rw [e]; simpa using b2
      have b3' : bt (pnum n ++ r) 3 = n / 4294967296 % 256 := by unfold pnum; rw [e]; simpa using b3
      have b4' : bt (pnum n ++ r) 4 = n / 16777216 % 256 := by unfold pnum; rw [e]; simpa using b4
      have b5' : bt (pnum n ++ r) 5 = n / 65536 % 256 := by unfold pnum; rw [e]; simpa using b5
      have b6' : bt (pnum n ++ r) 6 = n / 256 % 256 := by unfold pnum; rw [e]; simpa using b6
      have b7' : bt (pnum n ++ r) 7 = n % 256 := by unfold pnum; rw [e]; simpa using b7
      rw [g]
      unfold plong
      rw [pval_8, b0', b1', b2', b3', b4', b5', b6', b7']
      exact ⟨by rw [if_neg (by omega), if_neg (by omega), if_neg (by omega)], by omega⟩
  have hpos : 1 ≤ psize n := by
    rcases psize_cases n with ⟨g, _⟩ | ⟨g, _⟩ | ⟨g, _⟩ | ⟨g, _⟩ | ⟨g, _⟩ <;> omega
  have hs : (pnum n ++ r).size = (pnum n).size + r.size := ByteArray.size_append
  have cut := ba_cut (pnum n) r
  have et : (psize n).toNat = (pnum n).size := by omega
  unfold getF
  rw [if_neg (by omega), key.1, if_neg (by omega), key.2, if_pos rfl, et, cut.2]

theorem getF_ok (s : ByteArray) (h : (getF s).2.2 = 0) : s = pnum (getF s).1 ++ (getF s).2.1 ∧ psize (getF s).1 ≠ 0 := by
  unfold getF at h ⊢
  by_cases h1 : s.size = 0
  · rw [if_pos h1] at h; simp at h
  · rw [if_neg h1] at h ⊢
    by_cases h2 : (s.size : Int) < plong s
    · rw [if_pos h2] at h; simp at h
    · rw [if_neg h2] at h ⊢
      by_cases h3 : psize (pval (plong s) s) = plong s
      · rw [if_pos h3]
        have hp : 1 ≤ plong s := by rcases plong_cases s with g | g | g | g <;> omega
        have hf := (pval_fits s (by omega)).1 h3
        have e : pnum (pval (plong s) s) = s.extract 0 (plong s).toNat := ba_toList_inj.1 hf
        refine ⟨?_, by simp only; omega⟩
        simp only
        rw [e, ba_join s _ (by omega)]
      · rw [if_neg h3] at h; simp at h

theorem psize_nat {n : Nat} (h : n ≤ 4611686018427387903) : psize (n : Int) ≠ 0 := by
  rcases psize_cases (n : Int) with ⟨g, g2⟩ | ⟨g, _⟩ | ⟨g, _⟩ | ⟨g, _⟩ | ⟨g, _⟩ <;> omega
theorem textF_text (t r : ByteArray) (h : t.size ≤ 65536) : textF (pnum (t.size : Int) ++ t ++ r) = (t, r, 0) := by
  have g := getF_pnum (t.size : Int) (t ++ r) (psize_nat (by omega))
  have cut := ba_cut t r
  have hs : (t ++ r).size = t.size + r.size := ByteArray.size_append
  unfold textF
  rw [ba_app_assoc, g]
  simp only
  rw [if_pos trivial, if_neg (by omega), if_neg (by omega), Int.toNat_natCast, cut.1, cut.2]
theorem textF_ok (s : ByteArray) (h : (textF s).2.2 = 0) : s = pnum ((textF s).1.size : Int) ++ (textF s).1 ++ (textF s).2.1 ∧ (textF s).1.size ≤ 65536 := by
  have r := getF_range s
  unfold textF at h ⊢
  by_cases h1 : (getF s).2.2 = 0
  · rw [if_pos h1] at h ⊢
    by_cases h2 : (getF s).1 > 65536
    · rw [if_pos h2] at h; simp at h
    · rw [if_neg h2] at h ⊢
      by_cases h3 : (getF s).1 > ((getF s).2.1.size : Int)
      · rw [if_pos h3] at h; simp at h
      · rw [if_neg h3]
        simp only
        have g := getF_ok s h1
        have e : ((getF s).2.1.extract 0 (getF s).1.toNat).size = (getF s).1.toNat := by rw [ByteArray.size_extract]; omega
        rw [e]
        refine ⟨?_, by omega⟩
        rw [ba_app_assoc, ba_join _ _ (by omega), Int.toNat_of_nonneg r.1]
        exact g.1
  · rw [if_neg h1] at h; exact absurd h h1

theorem unfold_fold (z : Int) : unfoldF (foldF z) = z := by
  unfold unfoldF foldF
  split <;> split <;> omega
theorem fold_unfold (n : Int) (h0 : 0 ≤ n) (h1 : n ≤ 4611686018427387903) : foldF (unfoldF n) = n ∧ -2305843009213693952 ≤ unfoldF n ∧ unfoldF n ≤ 2305843009213693951 := by
  unfold unfoldF foldF
  refine ⟨?_, ?_, ?_⟩
  · split <;> split <;> omega
  · split <;> omega
  · split <;> omega
theorem psize_in {n : Int} (h0 : 0 ≤ n) (h1 : n ≤ 4611686018427387903) : psize n ≠ 0 := by
  rcases psize_cases n with ⟨g, g2⟩ | ⟨g, _⟩ | ⟨g, _⟩ | ⟨g, _⟩ | ⟨g, _⟩ <;> omega
theorem takeF_one (x : Int × Int × ByteArray) (r : ByteArray) (hm : mayF x = true) : takeF (oneF x ++ r) x.1 = (x.2.1, x.2.2, r, 0) := by
  obtain ⟨kind, n, s⟩ := x
  unfold mayF at hm
  unfold takeF oneF
  by_cases h1 : kind = 1
  · simp only [h1, if_true, Bool.and_eq_true, decide_eq_true_eq] at hm ⊢
    rw [if_neg (by omega), if_neg (by omega), if_neg (by omega), getF_pnum n r (psize_in hm.1.1 hm.1.2), ba_size_zero hm.2]
  · simp only [h1, if_false] at hm ⊢
    by_cases h2 : kind = 2
    · simp only [h2, if_true, Bool.and_eq_true, decide_eq_true_eq] at hm ⊢
      have hf : 0 ≤ foldF n ∧ foldF n ≤ 4611686018427387903 := by unfold foldF; split <;> omega
      rw [if_neg (by omega), if_neg (by omega), getF_pnum _ r (psize_in hf.1 hf.2), unfold_fold, ba_size_zero hm.2]
    · simp only [h2, if_false] at hm ⊢
      by_cases h3 : kind = 3
      · simp only [h3, if_true, Bool.and_eq_true, Bool.or_eq_true, decide_eq_true_eq] at hm ⊢
        rw [if_neg (by omega)]
        have hb := bt_strOf [n] r (by intro y hy; simp at hy; omega) 0 (by simp)
        simp only [List.getElem_cons_zero] at hb
        have hb' : bt (strOfNums [n] ++ r) 0 = n := by simpa using hb
        have cut := (ba_cut (strOfNums [n]) r).2
        rw [strOf_one] at cut
        unfold flagF
        rw [if_neg (by rw [ByteArray.size_append, strOf_one]; omega), hb', if_neg (by omega), cut, ba_size_zero hm.2]
      · simp only [h3, if_false] at hm ⊢
        by_cases h4 : kind = 4
        · simp only [h4, if_true, Bool.and_eq_true, decide_eq_true_eq] at hm ⊢
          rw [textF_text s r hm.1, hm.2]
        · simp only [h4, if_false] at hm
          cases hm
theorem flagF_ok (s : ByteArray) (h : (flagF s).2.2 = 0) : s = strOfNums [(flagF s).1] ++ (flagF s).2.1 ∧ ((flagF s).1 = 0 ∨ (flagF s).1 = 1) := by
  unfold flagF at h ⊢
  by_cases h1 : s.size = 0
  · rw [if_pos h1] at h; simp at h
  · rw [if_neg h1] at h ⊢
    by_cases h2 : bt s 0 > 1
    · rw [if_pos h2] at h; simp at h
    · rw [if_neg h2]
      simp only
      have b := bt_range s 0
      refine ⟨?_, by omega⟩
      have e : strOfNums [bt s 0] = s.extract 0 1 := by
        apply ba_ext
        rw [ext_take s 1 (by omega), strOf_data]
        simp [List.range, List.range.loop]
      rw [e, ba_join s 1 (by omega)]
theorem takeF_ok (s : ByteArray) (kind : Int) (hk : 1 ≤ kind ∧ kind ≤ 4) (h : (takeF s kind).2.2.2 = 0) : s = oneF (kind, (takeF s kind).1, (takeF s kind).2.1) ++ (takeF s kind).2.2.1 ∧ mayF (kind, (takeF s kind).1, (takeF s kind).2.1) = true := by
  unfold takeF at h ⊢
  by_cases h4 : kind = 4
  · simp only [h4, if_true] at h ⊢
    have g := textF_ok s h
    refine ⟨by simp only [oneF]; exact g.1, by simp [mayF]; exact g.2⟩
  · simp only [h4, if_false] at h ⊢
    by_cases h3 : kind = 3
    · simp only [h3, if_true] at h ⊢
      have g := flagF_ok s h
      refine ⟨by simp only [oneF]; exact g.1, ?_⟩
      have e0 : (⟨#[]⟩ : ByteArray).size = 0 := rfl
      rcases g.2 with q | q <;> simp [mayF, q, e0]
    · simp only [h3, if_false] at h ⊢
      have e0 : (⟨#[]⟩ : ByteArray).size = 0 := rfl
      by_cases h2 : kind = 2
      · simp only [h2, if_true] at h ⊢
        have g := getF_ok s h
        have r := getF_range s
        have f := fold_unfold _ r.1 r.2.1
        refine ⟨by simp only [oneF]; simp [f.1]; exact g.1, by simp [mayF, e0, f.2]⟩
      · simp only [h2, if_false] at h ⊢
        have h1 : kind = 1 := by omega
        subst h1
        have g := getF_ok s h
        have r := getF_range s
        refine ⟨by simp only [oneF]; simp; exact g.1, by simp [mayF, e0, r.1, r.2.1]⟩

/-- Items' bytes. -/
def catF : List (Int × Int × ByteArray) → ByteArray
  | [] => ⟨#[]⟩
  | x :: l => oneF x ++ catF l
theorem joinF_cat : ∀ (l : List (Int × Int × ByteArray)) (b : ByteArray), joinF b l = b ++ catF l
  | [], b => by simp only [joinF, catF, ba_app_nil]
  | x :: l, b => by simp only [joinF, catF, joinF_cat l, ba_app_assoc]
theorem takeL_cat : ∀ (l : List (Int × Int × ByteArray)) (r : ByteArray) (acc : List (Int × Int × ByteArray)), l.all mayF = true → takeL (l.map (·.1)) (catF l ++ r) acc = (acc ++ l, r, 0)
  | [], r, acc, _ => by simp [takeL, catF, ba_nil_app]
  | x :: l, r, acc, h => by
    simp only [List.all_cons, Bool.and_eq_true] at h
    simp only [List.map_cons, takeL, catF, ba_app_assoc]
    rw [takeF_one x (catF l ++ r) h.1]
    simp only
    rw [if_pos trivial, takeL_cat l r _ h.2]
    simp
theorem okKinds_may (l : List (Int × Int × ByteArray)) (h : l.all mayF = true) : okKinds (l.map (·.1)) = true := by
  unfold okKinds
  rw [List.all_map]
  rw [List.all_eq_true] at h ⊢
  intro x hx
  have hm := h x hx
  unfold mayF at hm
  simp only [Function.comp, Bool.and_eq_true, decide_eq_true_eq]
  by_cases h1 : x.1 = 1
  · omega
  · by_cases h2 : x.1 = 2
    · omega
    · by_cases h3 : x.1 = 3
      · omega
      · by_cases h4 : x.1 = 4
        · omega
        · simp [h1, h2, h3, h4] at hm
theorem quic_take_is (k : Nat) (s : ByteArray) (kind : Int) (h : kind = 1 ∨ kind = 3) : quic_take.f (k + 12) s kind = some (kind, takeF s kind) := by
  have r := getF_range s
  unfold quic_take.f takeF
  rcases h with rfl | rfl
  · rw [if_neg (by decide), if_neg (by decide), if_neg (by decide), if_neg (by decide), if_neg (by decide), if_neg (by decide), quic_get_is, Option.bind_some]
  · rw [if_neg (show ¬ (3 : Int) = 4 by decide), if_neg (show ¬ (3 : Int) = 4 by decide), if_pos rfl, if_pos rfl, quic_flag_is, Option.bind_some]
theorem ref_take_is (k : Nat) (s : ByteArray) (kind : Int) (h : kind = 1 ∨ kind = 3) : caduceusref01_take.f (k + 41) s kind = some (takeF s kind) := by
  have r := getF_range s
  unfold caduceusref01_take.f takeF
  rcases h with rfl | rfl
  · rw [if_neg (by decide), if_neg (by decide), if_neg (by decide), if_neg (by decide), if_neg (by decide), ref_get_is, Option.bind_some, if_neg (by decide), caduceusref01_take.j0, if_neg (by decide), if_neg (by decide)]
  · rw [if_neg (show ¬ (3 : Int) = 4 by decide), if_neg (show ¬ (3 : Int) = 4 by decide), if_pos rfl, if_pos rfl]
    unfold flagF
    by_cases hs : s.size = 0
    · rw [if_pos ((ba_nil s).2 hs), if_pos hs]
    · rw [if_neg (fun h => hs ((ba_nil s).1 h)), if_neg hs, if_pos (by omega)]
      have b := bt_range s 0
      by_cases h : bt s 0 > 1
      · rw [if_pos h, if_pos h]
      · rw [if_neg h, if_neg h, if_pos (by omega), w64 (by omega) (by omega)]
theorem quic_Take_l1 (l : List Int) (hl : l.length ≤ 4096) : ∀ (ks : List Int) (i : Nat) (s : ByteArray) (acc : List (Int × Int × ByteArray)) (k : Nat), l.drop i = ks → acc.length = i → ks.length + 20 ≤ k → (∀ c ∈ ks, c = 1 ∨ c = 3) →
    quic_Take.l1 k s (acc.map qi) l (l.length : Int) (i : Int) = some ((takeL ks s acc).1.map qi, (takeL ks s acc).2) := by
  intro ks
  induction ks with
  | nil =>
    intro i s acc k h ha hk _
    obtain ⟨k, rfl⟩ : ∃ m, k = m + 1 := ⟨k - 1, by omega⟩
    have : l.length ≤ i := List.drop_eq_nil_iff.1 h
    rw [quic_Take.l1, if_neg (by omega)]
    rfl
  | cons c ks ih =>
    intro i s acc k h ha hk hks
    simp only [List.length_cons] at hk
    obtain ⟨k, rfl⟩ : ∃ m, k = m + 12 + 1 := ⟨k - 13, by omega⟩
    obtain ⟨hr, hi, hd⟩ := rd_drop h
    rw [quic_Take.l1, if_pos (by omega), if_pos (by omega), if_pos (by omega), hr, quic_take_is _ _ _ (hks c (by simp)), Option.bind_some]
    simp only [takeL]
    by_cases e : (takeF s c).2.2.2 = 0
    · rw [if_pos e, if_pos e, if_pos (by rw [List.length_map]; omega), w64 (by omega) (by omega)]
      have := ih (i + 1) (takeF s c).2.2.1 (acc ++ [(c, (takeF s c).1, (takeF s c).2.1)]) (k + 12) hd (by simp [ha]) (by omega) (fun x hx => hks x (by simp [hx]))
      rw [List.map_append] at this
      exact this
    · rw [if_neg e, if_neg e]
      rfl
theorem quic_Take_l0 (s : ByteArray) (l : List Int) (acc : List S76) (hl : l.length ≤ 4096) : ∀ (ks : List Int) (i : Nat) (k : Nat), l.drop i = ks → ks.length + 1 ≤ k → (∀ c ∈ ks, c = 1 ∨ c = 3) →
    ∃ k', k ≤ k' + ks.length + 1 ∧ quic_Take.l0 k s l acc l (l.length : Int) (i : Int) = quic_Take.l1 k' s acc l (l.length : Int) 0 := by
  intro ks
  induction ks with
  | nil =>
    intro i k h hk _
    obtain ⟨k, rfl⟩ : ∃ m, k = m + 1 := ⟨k - 1, by omega⟩
    have : l.length ≤ i := List.drop_eq_nil_iff.1 h
    exact ⟨k, by simp, by rw [quic_Take.l0, if_neg (by omega)]⟩
  | cons c ks ih =>
    intro i k h hk hks
    simp only [List.length_cons] at hk
    obtain ⟨k, rfl⟩ : ∃ m, k = m + 1 := ⟨k - 1, by omega⟩
    obtain ⟨hr, hi, hd⟩ := rd_drop h
    rw [quic_Take.l0, if_pos (by omega), if_pos (by omega), if_pos (by omega), hr]
    obtain ⟨k', h1, h2⟩ := ih (i + 1) k hd (by omega) (fun x hx => hks x (by simp [hx]))
    refine ⟨k', by simp only [List.length_cons]; omega, ?_⟩
    have hc := hks c (by simp)
    rw [if_neg (by omega), if_neg (by omega), w64 (by omega) (by omega)]
    exact h2
theorem okKinds_13 {l : List Int} (h : ∀ c ∈ l, c = 1 ∨ c = 3) : okKinds l = true := by
  unfold okKinds
  rw [List.all_eq_true]
  intro c hc
  have := h c hc
  simp only [Bool.and_eq_true, decide_eq_true_eq]
  omega
theorem quic_Take_is (s : ByteArray) (l : List Int) (k : Nat) (hk : 2 * l.length + 40 ≤ k) (h13 : ∀ c ∈ l, c = 1 ∨ c = 3 := by simp) (hl : l.length ≤ 4096 := by simp) : quic_Take.f k s l = some ((takesF s l).1.map qi, (takesF s l).2) := by
  unfold quic_Take.f takesF
  rw [if_neg (by omega), if_neg (by omega)]
  obtain ⟨k', h1, h2⟩ := quic_Take_l0 s l [] (by omega) l 0 k rfl (by omega) h13
  have h2' : quic_Take.l0 k s l [] l (l.length : Int) 0 = _ := h2
  rw [h2', if_pos (okKinds_13 h13)]
  exact quic_Take_l1 l (by omega) l 0 s [] k' rfl rfl (by omega) h13
theorem ref_Take_l1 (l : List Int) (hl : l.length ≤ 4096) : ∀ (ks : List Int) (i : Nat) (s : ByteArray) (acc : List (Int × Int × ByteArray)) (k : Nat), l.drop i = ks → acc.length = i → ks.length + 50 ≤ k → (∀ c ∈ ks, c = 1 ∨ c = 3) →
    caduceusref01_Take.l1 k l (i : Int) (acc.map ri) s 0 = some ((takeL ks s acc).1.map ri, (takeL ks s acc).2) := by
  intro ks
  induction ks with
  | nil =>
    intro i s acc k h ha hk _
    obtain ⟨k, rfl⟩ : ∃ m, k = m + 1 := ⟨k - 1, by omega⟩
    have : l.length ≤ i := List.drop_eq_nil_iff.1 h
    rw [caduceusref01_Take.l1, if_neg (by omega)]
    rfl
  | cons c ks ih =>
    intro i s acc k h ha hk hks
    simp only [List.length_cons] at hk
    obtain ⟨k, rfl⟩ : ∃ m, k = m + 41 + 1 := ⟨k - 42, by omega⟩
    obtain ⟨hr, hi, hd⟩ := rd_drop h
    rw [caduceusref01_Take.l1, if_pos (by omega), if_pos (by omega), hr, ref_take_is _ _ _ (hks c (by simp)), Option.bind_some]
    simp only [takeL]
    by_cases e : (takeF s c).2.2.2 = 0
    · rw [if_pos e, if_pos e, if_pos (by rw [List.length_map]; omega), w64 (by omega) (by omega)]
      have := ih (i + 1) (takeF s c).2.2.1 (acc ++ [(c, (takeF s c).1, (takeF s c).2.1)]) (k + 41) hd (by simp [ha]) (by omega) (fun x hx => hks x (by simp [hx]))
      rw [List.map_append] at this
      exact this
    · rw [if_neg e, if_neg e]
      rfl
theorem ref_Take_l0 (s : ByteArray) (l : List Int) (hl : l.length ≤ 4096) : ∀ (ks : List Int) (i : Nat) (k : Nat), l.drop i = ks → ks.length + 1 ≤ k → (∀ c ∈ ks, c = 1 ∨ c = 3) →
    ∃ k', k ≤ k' + ks.length + 1 ∧ caduceusref01_Take.l0 k s l (i : Int) = caduceusref01_Take.l1 k' l 0 [] s 0 := by
  intro ks
  induction ks with
  | nil =>
    intro i k h hk _
    obtain ⟨k, rfl⟩ : ∃ m, k = m + 1 := ⟨k - 1, by omega⟩
    have : l.length ≤ i := List.drop_eq_nil_iff.1 h
    exact ⟨k, by simp, by rw [caduceusref01_Take.l0, if_neg (by omega)]⟩
  | cons c ks ih =>
    intro i k h hk hks
    simp only [List.length_cons] at hk
    obtain ⟨k, rfl⟩ : ∃ m, k = m + 1 := ⟨k - 1, by omega⟩
    obtain ⟨hr, hi, hd⟩ := rd_drop h
    rw [caduceusref01_Take.l0, if_pos (by omega), if_pos (by omega), hr]
    obtain ⟨k', h1, h2⟩ := ih (i + 1) k hd (by omega) (fun x hx => hks x (by simp [hx]))
    refine ⟨k', by simp only [List.length_cons]; omega, ?_⟩
    have hc := hks c (by simp)
    rw [if_neg (by omega), if_neg (by omega), w64 (by omega) (by omega)]
    exact h2
theorem ref_Take_is (s : ByteArray) (l : List Int) (k : Nat) (hk : 2 * l.length + 60 ≤ k) (h13 : ∀ c ∈ l, c = 1 ∨ c = 3 := by simp) (hl : l.length ≤ 4096 := by simp) : caduceusref01_Take.f k s l = some ((takesF s l).1.map ri, (takesF s l).2) := by
  unfold caduceusref01_Take.f takesF
  rw [if_neg (by omega), if_neg (by omega)]
  obtain ⟨k', h1, h2⟩ := ref_Take_l0 s l (by omega) l 0 k rfl (by omega) h13
  have h2' : caduceusref01_Take.l0 k s l 0 = _ := h2
  rw [h2', if_pos (okKinds_13 h13)]
  exact ref_Take_l1 l (by omega) l 0 s [] k' rfl rfl (by omega) h13
theorem quic_one_is (k : Nat) (x : Int × Int × ByteArray) (h : x.1 = 1 ∨ x.1 = 3) (hm : mayF x = true) : quic_one.f (k + 24) x.1 x.2.1 x.2.2 = some (oneF x, true) := by
  obtain ⟨kind, n, s⟩ := x
  unfold quic_one.f oneF
  simp only [ba_nil_beq]
  rcases h with h | h
  · obtain rfl : kind = 1 := h
    have e : mayF (1, n, s) = (decide (0 ≤ n) && decide (n ≤ 4611686018427387903) && decide (s.size = 0)) := rfl
    rw [e] at hm
    simp only [Bool.and_eq_true, decide_eq_true_eq] at hm
    simp only [if_true]
    rw [quic_num_is, Option.bind_some, if_pos hm.1.1, if_pos hm.1.2, decide_eq_true hm.2]
  · obtain rfl : kind = 3 := h
    have e : mayF (3, n, s) = ((decide (n = 0) || decide (n = 1)) && decide (s.size = 0)) := rfl
    rw [e] at hm
    simp only [Bool.and_eq_true, Bool.or_eq_true, decide_eq_true_eq] at hm
    rw [if_neg (show ¬ (3 : Int) = 1 by decide), if_neg (show ¬ (3 : Int) = 2 by decide), if_pos (show (3 : Int) = 3 from rfl), Option.bind_some, decide_eq_true hm.2, if_neg (show ¬ (3 : Int) = 1 by decide), if_neg (show ¬ (3 : Int) = 2 by decide), if_pos (show (3 : Int) = 3 from rfl)]
    rcases hm.1 with rfl | rfl
    · rw [if_pos rfl, bits_flag.1]; rfl
    · rw [if_neg (show ¬ (1 : Int) = 0 by decide), if_pos rfl, bits_flag.2]; rfl
theorem quic_Put_l0 (l : List (Int × Int × ByteArray)) (hl : l.length ≤ 4096) : ∀ (r : List (Int × Int × ByteArray)) (i : Nat) (b : ByteArray) (k : Nat), l.drop i = r → b.size + boundF r ≤ 140737488355328 → r.length + 30 ≤ k → (∀ x ∈ r, x.1 = 1 ∨ x.1 = 3) → r.all mayF = true →
    quic_Put.l0 k (l.map qi) b (i : Int) = some (joinF b r, 0) := by
  intro r
  induction r with
  | nil =>
    intro i b k h hb hk _ _
    obtain ⟨k, rfl⟩ : ∃ m, k = m + 1 := ⟨k - 1, by omega⟩
    have : l.length ≤ i := List.drop_eq_nil_iff.1 h
    rw [quic_Put.l0, if_neg (by rw [List.length_map]; omega)]
    rfl
  | cons x r ih =>
    intro i b k h hb hk h13 hma
    simp only [List.length_cons] at hk
    simp only [List.all_cons, Bool.and_eq_true] at hma
    obtain ⟨k, rfl⟩ : ∃ m, k = m + 24 + 1 := ⟨k - 25, by omega⟩
    obtain ⟨hr, hi, hd⟩ := rdI_drop h
    have hbs : boundF (x :: r) = 8 + x.2.2.size + boundF r := by simp [boundF]
    rw [quic_Put.l0, if_pos (by rw [List.length_map]; omega), if_pos (by omega), hr]
    have ht' : quic_one.f (k + 24) (qi x).f0 (qi x).f1 (qi x).f2 = some (oneF x, true) := quic_one_is k x (h13 x (by simp)) hma.1
    rw [ht', Option.bind_some]
    have os := oneF_size x
    simp only [if_true]
    rw [if_pos (by omega), w64 (by omega) (by omega)]
    exact ih (i + 1) (b ++ oneF x) (k + 24) hd (by rw [ByteArray.size_append]; omega) (by omega) (fun y hy => h13 y (by simp [hy])) hma.2
theorem quic_Put_is (l : List (Int × Int × ByteArray)) (hl : l.length ≤ 4096) (hb : boundF l ≤ 140737488355328) (k : Nat) (hk : l.length + 30 ≤ k) (h13 : ∀ x ∈ l, x.1 = 1 ∨ x.1 = 3) (hma : l.all mayF = true) : quic_Put.f k (l.map qi) = some (putF l) := by
  unfold quic_Put.f putF
  rw [if_neg (by rw [List.length_map]; omega), if_pos hma]
  exact quic_Put_l0 l hl l 0 ⟨#[]⟩ k rfl (by have e : (⟨#[]⟩ : ByteArray).size = 0 := rfl; omega) hk h13 hma
theorem lift {α : Type} {f : Nat → Option α} (hm : ∀ k, LeO (f k) (f (k + 1))) {a b : Nat} (h : a ≤ b) {r : α} (e : f a = some r) : f b = some r := by
  obtain ⟨d, rfl⟩ : ∃ d, b = a + d := ⟨b - a, by omega⟩
  clear h
  induction d with
  | zero => exact e
  | succ d ih => exact hm _ _ ih
theorem wrapn {n : Nat} (h : n ≤ 1000000) : wrap64 ((n : Int) + 1) = ((n + 1 : Nat) : Int) := by unfold wrap64; omega
theorem wrapp {n : Nat} (h : n ≤ 1000000) (h0 : 0 < n) : wrap64 ((n : Int) - 1) = ((n - 1 : Nat) : Int) := by unfold wrap64; omega
theorem drop_parts {α : Type} {l : List α} {i : Nat} {x : α} {r : List α} (h : l.drop i = x :: r) : l[i]? = some x ∧ i < l.length ∧ l.drop (i + 1) = r := by
  have hi : i < l.length := by
    rcases Nat.lt_or_ge i l.length with g | g
    · exact g
    · rw [List.drop_eq_nil_of_le g] at h; cases h
  rw [List.drop_eq_getElem_cons hi] at h
  injection h with h1 h2
  exact ⟨by rw [List.getElem?_eq_getElem hi, h1], hi, h2⟩
@[reducible] def toR (x : S53) : S62 := ⟨x.f0, x.f1, x.f2⟩
theorem rd_int {l : List Int} {i : Nat} {x : Int} (h : l[i]? = some x) : rd l (i : Int) = x := by
  unfold rd; rw [Int.toNat_natCast, List.getD_eq_getElem?_getD, h]; rfl
theorem rd_M {l : List S53} {i : Nat} {x : S53} (h : l[i]? = some x) : rd_T53 l (i : Int) = x := by
  unfold rd_T53; rw [Int.toNat_natCast, List.getD_eq_getElem?_getD, h]; rfl
theorem rd_R {l : List S53} {i : Nat} {x : S53} (h : l[i]? = some x) : rd_T62 (l.map toR) (i : Int) = toR x := by
  unfold rd_T62; rw [Int.toNat_natCast, List.getD_eq_getElem?_getD, List.getElem?_map, h]; rfl

theorem view_nodes_is (l : List S53) (hl : l.length ≤ 1000) : ∀ (r : List S53) (i k : Nat) (acc : List Int), l.drop i = r → i + r.length = l.length → acc.length = i → r.length < k → view_nodes.l0 k acc l (l.length : Int) (i : Int) = some (acc ++ r.map (·.f0)) := by
  intro r
  induction r with
  | nil =>
    intro i k acc hd hi ha hk
    obtain ⟨k, rfl⟩ : ∃ q, k = q + 1 := ⟨k - 1, by simp at hk; omega⟩
    simp only [view_nodes.l0]
    rw [if_neg (by simp at hi; omega)]
    simp
  | cons x r ih =>
    intro i k acc hd hi ha hk
    obtain ⟨k, rfl⟩ : ∃ q, k = q + 1 := ⟨k - 1, by simp at hk; omega⟩
    obtain ⟨hx, hlt, hd2⟩ := drop_parts hd
    simp only [view_nodes.l0]
    rw [if_pos (by omega), if_pos (by omega), if_pos (by omega), if_pos (by omega), rd_M hx, wrapn (by omega), ih (i + 1) k _ hd2 (by simp at hi; omega) (by simp; omega) (by simp at hk; omega)]
    simp
theorem view_nodes_f (l : List S53) (hl : l.length ≤ 1000) (k : Nat) (hk : l.length < k) : view_nodes.f k l = some (l.map (·.f0)) := by
  have h := view_nodes_is l hl l 0 k [] rfl (by omega) rfl hk
  simpa [view_nodes.f] using h

def nodeB (n : Int) : Bool := decide (1 ≤ n) && decide (n ≤ 15)
theorem ring_node_is (n : Int) : ring_node.f n = some (nodeB n) := by
  unfold ring_node.f nodeB
  by_cases h : n ≥ 1
  · rw [if_pos h, decide_eq_true (show 1 ≤ n from h), Bool.true_and]
  · rw [if_neg h, decide_eq_false (show ¬ 1 ≤ n from h), Bool.false_and]
/-- Nodes, rising, each beyond p. -/
def nodesF : Option Int → List Int → Bool
  | _, [] => true
  | p, n :: r => nodeB n && (p.all (fun q => decide (q < n))) && nodesF (some n) r
theorem ring_Nodes_is (l : List Int) (hl : l.length ≤ 1000) : ∀ (r : List Int) (i k : Nat) (p : Option Int), l.drop i = r → i + r.length = l.length → (i = 0 ∧ p = none ∨ 0 < i ∧ ∃ q, p = some q ∧ l[i - 1]? = some q) → r.length < k → ring_Nodes.l0 k l l (l.length : Int) (i : Int) = some (nodesF p r) := by
  intro r
  induction r with
  | nil =>
    intro i k p hd hi hp hk
    obtain ⟨k, rfl⟩ : ∃ q, k = q + 1 := ⟨k - 1, by simp at hk; omega⟩
    simp only [ring_Nodes.l0]
    rw [if_neg (by simp at hi; omega)]
    rfl
  | cons x r ih =>
    intro i k p hd hi hp hk
    obtain ⟨k, rfl⟩ : ∃ q, k = q + 1 := ⟨k - 1, by simp at hk; omega⟩
    obtain ⟨hx, hlt, hd2⟩ := drop_parts hd
    have ih' := ih (i + 1) k (some x) hd2 (by simp at hi; omega) (.inr ⟨by omega, x, rfl, by simpa using hx⟩) (by simp at hk; omega)
    simp only [ring_Nodes.l0]
    rw [if_pos (by omega), if_pos (by omega), if_pos (by omega), rd_int hx, ring_node_is, Option.bind_some, wrapn (by omega)]
    simp only [nodesF]
    by_cases hn : nodeB x = true
    · rw [if_pos hn, hn, Bool.true_and]
      rcases hp with ⟨rfl, rfl⟩ | ⟨h0, q, rfl, hq⟩
      · rw [if_neg (by omega), ih']
        rfl
      · rw [if_pos (by omega), wrapp (by omega) h0, if_pos (by omega), if_pos (by omega), rd_int hq]
        by_cases hlt2 : q < x
        · rw [if_neg (by omega), ih']
          simp [hlt2]
        · rw [if_pos (by omega)]
          simp [hlt2]
    · rw [if_neg hn]
      have hn' : nodeB x = false := by simpa using hn
      rw [hn']
      rfl
theorem ring_Nodes_f (l : List Int) (hl : l.length ≤ 1000) (k : Nat) (hk : l.length < k) : ring_Nodes.f k l = some (nodesF none l) :=
  ring_Nodes_is l hl l 0 k none rfl (by omega) (.inl ⟨rfl, rfl⟩) hk

def countB (n : Int) : Bool := decide (1 ≤ n) && decide (n ≤ 1099511627775)
/-- May a view be? -/
def chkF (e : Int) (l : List S53) : Bool := countB e && (decide (0 < l.length) && (nodesF none (l.map (·.f0)) && l.all (fun m => countB m.f1)))
theorem idxF_all (p : S53 → Bool) : ∀ (l : List S53) (i : Int), 0 ≤ i → (!(decide (0 ≤ idxF p l i))) = l.all (fun x => !p x) := by
  intro l
  induction l with
  | nil => intro i hi; rfl
  | cons x l ih =>
    intro i hi
    rw [List.all_cons]
    by_cases h : p x = true
    · have e : idxF p (x :: l) i = i := by unfold idxF; rw [if_pos h]
      rw [e, decide_eq_true hi, h]; rfl
    · have h' : p x = false := by simpa using h
      have e : idxF p (x :: l) i = idxF p l (i + 1) := by rw [idxF, if_neg h]
      rw [e, ih (i + 1) (by omega), h']
      rfl
theorem view_Check_f (e : Int) (l : List S53) (hl : l.length ≤ 1000) (k : Nat) (hk : l.length < k) : view_Check.f k e l = some (chkF e l) := by
  unfold view_Check.f chkF
  rw [view_count_is, Option.bind_some]
  show (if countB e = true then _ else _) = _
  by_cases h1 : countB e = true
  · rw [if_pos h1, h1, Bool.true_and]
    by_cases h2 : (l.length : Int) > 0
    · rw [if_pos h2, view_nodes_f l hl k hk, Option.bind_some, ring_Nodes_f _ (by simpa using hl) k (by simpa using hk), Option.bind_some, decide_eq_true (show 0 < l.length by omega), Bool.true_and]
      by_cases h3 : nodesF none (l.map (·.f0)) = true
      · rw [if_pos h3, h3, Bool.true_and, idxF_all _ _ _ (by omega)]
        congr 2
        funext m
        simp [lifeBad, countB]
      · rw [if_neg h3]
        have h3' : nodesF none (l.map (·.f0)) = false := by simpa using h3
        rw [h3']; rfl
    · rw [if_neg h2, decide_eq_false (show ¬ 0 < l.length by omega)]; rfl
  · rw [if_neg h1]
    have h1' : countB e = false := by simpa using h1
    rw [h1']; rfl

theorem ref_Check_is (e : Int) (l : List S53) (hl : l.length ≤ 1000) : ∀ (r : List S53) (i k : Nat) (p : Option Int), l.drop i = r → i + r.length = l.length → (i = 0 ∧ p = none ∨ 0 < i ∧ ∃ q, p = some q.f0 ∧ l[i - 1]? = some q) → r.length < k →
    caduceusref14_Check.l0 k (i : Int) e (l.map toR) = some (nodesF p (r.map (·.f0)) && (r.all (fun m => countB m.f1) && (decide (0 < l.length) && countB e))) := by
  intro r
  induction r with
  | nil =>
    intro i k p hd hi hp hk
    obtain ⟨k, rfl⟩ : ∃ q, k = q + 1 := ⟨k - 1, by simp at hk; omega⟩
    simp only [caduceusref14_Check.l0]
    rw [List.length_map, if_neg (by simp at hi; omega)]
    simp only [nodesF, List.map_nil, List.all_nil, Bool.true_and]
    by_cases h : 0 < l.length
    · rw [if_pos (by omega), decide_eq_true h, Bool.true_and]
      by_cases h1 : e ≥ 1
      · rw [if_pos h1, countB, decide_eq_true (show 1 ≤ e from h1), Bool.true_and]
      · rw [if_neg h1, countB, decide_eq_false (show ¬ 1 ≤ e from h1), Bool.false_and]
    · rw [if_neg (by omega), decide_eq_false h, Bool.false_and]
  | cons x r ih =>
    intro i k p hd hi hp hk
    obtain ⟨k, rfl⟩ : ∃ q, k = q + 1 := ⟨k - 1, by simp at hk; omega⟩
    obtain ⟨hx, hlt, hd2⟩ := drop_parts hd
    have ih' := ih (i + 1) k (some x.f0) hd2 (by simp at hi; omega) (.inr ⟨by omega, x, rfl, by simpa using hx⟩) (by simp at hk; omega)
    simp only [caduceusref14_Check.l0]
    rw [List.length_map, if_pos (by omega), if_pos (by omega), rd_R hx, wrapn (by omega), ih']
    simp only [nodesF, List.map_cons, List.all_cons, toR, nodeB]
    by_cases a1 : x.f0 < 1
    · rw [if_pos a1, decide_eq_false (show ¬ 1 ≤ x.f0 by omega)]; rfl
    rw [if_neg a1, decide_eq_true (show 1 ≤ x.f0 by omega), Bool.true_and]
    by_cases a2 : x.f0 > 15
    · rw [if_pos a2, decide_eq_false (show ¬ x.f0 ≤ 15 by omega)]; rfl
    rw [if_neg a2, decide_eq_true (show x.f0 ≤ 15 by omega), Bool.true_and]
    have hc : countB x.f1 = (decide (1 ≤ x.f1) && decide (x.f1 ≤ 1099511627775)) := rfl
    rcases hp with ⟨rfl, rfl⟩ | ⟨h0, q, rfl, hq⟩
    · rw [if_neg (by omega)]
      by_cases a3 : x.f1 < 1
      · rw [if_pos a3, hc, decide_eq_false (show ¬ 1 ≤ x.f1 by omega)]; simp
      rw [if_neg a3]
      by_cases a4 : x.f1 > 1099511627775
      · rw [if_pos a4, hc, decide_eq_false (show ¬ x.f1 ≤ 1099511627775 by omega)]; simp
      rw [if_neg a4, hc, decide_eq_true (show 1 ≤ x.f1 by omega), decide_eq_true (show x.f1 ≤ 1099511627775 by omega)]
      simp
    · rw [if_pos (by omega), wrapp (by omega) h0, if_pos (by omega), if_pos (by omega), rd_R hq]
      simp only [toR]
      by_cases a5 : x.f0 ≤ q.f0
      · rw [if_pos a5]; simp [show ¬ q.f0 < x.f0 by omega]
      rw [if_neg a5]
      by_cases a3 : x.f1 < 1
      · rw [if_pos a3, hc, decide_eq_false (show ¬ 1 ≤ x.f1 by omega)]; simp
      rw [if_neg a3]
      by_cases a4 : x.f1 > 1099511627775
      · rw [if_pos a4, hc, decide_eq_false (show ¬ x.f1 ≤ 1099511627775 by omega)]; simp
      rw [if_neg a4, hc, decide_eq_true (show 1 ≤ x.f1 by omega), decide_eq_true (show x.f1 ≤ 1099511627775 by omega)]
      simp [show q.f0 < x.f0 by omega]
theorem ref_Check_f (e : Int) (l : List S53) (hl : l.length ≤ 1000) (k : Nat) (hk : l.length < k) : caduceusref14_Check.f k e (l.map toR) = some (chkF e l) := by
  have h := ref_Check_is e l hl l 0 k none rfl (by omega) (.inl ⟨rfl, rfl⟩) hk
  unfold caduceusref14_Check.f
  rw [show ((0 : Nat) : Int) = 0 from rfl] at h
  rw [h]
  unfold chkF
  cases countB e <;> cases decide (0 < l.length) <;> cases nodesF none (l.map (·.f0)) <;> cases l.all (fun m => countB m.f1) <;> rfl
theorem law_Ref_is (e e2 : Int) (l : List S53) (hl : l.length ≤ 1000) : ∀ (r : List S53) (i k : Nat) (acc : List S62), l.drop i = r → i + r.length = l.length → acc.length = i → r.length < k → caduceuslaw14_Ref.l0 k (i : Int) e l e2 acc = some (e2, acc ++ r.map toR) := by
  intro r
  induction r with
  | nil =>
    intro i k acc hd hi ha hk
    obtain ⟨k, rfl⟩ : ∃ q, k = q + 1 := ⟨k - 1, by simp at hk; omega⟩
    simp only [caduceuslaw14_Ref.l0]
    rw [if_neg (by simp at hi; omega)]
    simp
  | cons x r ih =>
    intro i k acc hd hi ha hk
    obtain ⟨k, rfl⟩ : ∃ q, k = q + 1 := ⟨k - 1, by simp at hk; omega⟩
    obtain ⟨hx, hlt, hd2⟩ := drop_parts hd
    simp only [caduceuslaw14_Ref.l0]
    rw [if_pos (by omega), if_pos (by omega), if_pos (by omega), rd_M hx, wrapn (by omega), ih (i + 1) k _ hd2 (by simp at hi; omega) (by simp; omega) (by simp at hk; omega)]
    simp [toR]
theorem law_Ref_f (e : Int) (l : List S53) (hl : l.length ≤ 1000) (k : Nat) (hk : l.length < k) : caduceuslaw14_Ref.f k e l = some (e, l.map toR) := by
  have h := law_Ref_is e e l hl l 0 k [] rfl (by omega) rfl hk
  simpa [caduceuslaw14_Ref.f] using h
theorem ref_Same_is (e : Int) (l : List S53) (hl : l.length ≤ 1000) : ∀ (r : List S53) (i k : Nat), l.drop i = r → i + r.length = l.length → r.length < k → caduceusref14_Same.l0 k (i : Int) e (l.map toR) e (l.map toR) = some true := by
  intro r
  induction r with
  | nil =>
    intro i k hd hi hk
    obtain ⟨k, rfl⟩ : ∃ q, k = q + 1 := ⟨k - 1, by simp at hk; omega⟩
    simp only [caduceusref14_Same.l0]
    rw [List.length_map, if_neg (by simp at hi; omega)]
  | cons x r ih =>
    intro i k hd hi hk
    obtain ⟨k, rfl⟩ : ∃ q, k = q + 1 := ⟨k - 1, by simp at hk; omega⟩
    obtain ⟨hx, hlt, hd2⟩ := drop_parts hd
    simp only [caduceusref14_Same.l0]
    rw [List.length_map, if_pos (by omega), if_pos (by omega), rd_R hx, wrapn (by omega), ih (i + 1) k hd2 (by simp at hi; omega) (by simp at hk; omega), if_pos (by omega), if_neg (by simp)]
theorem ref_Same_f (e : Int) (l : List S53) (hl : l.length ≤ 1000) (k : Nat) (hk : l.length + 1 < k) : caduceusref14_Same.f k e (l.map toR) e (l.map toR) = some true := by
  obtain ⟨k, rfl⟩ : ∃ q, k = q + 1 := ⟨k - 1, by omega⟩
  unfold caduceusref14_Same.f
  rw [if_pos rfl]
  simp only [caduceusref14_Same.j0]
  rw [if_neg (by simp)]
  exact ref_Same_is e l hl l 0 k rfl (by omega) (by omega)
theorem chk_parts {e : Int} {l : List S53} (h : chkF e l = true) : (1 ≤ e ∧ e ≤ 1099511627775) ∧ 0 < l.length ∧ nodesF none (l.map (·.f0)) = true ∧ ∀ m ∈ l, 1 ≤ m.f1 ∧ m.f1 ≤ 1099511627775 := by
  simp only [chkF, countB, Bool.and_eq_true, decide_eq_true_eq, List.all_eq_true] at h
  exact ⟨h.1, h.2.1, h.2.2.1, h.2.2.2⟩
def outT (x : Int × List S53 × Int) : Int × List S62 × Int := (x.1, x.2.1.map toR, x.2.2)
theorem awake60 : caduceuslaw14_awake.f 60 = some true := by kernel_rfl
theorem awake_f (k : Nat) (hk : 60 ≤ k) : caduceuslaw14_awake.f k = some true := lift (f := fun k => caduceuslaw14_awake.f k) (fun k => caduceuslaw14_awake.mono k) hk awake60
theorem nodes_in : ∀ (l : List Int) (p : Option Int), nodesF p l = true → ∀ n ∈ l, 1 ≤ n ∧ n ≤ 15 := by
  intro l
  induction l with
  | nil => intro p _ n hn; cases hn
  | cons x l ih =>
    intro p h n hn
    simp only [nodesF, nodeB, Bool.and_eq_true, decide_eq_true_eq] at h
    rcases List.mem_cons.1 hn with rfl | hn
    · exact h.1.1
    · exact ih (some x) h.2 n hn
theorem nodes_len : ∀ (l : List Int) (q : Int), q ≤ 15 → nodesF (some q) l = true → (l.length : Int) + q ≤ 15 := by
  intro l
  induction l with
  | nil => intro q hq _; simpa using hq
  | cons x l ih =>
    intro q hq h
    simp only [nodesF, nodeB, Bool.and_eq_true, decide_eq_true_eq] at h
    have h2 : q < x := by simpa using h.1.2
    have := ih x h.1.1.2 h.2
    rw [List.length_cons]
    omega
theorem chk_len {e : Int} {l : List S53} (h : chkF e l = true) : l.length ≤ 15 := by
  have hn := (chk_parts h).2.2.1
  cases l with
  | nil => simp
  | cons m l =>
    simp only [List.map_cons, nodesF, nodeB, Bool.and_eq_true, decide_eq_true_eq] at hn
    have := nodes_len _ _ hn.1.1.2 hn.2
    rw [List.length_map] at this
    rw [List.length_cons]
    omega
/-- A member's items; a view's. -/
def mRow (m : S53) : List (Int × Int × ByteArray) := [(1, m.f0, ⟨#[]⟩), (1, m.f1, ⟨#[]⟩), (3, if m.f2 = true then 1 else 0, ⟨#[]⟩)]
def vRow (e : Int) (l : List S53) : List (Int × Int × ByteArray) := (1, e, ⟨#[]⟩) :: (1, (l.length : Int), ⟨#[]⟩) :: l.flatMap mRow
def vText (e : Int) (l : List S53) : ByteArray := if chkF e l = true then catF (vRow e l) else ⟨#[]⟩
theorem may_num {n : Int} (h0 : 0 ≤ n) (h1 : n ≤ 4611686018427387903) : mayF (1, n, ⟨#[]⟩) = true := by
  simp [mayF, h0, h1, ByteArray.size]
theorem may_flag (b : Bool) : mayF (3, if b = true then 1 else 0, ⟨#[]⟩) = true := by
  cases b <;> rfl
theorem mRow_may {m : S53} (h0 : 0 ≤ m.f0 ∧ m.f0 ≤ 15) (h1 : 0 ≤ m.f1 ∧ m.f1 ≤ 1099511627775) : (mRow m).all mayF = true := by
  simp only [mRow, List.all_cons, List.all_nil, Bool.and_true, may_num h0.1 (by omega), may_num h1.1 (by omega), may_flag, Bool.and_self]
theorem chk_rows {e : Int} {l : List S53} (h : chkF e l = true) : (l.flatMap mRow).all mayF = true := by
  obtain ⟨_, _, hn, hl⟩ := chk_parts h
  rw [List.all_flatMap, List.all_eq_true]
  intro m hm
  have h1 := nodes_in _ _ hn m.f0 (List.mem_map_of_mem hm)
  have h2 := hl m hm
  exact mRow_may (by omega) (by omega)
theorem vRow_may {e : Int} {l : List S53} (h : chkF e l = true) : (vRow e l).all mayF = true := by
  have h1 := (chk_parts h).1
  have h2 := chk_len h
  unfold vRow
  rw [List.all_cons, List.all_cons, may_num (by omega) (by omega), may_num (by omega) (by omega), chk_rows h]
  rfl
theorem vRow_13 (e : Int) (l : List S53) : ∀ x ∈ vRow e l, x.1 = 1 ∨ x.1 = 3 := by
  intro x hx
  simp only [vRow, List.mem_cons, List.mem_flatMap, mRow, List.not_mem_nil, or_false] at hx
  rcases hx with rfl | rfl | ⟨m, _, rfl | rfl | rfl⟩
  · exact .inl rfl
  · exact .inl rfl
  · exact .inl rfl
  · exact .inl rfl
  · exact .inr rfl
theorem rows_len (l : List S53) : (l.flatMap mRow).length = 3 * l.length := by
  induction l with
  | nil => rfl
  | cons m l ih => rw [List.flatMap_cons, List.length_append, ih]; simp [mRow]; omega
theorem rows_bound (l : List S53) : boundF (l.flatMap mRow) = 24 * l.length := by
  induction l with
  | nil => rfl
  | cons m l ih =>
    unfold boundF at ih ⊢
    rw [List.flatMap_cons, List.map_append, List.sum_append, ih]
    simp only [mRow, List.map_cons, List.map_nil, List.sum_cons, List.sum_nil, List.length_cons, show (⟨#[]⟩ : ByteArray).size = 0 from rfl]
    omega
theorem flag_is (b : Bool) : view_flag.f b = some (if b = true then 1 else 0) := by
  cases b <;> rfl
theorem view_Text_l0 (l : List S53) (W : List (Int × Int × ByteArray)) (hl : l.length ≤ 1000) (hW : W.length ≤ 4096) (hb : boundF W ≤ 140737488355328) (h13 : ∀ x ∈ W, x.1 = 1 ∨ x.1 = 3) (hma : W.all mayF = true) : ∀ (r : List S53) (i k : Nat) (A : List (Int × Int × ByteArray)), l.drop i = r → i + r.length = l.length → W = A ++ r.flatMap mRow → W.length + 31 + r.length ≤ k → view_Text.l0 k (A.map qi) l (l.length : Int) (i : Int) = some (putF W).1 := by
  intro r
  induction r with
  | nil =>
    intro i k A hd hi hA hk
    obtain ⟨k, rfl⟩ : ∃ q, k = q + 1 := ⟨k - 1, by omega⟩
    have hA' : A = W := by simpa using hA.symm
    rw [view_Text.l0, if_neg (by simp at hi; omega), hA', quic_Put_is W hW hb k (by simp at hk; omega) h13 hma]
    rfl
  | cons x r ih =>
    intro i k A hd hi hA hk
    simp only [List.length_cons] at hk hi
    obtain ⟨k, rfl⟩ : ∃ q, k = q + 1 := ⟨k - 1, by omega⟩
    obtain ⟨hx, hlt, hd2⟩ := drop_parts hd
    have hAl : A.length ≤ W.length := by rw [hA]; simp
    rw [view_Text.l0, if_pos (by omega), if_pos (by omega), if_pos (by omega), rd_M hx, flag_is, Option.bind_some, Option.bind_some, if_pos (by simp; omega), wrapn (by omega)]
    have := ih (i + 1) k (A ++ mRow x) hd2 (by omega) (by rw [hA, List.flatMap_cons, List.append_assoc]) (by omega)
    rw [List.map_append] at this
    exact this
theorem view_Text_f (e : Int) (l : List S53) (hl : l.length ≤ 900) (k : Nat) (hk : 1000 ≤ k) : view_Text.f k e l = some (vText e l) := by
  unfold view_Text.f vText
  rw [view_Check_f e l (by omega) _ (by omega), Option.bind_some]
  by_cases hc : chkF e l = true
  · have hlen := chk_len hc
    have hrl := rows_len l
    have hrb := rows_bound l
    have hvl : (vRow e l).length = 3 * l.length + 2 := by unfold vRow; rw [List.length_cons, List.length_cons, hrl]
    have hvb : boundF (vRow e l) = 24 * l.length + 16 := by unfold vRow boundF at *; rw [List.map_cons, List.map_cons, List.sum_cons, List.sum_cons, hrb]; simp [ByteArray.size]; omega
    rw [if_pos hc, if_pos hc]
    have := view_Text_l0 l (vRow e l) (by omega) (by omega) (by omega) (vRow_13 e l) (vRow_may hc) l 0 k [(1, e, ⟨#[]⟩), (1, (l.length : Int), ⟨#[]⟩)] rfl (by omega) rfl (by omega)
    rw [show ((0 : Nat) : Int) = 0 from rfl] at this
    refine Eq.trans this ?_
    unfold putF
    rw [if_pos (vRow_may hc), joinF_cat, ba_nil_app]
  · rw [if_neg hc, if_neg hc]
theorem one_byte (b : Bool) : strOfNums [if b = true then 1 else 0] = (if b = true then (⟨#[1]⟩ : ByteArray) else (⟨#[0]⟩ : ByteArray)) := by
  cases b <;> rfl
theorem ref_num_f (k : Nat) (n : Int) (hk : 12 ≤ k) : caduceusref01_Num.f k n = some (pnum n) := by
  obtain ⟨q, rfl⟩ : ∃ q, k = q + 12 := ⟨k - 12, by omega⟩
  exact ref_num_is q n
theorem ref_Text_l0 (e : Int) (l : List S53) (hl : l.length ≤ 1000) : ∀ (r : List S53) (i k : Nat) (b : ByteArray), l.drop i = r → i + r.length = l.length → b.size ≤ 16 + 17 * i → r.length + 13 < k → caduceusref14_Text.l0 k b (i : Int) e (l.map toR) = some (b ++ catF (r.flatMap mRow)) := by
  intro r
  induction r with
  | nil =>
    intro i k b hd hi hb hk
    obtain ⟨k, rfl⟩ : ∃ q, k = q + 1 := ⟨k - 1, by omega⟩
    rw [caduceusref14_Text.l0, List.length_map, if_neg (by simp at hi; omega)]
    simp only [List.flatMap_nil, catF, ba_app_nil]
  | cons x r ih =>
    intro i k b hd hi hb hk
    simp only [List.length_cons] at hk hi
    obtain ⟨k, rfl⟩ : ∃ q, k = q + 1 := ⟨k - 1, by omega⟩
    obtain ⟨hx, hlt, hd2⟩ := drop_parts hd
    have p0 := pnum_small (toR x).f0
    have p1 := pnum_small (toR x).f1
    have p2 := pnum_small x.f0
    have p3 := pnum_small x.f1
    rw [caduceusref14_Text.l0, List.length_map, if_pos (by omega), if_pos (by omega), rd_R hx, ref_num_f k _ (by omega), Option.bind_some, if_pos (by omega), ref_num_f k _ (by omega), Option.bind_some, if_pos (by rw [ByteArray.size_append]; omega), wrapn (by omega)]
    have hcat : catF (mRow x) = pnum x.f0 ++ (pnum x.f1 ++ strOfNums [if x.f2 = true then 1 else 0]) := by
      simp only [mRow, catF, oneF, ba_app_nil]
      rfl
    have hres : ∀ c : ByteArray, catF ((x :: r).flatMap mRow) = catF (mRow x) ++ catF (r.flatMap mRow) := by
      intro c
      rw [List.flatMap_cons]
      simp only [mRow, List.cons_append, List.nil_append, catF, ba_app_assoc, ba_nil_app, ba_app_nil]
    rw [hres b, hcat, one_byte]
    by_cases h : x.f2 = true
    · rw [if_pos h, if_pos (by simp only [ByteArray.size_append]; omega), if_pos h, ih (i + 1) k _ hd2 (by omega) (by simp only [ByteArray.size_append, show (⟨#[1]⟩ : ByteArray).size = 1 from rfl]; omega) (by omega)]
      simp only [ba_app_assoc]
    · rw [if_neg h, if_pos (by simp only [ByteArray.size_append]; omega), if_neg h, ih (i + 1) k _ hd2 (by omega) (by simp only [ByteArray.size_append, show (⟨#[0]⟩ : ByteArray).size = 1 from rfl]; omega) (by omega)]
      simp only [ba_app_assoc]
theorem ref_Text_f (e : Int) (l : List S53) (hl : l.length ≤ 900) (k : Nat) (hk : 1000 ≤ k) : caduceusref14_Text.f k e (l.map toR) = some (vText e l) := by
  unfold caduceusref14_Text.f vText
  rw [ref_Check_f e l (by omega) _ (by omega), Option.bind_some]
  by_cases hc : chkF e l = true
  · have hlen := chk_len hc
    have p0 := pnum_small e
    have p1 := pnum_small (l.length : Int)
    rw [if_pos hc, if_pos hc, ref_num_f k _ (by omega), Option.bind_some, List.length_map, ref_num_f k _ (by omega), Option.bind_some, if_pos (by omega)]
    have := ref_Text_l0 e l (by omega) l 0 k (pnum e ++ pnum (l.length : Int)) rfl (by omega) (by rw [ByteArray.size_append]; omega) (by omega)
    rw [show ((0 : Nat) : Int) = 0 from rfl] at this
    rw [this]
    simp only [vRow, catF, oneF, ba_app_assoc]
    rfl
  · rw [if_neg hc, if_neg hc]

/-! Reading. -/
theorem two_of {α : Type} {l : List α} (h : l.length = 2) : ∃ x y, l = [x, y] := match l, h with | [x, y], _ => ⟨x, y, rfl⟩
theorem three_of {α : Type} {l : List α} (h : l.length = 3) : ∃ x y z, l = [x, y, z] := match l, h with | [x, y, z], _ => ⟨x, y, z, rfl⟩
theorem size0 : (⟨#[]⟩ : ByteArray).size = 0 := rfl
theorem takeL_back2 : ∀ (ks : List Int) (s : ByteArray) (acc : List (Int × Int × ByteArray)), okKinds ks = true → (takeL ks s acc).2.2 = 0 →
    ∃ l, (takeL ks s acc).1 = acc ++ l ∧ s = catF l ++ (takeL ks s acc).2.1 ∧ l.all mayF = true ∧ l.map (·.1) = ks
  | [], s, acc, _, _ => ⟨[], by simp [takeL], by simp [takeL, catF, ba_nil_app], rfl, rfl⟩
  | k :: ks, s, acc, ho, h => by
    simp only [okKinds, List.all_cons, Bool.and_eq_true, decide_eq_true_eq] at ho
    simp only [takeL] at h ⊢
    by_cases e : (takeF s k).2.2.2 = 0
    · rw [if_pos e] at h ⊢
      have g := takeF_ok s k ho.1 e
      obtain ⟨l, h1, h2, h3, h4⟩ := takeL_back2 ks _ _ ho.2 h
      refine ⟨(k, (takeF s k).1, (takeF s k).2.1) :: l, ?_, ?_, ?_, ?_⟩
      · rw [h1]; simp
      · simp only [catF, ba_app_assoc]
        rw [← h2]
        exact g.1
      · simp only [List.all_cons, g.2, Bool.true_and]; exact h3
      · simp [h4]
    · rw [if_neg e] at h
      exact absurd h e
theorem may_one {n : Int} {t : ByteArray} (h : mayF (1, n, t) = true) : 0 ≤ n ∧ n ≤ 4611686018427387903 ∧ t = ⟨#[]⟩ := by
  simp only [mayF, if_true, Bool.and_eq_true, decide_eq_true_eq] at h
  exact ⟨h.1.1, h.1.2, ba_size_zero h.2⟩
theorem may_three {n : Int} {t : ByteArray} (h : mayF (3, n, t) = true) : (n = 0 ∨ n = 1) ∧ t = ⟨#[]⟩ := by
  have e : mayF (3, n, t) = ((decide (n = 0) || decide (n = 1)) && decide (t.size = 0)) := rfl
  rw [e] at h
  simp only [Bool.and_eq_true, Bool.or_eq_true, decide_eq_true_eq] at h
  exact ⟨h.1, ba_size_zero h.2⟩
theorem take2_ok (s : ByteArray) (h : (takesF s [1, 1]).2.2 = 0) : ∃ a b r, takesF s [1, 1] = ([(1, a, ⟨#[]⟩), (1, b, ⟨#[]⟩)], r, 0) ∧ s = catF [(1, a, ⟨#[]⟩), (1, b, ⟨#[]⟩)] ++ r ∧ (0 ≤ a ∧ a ≤ 4611686018427387903) ∧ 0 ≤ b ∧ b ≤ 4611686018427387903 := by
  have e : takesF s [1, 1] = takeL [1, 1] s [] := rfl
  rw [e] at h ⊢
  obtain ⟨l, h1, h2, h3, h4⟩ := takeL_back2 [1, 1] s [] rfl h
  obtain ⟨⟨x1, a, t⟩, ⟨y1, b, u⟩, rfl⟩ := two_of (l := l) (by simpa using congrArg List.length h4)
  · simp only [List.map_cons, List.map_nil, List.cons.injEq, and_true] at h4
    obtain ⟨rfl, rfl⟩ := h4
    simp only [List.all_cons, List.all_nil, Bool.and_true, Bool.and_eq_true] at h3
    obtain ⟨a0, a1, rfl⟩ := may_one h3.1
    obtain ⟨b0, b1, rfl⟩ := may_one h3.2
    refine ⟨a, b, (takeL [1, 1] s []).2.1, ?_, h2, ⟨a0, a1⟩, b0, b1⟩
    rw [← h]
    refine Prod.ext ?_ rfl
    rw [h1]; rfl
/-- The member that three items tell. -/
theorem take3_ok (s : ByteArray) (h : (takesF s [1, 1, 3]).2.2 = 0) : ∃ m r, takesF s [1, 1, 3] = (mRow m, r, 0) ∧ s = catF (mRow m) ++ r := by
  have e : takesF s [1, 1, 3] = takeL [1, 1, 3] s [] := rfl
  rw [e] at h ⊢
  obtain ⟨l, h1, h2, h3, h4⟩ := takeL_back2 [1, 1, 3] s [] rfl h
  obtain ⟨⟨x1, a, t⟩, ⟨y1, b, u⟩, ⟨z1, c, v⟩, rfl⟩ := three_of (l := l) (by simpa using congrArg List.length h4)
  · simp only [List.map_cons, List.map_nil, List.cons.injEq, and_true] at h4
    obtain ⟨rfl, rfl, rfl⟩ := h4
    simp only [List.all_cons, List.all_nil, Bool.and_true, Bool.and_eq_true] at h3
    obtain ⟨a0, a1, rfl⟩ := may_one h3.1
    obtain ⟨b0, b1, rfl⟩ := may_one h3.2.1
    obtain ⟨hc, rfl⟩ := may_three h3.2.2
    have hm : mRow ⟨a, b, c == 1⟩ = [(1, a, ⟨#[]⟩), (1, b, ⟨#[]⟩), (3, c, ⟨#[]⟩)] := by
      rcases hc with rfl | rfl <;> rfl
    refine ⟨⟨a, b, c == 1⟩, (takeL [1, 1, 3] s []).2.1, ?_, by rw [hm]; exact h2⟩
    rw [← h, hm]
    refine Prod.ext ?_ rfl
    rw [h1]; rfl
/-- d members are read; what is left. -/
def readL : Nat → ByteArray → List S53 → Option (List S53 × ByteArray)
  | 0, s, acc => some (acc, s)
  | d + 1, s, acc => if (takesF s [1, 1, 3]).2.2 = 0 then readL d (takesF s [1, 1, 3]).2.1 (acc ++ [⟨((takesF s [1, 1, 3]).1.getD 0 (1, 0, ⟨#[]⟩)).2.1, ((takesF s [1, 1, 3]).1.getD 1 (1, 0, ⟨#[]⟩)).2.1, ((takesF s [1, 1, 3]).1.getD 2 (1, 0, ⟨#[]⟩)).2.1 == 1⟩]) else none
theorem memOf_mRow (m : S53) : (⟨((mRow m).getD 0 (1, 0, ⟨#[]⟩)).2.1, ((mRow m).getD 1 (1, 0, ⟨#[]⟩)).2.1, ((mRow m).getD 2 (1, 0, ⟨#[]⟩)).2.1 == 1⟩ : S53) = m := by
  obtain ⟨a, b, c⟩ := m
  cases c <;> rfl
theorem readL_back : ∀ (d : Nat) (s : ByteArray) (acc : List S53) (a : List S53) (r : ByteArray), readL d s acc = some (a, r) → ∃ b, a = acc ++ b ∧ b.length = d ∧ s = catF (b.flatMap mRow) ++ r := by
  intro d
  induction d with
  | zero =>
    intro s acc a r h
    simp only [readL, Option.some.injEq, Prod.mk.injEq] at h
    obtain ⟨rfl, rfl⟩ := h
    exact ⟨[], by simp, rfl, by simp only [List.flatMap_nil, catF, ba_nil_app]⟩
  | succ d ih =>
    intro s acc a r h
    simp only [readL] at h
    by_cases h0 : (takesF s [1, 1, 3]).2.2 = 0
    · rw [if_pos h0] at h
      obtain ⟨m, q, h1, h2⟩ := take3_ok s h0
      rw [h1] at h
      simp only at h
      rw [memOf_mRow] at h
      obtain ⟨b, h3, h4, h5⟩ := ih _ _ _ _ h
      refine ⟨m :: b, by rw [h3]; simp, by simp [h4], ?_⟩
      rw [h2, h5, List.flatMap_cons]
      simp only [mRow, List.cons_append, List.nil_append, catF, ba_app_assoc, ba_nil_app, ba_app_nil]
    · rw [if_neg h0] at h
      cases h
theorem takes_of {l : List (Int × Int × ByteArray)} {ks : List Int} (hk : l.map (·.1) = ks) (h : l.all mayF = true) (hl : ks.length ≤ 4096) (r : ByteArray) : takesF (catF l ++ r) ks = (l, r, 0) := by
  subst hk
  unfold takesF
  rw [if_neg (by omega), if_pos (okKinds_may l h), takeL_cat l r [] h, List.nil_append]
theorem readL_of : ∀ (l : List S53) (acc : List S53) (r : ByteArray), (∀ m ∈ l, (mRow m).all mayF = true) → readL l.length (catF (l.flatMap mRow) ++ r) acc = some (acc ++ l, r) := by
  intro l
  induction l with
  | nil => intro acc r _; simp only [List.length_nil, readL, List.flatMap_nil, catF, ba_nil_app, List.append_nil]
  | cons m l ih =>
    intro acc r h
    have hs : catF ((m :: l).flatMap mRow) ++ r = catF (mRow m) ++ (catF (l.flatMap mRow) ++ r) := by
      rw [List.flatMap_cons]
      simp only [mRow, List.cons_append, List.nil_append, catF, ba_app_assoc, ba_nil_app, ba_app_nil]
    rw [hs, List.length_cons, readL, takes_of (l := mRow m) (ks := [1, 1, 3]) rfl (h m (by simp)) (by decide)]
    rw [if_pos rfl]
    simp only
    rw [memOf_mRow, ih _ _ (fun x hx => h x (by simp [hx]))]
    simp
def endV (e : Int) (x : Option (List S53 × ByteArray)) : Int × List S53 × Int :=
  match x with
  | none => (0, [], 3)
  | some (a, r) => if r.size = 0 then (if chkF e a = true then (e, a, 0) else (0, [], 3)) else (0, [], 3)
theorem view_Read_l0 (n e : Int) : ∀ (d i k : Nat) (s : ByteArray) (acc : List S53), (i : Int) + d = n → i + d ≤ 20 → acc.length = i → 300 + d ≤ k → view_Read.l0 k s n (i : Int) e acc = some (endV e (readL d s acc)) := by
  intro d
  induction d with
  | zero =>
    intro i k s acc hn hi ha hk
    obtain ⟨k, rfl⟩ : ∃ q, k = q + 1 := ⟨k - 1, by omega⟩
    rw [view_Read.l0, if_neg (by omega)]
    simp only [readL, endV]
    by_cases h : s.size = 0
    · rw [if_pos ((ba_nil s).2 h), if_pos h, view_Check_f e acc (by omega) _ (by omega), Option.bind_some]
      by_cases hc : chkF e acc = true
      · rw [if_pos hc, if_pos hc]
      · rw [if_neg hc, if_neg hc]
    · rw [if_neg (fun h' => h ((ba_nil s).1 h')), if_neg h]
  | succ d ih =>
    intro i k s acc hn hi ha hk
    obtain ⟨k, rfl⟩ : ∃ q, k = q + 1 := ⟨k - 1, by omega⟩
    rw [view_Read.l0, if_pos (by omega), quic_Take_is s [1, 1, 3] k (by simp; omega), Option.bind_some]
    simp only [readL]
    by_cases h0 : (takesF s [1, 1, 3]).2.2 = 0
    · obtain ⟨m, r, h1, h2⟩ := take3_ok s h0
      rw [h1]
      simp only
      rw [if_pos trivial, if_pos (by simp [mRow]), if_pos (by simp [mRow]), if_pos (by simp [mRow]), if_pos (by omega), if_pos trivial, wrapn (by omega), memOf_mRow]
      have hm : (⟨(rd_T76 ((mRow m).map qi) 0).f1, (rd_T76 ((mRow m).map qi) 1).f1, ((rd_T76 ((mRow m).map qi) 2).f1 == 1)⟩ : S53) = m := memOf_mRow m
      rw [hm]
      exact ih (i + 1) k r _ (by omega) (by omega) (by simp; omega) (by omega)
    · rw [if_neg h0, if_neg h0]
      rfl
def endR (x0 : ByteArray) (e : Int) (x : Option (List S53 × ByteArray)) : Int × List S53 × Int :=
  match x with
  | none => (0, [], 3)
  | some (a, _) => if x0.size = 0 then (0, [], 3) else (if vText e a = x0 then (e, a, 0) else (0, [], 3))
theorem ref_Read_l0 (x0 hr : ByteArray) (he n e : Int) (h0 : 0 ≤ n) : ∀ (d i k : Nat) (s : ByteArray) (acc : List S53), i + d = min n.toNat 16 → acc.length = i → 1100 + 2 * d ≤ k → caduceusref14_Read.l0 k x0 s (i : Int) ([(1, e, ⟨#[]⟩), (1, n, ⟨#[]⟩)].map ri) hr he e (acc.map toR) = some (outT (endR x0 e (readL d s acc))) := by
  intro d
  induction d with
  | zero =>
    intro i k s acc hn ha hk
    obtain ⟨k, rfl⟩ : ∃ q, k = q + 2 := ⟨k - 2, by omega⟩
    have hend : ∀ b : Bool, b = false → caduceusref14_Read.j1 (k + 1) x0 s (i : Int) b ([(1, e, ⟨#[]⟩), (1, n, ⟨#[]⟩)].map ri) hr he e (acc.map toR) = some (outT (endR x0 e (readL 0 s acc))) := by
      rintro b rfl
      rw [caduceusref14_Read.j1, if_neg (by decide)]
      simp only [readL, endR]
      by_cases h : x0.size = 0
      · rw [if_pos ((ba_nil x0).2 h), if_pos h]
        rfl
      · rw [if_neg (fun h' => h ((ba_nil x0).1 h')), if_neg h, ref_Text_f e acc (by omega) _ (by omega), Option.bind_some]
        by_cases ht : vText e acc = x0
        · rw [if_pos (by rw [ht]), if_pos ht]
          rfl
        · rw [if_neg (fun h' => ht (ba_ext (by simpa [ba_toList] using h'))), if_neg ht]
          rfl
    rw [caduceusref14_Read.l0, if_pos (by simp)]
    show (if (i : Int) < n then _ else _) = _
    by_cases h : (i : Int) < n
    · rw [if_pos h]
      exact hend _ (decide_eq_false (by omega))
    · rw [if_neg h]
      exact hend _ rfl
  | succ d ih =>
    intro i k s acc hn ha hk
    obtain ⟨k, rfl⟩ : ∃ q, k = q + 2 := ⟨k - 2, by omega⟩
    rw [caduceusref14_Read.l0, if_pos (by simp)]
    show (if (i : Int) < n then _ else _) = _
    rw [if_pos (by omega), decide_eq_true (show (i : Int) < 16 by omega), caduceusref14_Read.j1, if_pos rfl, ref_Take_is s [1, 1, 3] k (by simp; omega), Option.bind_some]
    simp only [readL]
    by_cases h1 : (takesF s [1, 1, 3]).2.2 = 0
    · obtain ⟨m, r, h2, h3⟩ := take3_ok s h1
      rw [h2]
      simp only
      rw [if_pos trivial, if_pos (by simp [mRow]), if_pos (by simp [mRow]), if_pos (by simp [mRow]), if_pos (by simp; omega), if_pos trivial, wrapn (by omega), memOf_mRow]
      have hm : (⟨(rd_T81 ((mRow m).map ri) 0).f1, (rd_T81 ((mRow m).map ri) 1).f1, ((rd_T81 ((mRow m).map ri) 2).f1 == 1)⟩ : S62) = toR m := congrArg toR (memOf_mRow m)
      rw [hm]
      have := ih (i + 1) k r (acc ++ [m]) (by omega) (by simp; omega) (by omega)
      rw [List.map_append] at this
      exact this
    · rw [if_neg h1, if_neg h1]
      rfl
theorem catF_two (e n : Int) (R : List (Int × Int × ByteArray)) (r : ByteArray) : catF ((1, e, ⟨#[]⟩) :: (1, n, ⟨#[]⟩) :: R) ++ r = catF [(1, e, ⟨#[]⟩), (1, n, ⟨#[]⟩)] ++ (catF R ++ r) := by
  simp only [catF, ba_app_assoc, ba_app_nil, ba_nil_app]
theorem reads (s : ByteArray) (k : Nat) (hk : 1200 ≤ k) : ∃ x : Int × List S53 × Int, view_Read.f k s = some x ∧ caduceusref14_Read.f k s = some (outT x) ∧ x.2.1.length ≤ 15 ∧ (x.2.2 = 0 → vText x.1 x.2.1 = s) := by
  obtain ⟨k, rfl⟩ : ∃ q, k = q + 1 := ⟨k - 1, by omega⟩
  unfold view_Read.f caduceusref14_Read.f
  rw [quic_Take_is s [1, 1] _ (by simp; omega), ref_Take_is s [1, 1] _ (by simp; omega), Option.bind_some, Option.bind_some]
  by_cases h0 : (takesF s [1, 1]).2.2 = 0
  · obtain ⟨e, n, r, h1, h2, ⟨e0, e1⟩, n0, n1⟩ := take2_ok s h0
    rw [h1]
    simp only
    rw [if_pos trivial, if_pos (by simp), if_pos trivial, if_pos (by simp)]
    have hsz : s.size ≠ 0 := by
      intro h
      have hp := pnum_size e
      have hps : psize e ≠ 0 := psize_in e0 e1
      rw [h2] at h
      simp only [catF, oneF, ba_app_nil, ByteArray.size_append, if_true] at h
      omega
    have hr := ref_Read_l0 s r 0 n e n0 (min n.toNat 16) 0 (k + 1) r [] (by omega) rfl (by omega)
    rw [show ((0 : Nat) : Int) = 0 from rfl] at hr
    have hv : view_Read.j0 (k + 1) ([(1, e, ⟨#[]⟩), (1, n, ⟨#[]⟩)].map qi) r (decide (n > 15)) = if n > 15 then some (0, [], 3) else some (endV e (readL n.toNat r [])) := by
      rw [view_Read.j0]
      by_cases h15 : n > 15
      · rw [if_pos (by simpa using h15), if_pos h15]
      · rw [if_neg (by simpa using h15), if_neg h15, if_pos (by simp), if_pos (by simp)]
        exact view_Read_l0 n e n.toNat 0 k r [] (by omega) (by omega) rfl (by omega)
    have hback : ∀ (d : Nat) (a : List S53) (q : ByteArray), readL d r [] = some (a, q) → a.length = d ∧ s = catF ((1, e, ⟨#[]⟩) :: (1, n, ⟨#[]⟩) :: a.flatMap mRow) ++ q := by
      intro d a q h
      obtain ⟨b, h3, h4, h5⟩ := readL_back d r [] a q h
      rw [List.nil_append] at h3
      subst h3
      exact ⟨h4, by rw [catF_two, ← h5]; exact h2⟩
    by_cases h15 : n > 15
    · refine ⟨(0, [], 3), by refine Eq.trans hv ?_; rw [if_pos h15], ?_, by simp, fun h => by cases h⟩
      refine Eq.trans hr ?_
      rw [show min n.toNat 16 = 16 by omega]
      cases hq : readL 16 r [] with
      | none => rfl
      | some x =>
        obtain ⟨a, q⟩ := x
        obtain ⟨h3, h4⟩ := hback 16 a q hq
        have hc : chkF e a = false := by
          cases hc : chkF e a with
          | false => rfl
          | true => have := chk_len hc; omega
        simp only [endR]
        rw [if_neg hsz, if_neg (fun h => hsz (by rw [← h]; unfold vText; rw [if_neg (by rw [hc]; decide)]; rfl))]
    · rw [show min n.toNat 16 = n.toNat by omega] at hr
      refine ⟨endV e (readL n.toNat r []), by refine Eq.trans hv ?_; rw [if_neg h15], ?_⟩
      cases hq : readL n.toNat r [] with
      | none => exact ⟨by rw [hq] at hr; exact hr, by simp [endV], fun h => by cases h⟩
      | some x =>
        obtain ⟨a, q⟩ := x
        obtain ⟨h3, h4⟩ := hback _ a q hq
        rw [hq] at hr
        have hrow : s = catF (vRow e a) ++ q := by
          rw [h4]; unfold vRow; rw [show n = (a.length : Int) by omega]
        simp only [endR] at hr
        rw [if_neg hsz] at hr
        simp only [endV]
        by_cases hc : chkF e a = true
        · have hv : vText e a = catF (vRow e a) := by unfold vText; rw [if_pos hc]
          by_cases hz : q.size = 0
          · have hq0 := ba_size_zero hz
            subst hq0
            rw [ba_app_nil] at hrow
            rw [if_pos (by rw [hv]; exact hrow.symm)] at hr
            rw [if_pos hz, if_pos hc]
            exact ⟨hr, chk_len hc, fun _ => by rw [hv]; exact hrow.symm⟩
          · rw [if_neg (fun h => hz (by rw [hv] at h; have := congrArg ByteArray.size (h.trans hrow); rw [ByteArray.size_append] at this; omega))] at hr
            rw [if_neg hz]
            exact ⟨hr, by simp, fun h => by cases h⟩
        · have hv : vText e a = ⟨#[]⟩ := by unfold vText; rw [if_neg hc]
          rw [if_neg (fun h => hsz (by rw [← h, hv]; rfl))] at hr
          rw [if_neg hc]
          have e3 : (if q.size = 0 then ((0 : Int), ([] : List S53), (3 : Int)) else (0, [], 3)) = (0, [], 3) := by split <;> rfl
          rw [e3]
          exact ⟨hr, by simp, fun h => by cases h⟩
  · rw [if_neg h0, if_neg h0, view_Read.j0, if_pos rfl]
    exact ⟨(0, [], 3), rfl, rfl, by simp, fun h => by cases h⟩
theorem take_nil7 : (takesF ⟨#[]⟩ [1, 1]).2.2 = 7 := by kernel_rfl
theorem read_text (e : Int) (l : List S53) (k : Nat) (hk : 1200 ≤ k) : view_Read.f k (vText e l) = some (if chkF e l = true then (e, l, 0) else (0, [], 3)) := by
  obtain ⟨k, rfl⟩ : ∃ q, k = q + 1 := ⟨k - 1, by omega⟩
  unfold view_Read.f
  rw [quic_Take_is _ [1, 1] _ (by simp; omega), Option.bind_some]
  by_cases hc : chkF e l = true
  · have h1 := (chk_parts hc).1
    have h2 := chk_len hc
    obtain ⟨_, _, hn, hl⟩ := chk_parts hc
    have hv : vText e l = catF [(1, e, ⟨#[]⟩), (1, (l.length : Int), ⟨#[]⟩)] ++ (catF (l.flatMap mRow) ++ ⟨#[]⟩) := by
      unfold vText
      rw [if_pos hc, ← catF_two, ba_app_nil]
      rfl
    rw [hv, takes_of (l := [(1, e, ⟨#[]⟩), (1, (l.length : Int), ⟨#[]⟩)]) (ks := [1, 1]) rfl (by rw [List.all_cons, List.all_cons, may_num (by omega) (by omega), may_num (by omega) (by omega)]; rfl) (by decide)]
    simp only
    rw [if_pos trivial, if_pos (by simp), if_pos hc]
    have hj : view_Read.j0 (k + 1) ([(1, e, ⟨#[]⟩), (1, (l.length : Int), ⟨#[]⟩)].map qi) (catF (l.flatMap mRow) ++ ⟨#[]⟩) (decide ((l.length : Int) > 15)) = some (e, l, 0) := by
      rw [view_Read.j0, if_neg (by simp; omega), if_pos (by simp), if_pos (by simp)]
      refine Eq.trans (view_Read_l0 (l.length : Int) e l.length 0 k _ [] (by omega) (by omega) rfl (by omega)) ?_
      rw [readL_of l [] _ (fun m hm => by
        have h1 := nodes_in _ _ hn m.f0 (List.mem_map_of_mem hm)
        have h2 := hl m hm
        exact mRow_may (by omega) (by omega))]
      simp only [endV, List.nil_append]
      rw [if_pos size0, if_pos hc]
    exact hj
  · have hv : vText e l = ⟨#[]⟩ := by unfold vText; rw [if_neg hc]
    rw [hv, if_neg hc]
    have h7 : (takesF ⟨#[]⟩ [1, 1]).2.2 ≠ 0 := by rw [take_nil7]; decide
    rw [if_neg h7, view_Read.j0, if_pos rfl]

end ViewReadsC
open ViewReadsC

theorem ViewReads : caduceuslaw14_ViewReads.Pure := by
  intro a0 a1 _ _
  obtain ⟨e, l⟩ := a0
  refine ⟨1302, ?_⟩
  show caduceuslaw14_ViewReads.f 1302 e l a1 = some true
  unfold caduceuslaw14_ViewReads.f caduceuslaw14_few.f
  rw [Option.bind_some]
  have hj : ∀ b : Bool, (b = false → l.length ≤ 40) → caduceuslaw14_ViewReads.j0 1302 a1 b e l = some true := by
    intro b hb
    rw [caduceuslaw14_ViewReads.j0]
    cases b with
    | true => rw [if_pos rfl, awake_f _ (by omega)]; rfl
    | false =>
      have hl := hb rfl
      obtain ⟨x, hx1, hx2, hx3, hx4⟩ := reads a1 1301 (by omega)
      rw [if_neg (by decide), hx1, Option.bind_some, hx2, Option.bind_some, view_Text_f e l (by omega) _ (by omega), Option.bind_some, law_Ref_f e l (by omega) _ (by omega), Option.bind_some, ref_Text_f e l (by omega) _ (by omega), Option.bind_some, if_pos rfl, law_Ref_f _ _ (by omega) _ (by omega), Option.bind_some]
      show Option.bind (caduceusref14_Same.f 1301 x.1 (x.2.1.map toR) x.1 (x.2.1.map toR)) _ = _
      rw [ref_Same_f _ _ (by omega) _ (by omega), Option.bind_some, if_pos rfl, if_pos (show x.2.2 = (outT x).2.2 from rfl)]
      have h1 : caduceuslaw14_ViewReads.j1 1301 false e l = some true := by
        rw [caduceuslaw14_ViewReads.j1, if_neg (by decide), view_Text_f e l (by omega) _ (by omega), Option.bind_some, read_text e l _ (by omega), Option.bind_some, awake_f _ (by omega), Option.bind_some, if_pos rfl, view_Check_f e l (by omega) _ (by omega), Option.bind_some]
        by_cases hc : chkF e l = true
        · rw [if_pos hc, if_pos hc, if_pos rfl, law_Ref_f e l (by omega) _ (by omega), Option.bind_some, Option.bind_some]
          show Option.bind (caduceusref14_Same.f 1300 e (l.map toR) e (l.map toR)) _ = _
          rw [ref_Same_f _ _ (by omega) _ (by omega)]
          rfl
        · rw [if_neg hc, if_neg hc, if_pos rfl]
      by_cases h0 : x.2.2 = 0
      · rw [if_pos h0, view_Text_f _ _ (by omega) _ (by omega), Option.bind_some, hx4 h0, show (a1.toList != a1.toList) = false by simp]
        exact h1
      · rw [if_neg h0]
        exact h1
  by_cases hl : (l.length : Int) ≤ 40
  · rw [if_pos (by simpa using hl)]
    exact hj _ (fun _ => by omega)
  · rw [if_neg (by simpa using hl)]
    exact hj _ (fun h => by cases h)

end Go.Proofs.Ytpdalofhekmbeaa.Pure
