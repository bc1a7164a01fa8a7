/- For all texts and bytes: quic.List and quic.Unlist tell what the document's List and Unlist tell (up to 200 texts, 20,000 bytes each way). No further condition. -/
import Derived.Test.YtbjokknoladmpaaPQuicListsy
import Derived.Test.YtbjokknoladmpaaQB
namespace Go.Proofs.Ytbjokknoladmpaa.Pure
open Go.RowKit Go.Proofs.Ytbjokknoladmpaa.PQuicLists Go.Proofs.YtbjokknoladmpaaW.PrintWords Go.Proofs.YtbjokknoladmpaaW.PrintLast Go.Proofs.YtbjokknoladmpaaW.PrintMore Go.Proofs.Ytbjokknoladmpaa.QB
set_option linter.unusedSimpArgs false
set_option linter.unusedVariables false

namespace QuicListsC
theorem quic_size_is (n : Int) : quic_Size.f n = some (psize n) := by
  unfold quic_Size.f psize
  repeat' split
  all_goals first | rfl | (exfalso; omega)

theorem ref_size_is (k : Nat) (n : Int) : caduceusref01_Size.f (k + 1) n = some (psize n) := by
  unfold caduceusref01_Size.f psize
  rw [caduceusref01_Size.j0, caduceusref01_Size.j0]
  simp only [decide_eq_true_eq]
  repeat' split
  all_goals first | rfl | (exfalso; first | omega | simp_all)

theorem ref_num_is (k : Nat) (n : Int) : caduceusref01_Num.f (k + 12) n = some (pnum n) := by
  unfold caduceusref01_Num.f pnum pnums
  rw [ref_size_is (k + 11), Option.bind_some]
  rcases psize_cases n with ⟨h, h'⟩ | ⟨h, h0, h1⟩ | ⟨h, h0, h1⟩ | ⟨h, h0, h1⟩ | ⟨h, h0, h1⟩
  · rw [h]
    simp [caduceusref01_Num.l0, caduceusref01_Num.j1, wrap64]
  all_goals
    have hu : IntKind.u64.wrap n = n := u64id (by omega) (by omega)
    rw [h]
    simp [caduceusref01_Num.l0, caduceusref01_Num.j1, wrap64, hu, shr_u_0, wrap_u_0, shr_u_8, wrap_u_8, shr_u_16, wrap_u_16, shr_u_24, wrap_u_24, shr_u_32, wrap_u_32, shr_u_40, wrap_u_40, shr_u_48, wrap_u_48, shr_u_56, wrap_u_56, rd]
    congr 1
    simp only [List.cons.injEq, and_true]
    omega

theorem class_is (k : Nat) : quic_class.f (k + 12) 1 = some 0 ∧ quic_class.f (k + 12) 2 = some 1 ∧ quic_class.f (k + 12) 4 = some 2 ∧ quic_class.f (k + 12) 8 = some 3 := by
  refine ⟨?_, ?_, ?_, ?_⟩ <;> simp [quic_class.f, quic_class.l0, wrap64]

theorem quic_num_is (k : Nat) (n : Int) : quic_Num.f (k + 24) n = some (pnum n) := by
  unfold quic_Num.f pnum pnums
  rw [quic_size_is, Option.bind_some]
  rcases psize_cases n with ⟨h, h'⟩ | ⟨h, h0, h1⟩ | ⟨h, h0, h1⟩ | ⟨h, h0, h1⟩ | ⟨h, h0, h1⟩
  · rw [h]
    simp [strOfNums]
  · rw [h]
    simp [quic_Num.l0, wrap64, shr_i_0, shr_i_8, shr_i_16, shr_i_24, shr_i_32, shr_i_40, shr_i_48, shr_i_56, rd, class_is]
    rw [(u8_or_top (by omega) (by omega)).1]
    congr 1
    simp only [List.cons.injEq, and_true]
    omega
  · rw [h]
    simp [quic_Num.l0, wrap64, shr_i_0, shr_i_8, shr_i_16, shr_i_24, shr_i_32, shr_i_40, shr_i_48, shr_i_56, rd, class_is]
    rw [(u8_or_top (by omega) (by omega)).2.1]
    congr 1
    simp only [List.cons.injEq, and_true]
    omega
  · rw [h]
    simp [quic_Num.l0, wrap64, shr_i_0, shr_i_8, shr_i_16, shr_i_24, shr_i_32, shr_i_40, shr_i_48, shr_i_56, rd, class_is]
    rw [(u8_or_top (by omega) (by omega)).2.2.1]
    congr 1
    simp only [List.cons.injEq, and_true]
    omega
  · rw [h]
    simp [quic_Num.l0, wrap64, shr_i_0, shr_i_8, shr_i_16, shr_i_24, shr_i_32, shr_i_40, shr_i_48, shr_i_56, rd, class_is]
    rw [(u8_or_top (by omega) (by omega)).2.2.2]
    congr 1
    simp only [List.cons.injEq, and_true]
    omega

theorem plong_quic (s : ByteArray) : shl .i64 1 (bt s 0 / 64) = plong s ∧ 0 ≤ bt s 0 / 64 := by
  have B := bt_range s 0
  unfold plong
  refine ⟨?_, by omega⟩
  by_cases c0 : bt s 0 < 64
  · rw [if_pos c0, show bt s 0 / 64 = 0 by omega]; exact shl_1.1
  · by_cases c1 : bt s 0 < 128
    · rw [if_neg c0, if_pos c1, show bt s 0 / 64 = 1 by omega]; exact shl_1.2.1
    · by_cases c2 : bt s 0 < 192
      · rw [if_neg c0, if_neg c1, if_pos c2, show bt s 0 / 64 = 2 by omega]; exact shl_1.2.2.1
      · rw [if_neg c0, if_neg c1, if_neg c2, show bt s 0 / 64 = 3 by omega]; exact shl_1.2.2.2
theorem plong_cases (s : ByteArray) : plong s = 1 ∨ plong s = 2 ∨ plong s = 4 ∨ plong s = 8 := by
  unfold plong; (repeat' split) <;> simp

def getF (s : ByteArray) : Int × ByteArray × Int :=
  if s.size = 0 then (0, ⟨#[]⟩, 7)
  else if (s.size : Int) < plong s then (0, ⟨#[]⟩, 7)
  else if psize (pval (plong s) s) = plong s then (pval (plong s) s, s.extract (plong s).toNat s.size, 0)
  else (0, ⟨#[]⟩, 3)

theorem quic_get_round (k : Nat) (s : ByteArray) (x m i j : Int) (hj : j = i + 1) (h0 : 0 ≤ i) (h1 : i < m) (h2 : m ≤ s.size) (h3 : m ≤ 8) (hx : 0 ≤ x) (hx1 : x < 36028797018963968) :
    quic_Get.l0 (k + 1) s x m i = quic_Get.l0 k s (x * 256 + bt s i) m j := by
  subst hj
  have B := bt_range s i
  rw [quic_Get.l0, if_pos h1, if_pos h0, if_pos (by omega), w64 (n := x * 256) (by omega) (by omega), w64 (n := bt s i) (by omega) (by omega), w64 (n := i + 1) (by omega) (by omega), or_byte hx hx1 (by omega) (by omega)]
theorem quic_get_end (k : Nat) (s : ByteArray) (x m : Int) (h2 : m ≤ s.size) (h3 : 0 ≤ m) :
    quic_Get.l0 (k + 2) s x m m = some (if psize x = m then (x, s.extract m.toNat s.size, 0) else (0, ⟨#[]⟩, 3)) := by
  rw [quic_Get.l0, if_neg (by omega), quic_size_is, Option.bind_some]
  by_cases h : psize x = m
  · rw [if_pos h, if_pos h, if_pos h3, if_pos h2]
  · rw [if_neg h, if_neg h]

theorem quic_get_is (k : Nat) (s : ByteArray) : quic_Get.f (k + 12) s = some (getF s) := by
  unfold quic_Get.f getF
  by_cases hs : s.size = 0
  · rw [if_pos ((ba_nil s).2 hs), if_pos hs]
  · rw [if_neg (fun h => hs ((ba_nil s).1 h)), if_neg hs, if_pos (by omega), if_pos (plong_quic s).2, (plong_quic s).1]
    by_cases hl : (s.size : Int) < plong s
    · rw [if_pos hl, if_pos hl]
    · rw [if_neg hl, if_neg hl]
      have B := fun i => bt_range s i
      have b0 := B 0; have b1 := B 1; have b2 := B 2; have b3 := B 3; have b4 := B 4; have b5 := B 5; have b6 := B 6; have b7 := B 7
      rw [u8_and63 _ b0.1 (by omega), w64 (by omega) (by omega)]
      rcases plong_cases s with h | h | h | h
      · rw [h] at hl ⊢
        rw [quic_get_end _ _ _ _ (by omega) (by omega)]
        simp only [pval]
        rfl
      · rw [h] at hl ⊢
        rw [quic_get_round _ _ _ _ 1 2 rfl (by omega) (by omega) (by omega) (by omega) (by omega) (by omega), quic_get_end _ _ _ _ (by omega) (by omega)]
        simp only [pval]
        rfl
      · rw [h] at hl ⊢
        rw [quic_get_round _ _ _ _ 1 2 rfl (by omega) (by omega) (by omega) (by omega) (by omega) (by omega), quic_get_round _ _ _ _ 2 3 rfl (by omega) (by omega) (by omega) (by omega) (by omega) (by omega), quic_get_round _ _ _ _ 3 4 rfl (by omega) (by omega) (by omega) (by omega) (by omega) (by omega), quic_get_end _ _ _ _ (by omega) (by omega)]
        simp only [pval]
        rfl
      · rw [h] at hl ⊢
        rw [quic_get_round _ _ _ _ 1 2 rfl (by omega) (by omega) (by omega) (by omega) (by omega) (by omega), quic_get_round _ _ _ _ 2 3 rfl (by omega) (by omega) (by omega) (by omega) (by omega) (by omega), quic_get_round _ _ _ _ 3 4 rfl (by omega) (by omega) (by omega) (by omega) (by omega) (by omega), quic_get_round _ _ _ _ 4 5 rfl (by omega) (by omega) (by omega) (by omega) (by omega) (by omega), quic_get_round _ _ _ _ 5 6 rfl (by omega) (by omega) (by omega) (by omega) (by omega) (by omega), quic_get_round _ _ _ _ 6 7 rfl (by omega) (by omega) (by omega) (by omega) (by omega) (by omega), quic_get_round _ _ _ _ 7 8 rfl (by omega) (by omega) (by omega) (by omega) (by omega) (by omega), quic_get_end _ _ _ _ (by omega) (by omega)]
        simp only [pval]
        rfl


theorem pval_1 (s : ByteArray) : pval 1 s = bt s 0 % 64 := by simp [pval]
theorem pval_2 (s : ByteArray) : pval 2 s = bt s 0 % 64 * 256 + bt s 1 := by simp [pval]
theorem pval_4 (s : ByteArray) : pval 4 s = ((bt s 0 % 64 * 256 + bt s 1) * 256 + bt s 2) * 256 + bt s 3 := by simp [pval]
theorem pval_8 (s : ByteArray) : pval 8 s = ((((((bt s 0 % 64 * 256 + bt s 1) * 256 + bt s 2) * 256 + bt s 3) * 256 + bt s 4) * 256 + bt s 5) * 256 + bt s 6) * 256 + bt s 7 := by simp [pval]
theorem ref_get_round (k : Nat) (s : ByteArray) (x m i j : Int) (hj : j = i + 1) (h0 : 0 ≤ i) (h1 : i < m) (h2 : m ≤ s.size) (h3 : m ≤ 8) (hx : 0 ≤ x) (hx1 : x < 36028797018963968) :
    caduceusref01_Get.l1 (k + 1) s m x i = caduceusref01_Get.l1 k s m (x * 256 + bt s i) j := by
  subst hj
  have B := bt_range s i
  rw [caduceusref01_Get.l1, if_pos h1, if_pos h0, if_pos (by omega), w64 (n := 256 * x) (by omega) (by omega), w64 (n := bt s i) (by omega) (by omega), w64 (n := i + 1) (by omega) (by omega), w64 (by omega) (by omega), Int.mul_comm 256 x]
theorem ref_get_end (k : Nat) (s : ByteArray) (x m : Int) (h2 : m ≤ s.size) (h3 : 0 ≤ m) :
    caduceusref01_Get.l1 (k + 13) s m x m = some (if (pnum x).toList = (s.extract 0 m.toNat).toList then (x, ⟨#[]⟩, s.extract m.toNat s.size, 0) else (0, ⟨#[]⟩, ⟨#[]⟩, 3)) := by
  rw [caduceusref01_Get.l1, if_neg (by omega), ref_num_is k, Option.bind_some, if_pos h3, if_pos h2]
  split <;> rfl
theorem ref_get_at (k : Nat) (s : ByteArray) (h : 0 < s.size) : caduceusref01_Get.l0 (k + 5) s 1 0 = if (s.size : Int) < plong s then some (0, ⟨#[]⟩, ⟨#[]⟩, 7) else caduceusref01_Get.l1 (k + 4 - (bt s 0 / 64).toNat) s (plong s) (bt s 0 % 64) 1 := by
  have b0 := bt_range s 0
  have hm : wrap64 (Int.tmod (bt s 0) 64) = bt s 0 % 64 := by rw [Int.tmod_eq_emod_of_nonneg b0.1]; exact w64 (by omega) (by omega)
  have hd : Int.tdiv (bt s 0) 64 % 256 = bt s 0 / 64 := by rw [Int.tdiv_eq_ediv_of_nonneg b0.1]; omega
  have hs : 0 < (s.size : Int) := by omega
  have w1 : wrap64 (2 * 1) = 2 := w64 (by omega) (by omega)
  have w2 : wrap64 (2 * 2) = 4 := w64 (by omega) (by omega)
  have w3 : wrap64 (2 * 4) = 8 := w64 (by omega) (by omega)
  have v1 : wrap64 (0 + 1) = 1 := w64 (by omega) (by omega)
  have v2 : wrap64 (1 + 1) = 2 := w64 (by omega) (by omega)
  have v3 : wrap64 (2 + 1) = 3 := w64 (by omega) (by omega)
  unfold plong
  by_cases c0 : bt s 0 < 64
  · have e : bt s 0 / 64 = 0 := by omega
    rw [caduceusref01_Get.l0, if_pos hs, hm, hd, e, if_neg (by omega), if_pos c0]
    rfl
  · by_cases c1 : bt s 0 < 128
    · have e : bt s 0 / 64 = 1 := by omega
      rw [caduceusref01_Get.l0, if_pos hs, hm, hd, e, if_pos (by omega), w1, v1, caduceusref01_Get.l0, if_pos hs, hm, hd, e, if_neg (by omega), if_neg c0, if_pos c1]
      rfl
    · by_cases c2 : bt s 0 < 192
      · have e : bt s 0 / 64 = 2 := by omega
        rw [caduceusref01_Get.l0, if_pos hs, hm, hd, e, if_pos (by omega), w1, v1, caduceusref01_Get.l0, if_pos hs, hm, hd, e, if_pos (by omega), w2, v2, caduceusref01_Get.l0, if_pos hs, hm, hd, e, if_neg (by omega), if_neg c0, if_neg c1, if_pos c2]
        rfl
      · have e : bt s 0 / 64 = 3 := by omega
        rw [caduceusref01_Get.l0, if_pos hs, hm, hd, e, if_pos (by omega), w1, v1, caduceusref01_Get.l0, if_pos hs, hm, hd, e, if_pos (by omega), w2, v2, caduceusref01_Get.l0, if_pos hs, hm, hd, e, if_pos (by omega), w3, v3, caduceusref01_Get.l0, if_pos hs, hm, hd, e, if_neg (by omega), if_neg c0, if_neg c1, if_neg c2]
        rfl

theorem ref_get_is (k : Nat) (s : ByteArray) : caduceusref01_Get.f (k + 40) s = some ((getF s).1, ⟨#[]⟩, (getF s).2.1, (getF s).2.2) := by
  unfold caduceusref01_Get.f getF
  by_cases hs : s.size = 0
  · rw [if_pos ((ba_nil s).2 hs), if_pos hs]
  · rw [if_neg (fun h => hs ((ba_nil s).1 h)), if_neg hs, ref_get_at (k + 35) s (by omega)]
    by_cases hl : (s.size : Int) < plong s
    · rw [if_pos hl, if_pos hl]
    · rw [if_neg hl, if_neg hl]
      have B := fun i => bt_range s i
      have b0 := B 0; have b1 := B 1; have b2 := B 2; have b3 := B 3; have b4 := B 4; have b5 := B 5; have b6 := B 6; have b7 := B 7
      have hf := pval_fits s (by omega)
      obtain ⟨j, hj⟩ : ∃ j, k + 35 + 4 - (bt s 0 / 64).toNat = j + 1 + 1 + 1 + 1 + 1 + 1 + 1 + 13 := ⟨k + 35 + 4 - (bt s 0 / 64).toNat - 20, by omega⟩
      rw [hj]
      rcases plong_cases s with h | h | h | h
      · rw [h] at hl hf ⊢
        rw [ref_get_end _ _ _ _ (by omega) (by omega)]
        rw [← pval_1 s]
        by_cases hp : psize (pval 1 s) = 1
        · rw [if_pos (hf.1 hp), if_pos hp]
        · rw [if_neg (fun q => hp (hf.2 q)), if_neg hp]
      · rw [h] at hl hf ⊢
        rw [ref_get_round _ _ _ _ 1 2 rfl (by omega) (by omega) (by omega) (by omega) (by omega) (by omega), ref_get_end _ _ _ _ (by omega) (by omega)]
        rw [← pval_2 s]
        by_cases hp : psize (pval 2 s) = 2
        · rw [if_pos (hf.1 hp), if_pos hp]
        · rw [if_neg (fun q => hp (hf.2 q)), if_neg hp]
      · rw [h] at hl hf ⊢
        rw [ref_get_round _ _ _ _ 1 2 rfl (by omega) (by omega) (by omega) (by omega) (by omega) (by omega), ref_get_round _ _ _ _ 2 3 rfl (by omega) (by omega) (by omega) (by omega) (by omega) (by omega), ref_get_round _ _ _ _ 3 4 rfl (by omega) (by omega) (by omega) (by omega) (by omega) (by omega), ref_get_end _ _ _ _ (by omega) (by omega)]
        rw [← pval_4 s]
        by_cases hp : psize (pval 4 s) = 4
        · rw [if_pos (hf.1 hp), if_pos hp]
        · rw [if_neg (fun q => hp (hf.2 q)), if_neg hp]
      · rw [h] at hl hf ⊢
        rw [ref_get_round _ _ _ _ 1 2 rfl (by omega) (by omega) (by omega) (by omega) (by omega) (by omega), ref_get_round _ _ _ _ 2 3 rfl (by omega) (by omega) (by omega) (by omega) (by omega) (by omega), ref_get_round _ _ _ _ 3 4 rfl (by omega) (by omega) (by omega) (by omega) (by omega) (by omega), ref_get_round _ _ _ _ 4 5 rfl (by omega) (by omega) (by omega) (by omega) (by omega) (by omega), ref_get_round _ _ _ _ 5 6 rfl (by omega) (by omega) (by omega) (by omega) (by omega) (by omega), ref_get_round _ _ _ _ 6 7 rfl (by omega) (by omega) (by omega) (by omega) (by omega) (by omega), ref_get_round _ _ _ _ 7 8 rfl (by omega) (by omega) (by omega) (by omega) (by omega) (by omega), ref_get_end _ _ _ _ (by omega) (by omega)]
        rw [← pval_8 s]
        by_cases hp : psize (pval 8 s) = 8
        · rw [if_pos (hf.1 hp), if_pos hp]
        · rw [if_neg (fun q => hp (hf.2 q)), if_neg hp]

theorem awake_is (k : Nat) : caduceuslaw01_awake.f (k + 24) = some true := by
  unfold caduceuslaw01_awake.f
  rw [quic_get_is (k + 12), quic_num_is, quic_num_is, quic_num_is, quic_num_is]
  simp only [Option.bind_some]
  rw [if_pos (by decide +kernel), if_pos (by decide +kernel), if_pos (by decide +kernel), if_pos (by decide +kernel)]
  decide +kernel


theorem getF_range (s : ByteArray) : 0 ≤ (getF s).1 ∧ (getF s).1 ≤ 4611686018427387903 ∧ 0 ≤ (getF s).2.2 := by
  unfold getF
  split
  · simp
  · split
    · simp
    · split
      · rename_i h
        have h1 : 1 ≤ plong s := by rcases plong_cases s with h | h | h | h <;> omega
        rcases psize_cases (pval (plong s) s) with ⟨g, _⟩ | ⟨g, h0, h1⟩ | ⟨g, h0, h1⟩ | ⟨g, h0, h1⟩ | ⟨g, h0, h1⟩ <;> (refine ⟨?_, ?_, Int.le_refl _⟩ <;> simp only <;> omega)
      · simp

/-- A text at the front of bytes: the text, the rest, the error. -/
def textF (s : ByteArray) : ByteArray × ByteArray × Int :=
  if (getF s).2.2 = 0 then
    if (getF s).1 > 65536 then (⟨#[]⟩, ⟨#[]⟩, 2)
    else if (getF s).1 > ((getF s).2.1.size : Int) then (⟨#[]⟩, ⟨#[]⟩, 7)
    else ((getF s).2.1.extract 0 (getF s).1.toNat, (getF s).2.1.extract (getF s).1.toNat (getF s).2.1.size, 0)
  else (⟨#[]⟩, ⟨#[]⟩, (getF s).2.2)
/-- A flag at the front of bytes: the number, the rest, the error. -/
def flagF (s : ByteArray) : Int × ByteArray × Int :=
  if s.size = 0 then (0, ⟨#[]⟩, 7) else if bt s 0 > 1 then (0, ⟨#[]⟩, 3) else (bt s 0, s.extract 1 s.size, 0)
/-- A number as a whole number. -/
def unfoldF (n : Int) : Int := if n % 2 = 1 then -(n / 2) - 1 else n / 2
/-- An item of a kind at the front of bytes: its number, its text, the rest, the error. -/
def takeF (s : ByteArray) (kind : Int) : Int × ByteArray × ByteArray × Int :=
  if kind = 4 then (0, (textF s).1, (textF s).2.1, (textF s).2.2)
  else if kind = 3 then ((flagF s).1, ⟨#[]⟩, (flagF s).2.1, (flagF s).2.2)
  else if kind = 2 then (unfoldF (getF s).1, ⟨#[]⟩, (getF s).2.1, (getF s).2.2)
  else ((getF s).1, ⟨#[]⟩, (getF s).2.1, (getF s).2.2)

theorem getF_err (s : ByteArray) (h : (getF s).2.2 ≠ 0) : getF s = (0, ⟨#[]⟩, (getF s).2.2) := by
  unfold getF at h ⊢
  by_cases h1 : s.size = 0
  · rw [if_pos h1]
  · rw [if_neg h1] at h ⊢
    by_cases h2 : (s.size : Int) < plong s
    · rw [if_pos h2]
    · rw [if_neg h2] at h ⊢
      by_cases h3 : psize (pval (plong s) s) = plong s
      · rw [if_pos h3] at h; exact absurd rfl h
      · rw [if_neg h3]

theorem quic_text_is (k : Nat) (s : ByteArray) : quic_getText.f (k + 12) s = some (textF s) := by
  have r := getF_range s
  unfold quic_getText.f textF
  rw [quic_get_is, Option.bind_some]
  by_cases h : (getF s).2.2 = 0
  · rw [if_pos h, if_pos h]
    by_cases h1 : (getF s).1 > 65536
    · rw [if_pos h1, if_pos h1]
    · rw [if_neg h1, if_neg h1]
      by_cases h2 : (getF s).1 > ((getF s).2.1.size : Int)
      · rw [if_pos h2, if_pos h2]
      · rw [if_neg h2, if_neg h2, if_pos (by omega), if_pos (by omega)]
  · rw [if_neg h, if_neg h]

theorem ref_text_is (k : Nat) (s : ByteArray) : caduceusref01_Text.f (k + 40) s = some (0, textF s) := by
  have r := getF_range s
  unfold caduceusref01_Text.f textF
  rw [ref_get_is, Option.bind_some]
  by_cases h : (getF s).2.2 = 0
  · simp only [h, if_true]
    by_cases h1 : (getF s).1 > 65536
    · rw [if_pos h1, if_pos h1]
    · rw [if_neg h1, if_neg h1]
      by_cases h2 : (getF s).1 > ((getF s).2.1.size : Int)
      · rw [if_pos h2, if_pos h2]
      · rw [if_neg h2, if_neg h2, if_pos (by omega), if_pos (by omega)]
  · simp only [h, if_false]
    have e := getF_err s h
    rw [e]

def takeL : List Int → ByteArray → List (Int × Int × ByteArray) → List (Int × Int × ByteArray) × ByteArray × Int
  | [], s, acc => (acc, s, 0)
  | k :: ks, s, acc => if (takeF s k).2.2.2 = 0 then takeL ks (takeF s k).2.2.1 (acc ++ [(k, (takeF s k).1, (takeF s k).2.1)]) else ([], ⟨#[]⟩, (takeF s k).2.2.2)
def okKinds (ks : List Int) : Bool := ks.all fun k => decide (1 ≤ k) && decide (k ≤ 4)
def takesF (s : ByteArray) (ks : List Int) : List (Int × Int × ByteArray) × ByteArray × Int :=
  if ks.length > 4096 then ([], ⟨#[]⟩, 2) else if okKinds ks then takeL ks s [] else ([], ⟨#[]⟩, 1)
theorem rd_drop {l : List Int} {i : Nat} {k : Int} {ks : List Int} (h : l.drop i = k :: ks) : rd l (i : Int) = k ∧ i < l.length ∧ l.drop (i + 1) = ks := by
  have hi : i < l.length := by
    rcases Nat.lt_or_ge i l.length with g | g
    · exact g
    · rw [List.drop_eq_nil_of_le g] at h; cases h
  rw [List.drop_eq_getElem_cons hi] at h
  injection h with h1 h2
  refine ⟨?_, hi, h2⟩
  unfold rd
  rw [Int.toNat_natCast, List.getD_eq_getElem?_getD, List.getElem?_eq_getElem hi]
  exact h1

theorem takeL_len : ∀ (ks : List Int) (s : ByteArray) (acc : List (Int × Int × ByteArray)), (takeL ks s acc).1.length ≤ acc.length + ks.length
  | [], s, acc => by simp [takeL]
  | c :: ks, s, acc => by
    simp only [takeL]
    split
    · have := takeL_len ks (takeF s c).2.2.1 (acc ++ [(c, (takeF s c).1, (takeF s c).2.1)])
      simp only [List.length_append, List.length_cons, List.length_nil] at this ⊢
      omega
    · simp
theorem takesF_len (s : ByteArray) (l : List Int) : (takesF s l).1.length ≤ 4096 := by
  unfold takesF
  split
  · simp
  · split
    · have := takeL_len l s []
      simp only [List.length_nil] at this
      omega
    · simp

def mayF (x : Int × Int × ByteArray) : Bool :=
  if x.1 = 1 then decide (0 ≤ x.2.1) && decide (x.2.1 ≤ 4611686018427387903) && decide (x.2.2.size = 0)
  else if x.1 = 2 then decide (-2305843009213693952 ≤ x.2.1) && decide (x.2.1 ≤ 2305843009213693951) && decide (x.2.2.size = 0)
  else if x.1 = 3 then (decide (x.2.1 = 0) || decide (x.2.1 = 1)) && decide (x.2.2.size = 0)
  else if x.1 = 4 then decide (x.2.2.size ≤ 65536) && decide (x.2.1 = 0)
  else false
/-- A whole number as a number. -/
def foldF (z : Int) : Int := if z < 0 then -2 * z - 1 else 2 * z
/-- An item's bytes. -/
def oneF (x : Int × Int × ByteArray) : ByteArray :=
  if x.1 = 1 then pnum x.2.1
  else if x.1 = 2 then pnum (foldF x.2.1)
  else if x.1 = 3 then strOfNums [x.2.1]
  else pnum (x.2.2.size : Int) ++ x.2.2
theorem ba_nil_beq (s : ByteArray) : (s.toList == ([] : List UInt8)) = decide (s.size = 0) := by
  rw [Bool.eq_iff_iff]; simp only [beq_iff_eq, decide_eq_true_eq]; exact ba_nil s
theorem pnum_small (n : Int) : (pnum n).size ≤ 8 := by
  have := pnum_size n
  rcases psize_cases n with ⟨h, _⟩ | ⟨h, _⟩ | ⟨h, _⟩ | ⟨h, _⟩ | ⟨h, _⟩ <;> omega
theorem strOf_one (n : Int) : (strOfNums [n]).size = 1 := by rw [strOf_size]; rfl
theorem oneF_size (x : Int × Int × ByteArray) : (oneF x).size ≤ 8 + x.2.2.size := by
  unfold oneF
  have h1 := pnum_small x.2.1; have h2 := pnum_small (foldF x.2.1); have h3 := pnum_small (x.2.2.size : Int); have h4 := strOf_one x.2.1
  split
  · omega
  · split
    · omega
    · split
      · omega
      · rw [ByteArray.size_append]; omega

theorem bits_flag : Go.bits .and .i64 0 1 = 0 ∧ Go.bits .and .i64 1 1 = 1 := ⟨bits_mask .i64 63 (by decide) wraps_i64 1 (by decide) 0 (by decide) (by decide), bits_mask .i64 63 (by decide) wraps_i64 1 (by decide) 1 (by decide) (by decide)⟩

def joinF : ByteArray → List (Int × Int × ByteArray) → ByteArray
  | b, [] => b
  | b, x :: l => joinF (b ++ oneF x) l
def putF (l : List (Int × Int × ByteArray)) : ByteArray × Int := if l.all mayF then (joinF ⟨#[]⟩ l, 0) else (⟨#[]⟩, 1)
/-- A bound on items' bytes. -/
def boundF (l : List (Int × Int × ByteArray)) : Nat := (l.map fun x => 8 + x.2.2.size).sum

theorem ba_app_assoc (a b c : ByteArray) : a ++ b ++ c = a ++ (b ++ c) := ByteArray.append_assoc
theorem ba_nil_app (a : ByteArray) : (⟨#[]⟩ : ByteArray) ++ a = a := by apply ba_ext; simp
theorem ba_app_nil (a : ByteArray) : a ++ (⟨#[]⟩ : ByteArray) = a := by apply ba_ext; simp
theorem ba_size_zero {a : ByteArray} (h : a.size = 0) : a = ⟨#[]⟩ := by
  apply ba_ext
  have : a.data.toList.length = 0 := by rw [ba_len]; exact h
  rw [List.length_eq_zero_iff.1 this]
theorem ba_extract (s : ByteArray) (i j : Nat) : (s.extract i j).data.toList = (s.data.toList.take j).drop i := by
  rw [ByteArray.data_extract, Array.toList_extract, List.extract_eq_drop_take', List.drop_take]
theorem ba_app (a b : ByteArray) : (a ++ b).data.toList = a.data.toList ++ b.data.toList := by simp
theorem ba_cut (a b : ByteArray) : (a ++ b).extract 0 a.size = a ∧ (a ++ b).extract a.size (a ++ b).size = b := by
  constructor
  · apply ba_ext
    rw [ba_extract, ba_app, List.take_left' (ba_len a)]
    rfl
  · apply ba_ext
    rw [ba_extract, ba_app, ByteArray.size_append, List.take_of_length_le (by rw [List.length_append, ba_len, ba_len]; omega), List.drop_left' (ba_len a)]
theorem ba_join (s : ByteArray) (m : Nat) (h : m ≤ s.size) : s.extract 0 m ++ s.extract m s.size = s := by
  apply ba_ext
  rw [ba_app, ba_extract, ba_extract, List.take_of_length_le (i := s.size) (by rw [ba_len]; omega), List.drop_zero, List.take_append_drop]
theorem bt_strOf (xs : List Int) (r : ByteArray) (hx : byteRow xs) (i : Nat) (hi : i < xs.length) : bt (strOfNums xs ++ r) (i : Int) = xs[i] := by
  have hs : i < (strOfNums xs ++ r).size := by rw [ByteArray.size_append, strOf_size]; omega
  have h1 := bt_get (strOfNums xs ++ r) i hs
  have h2 : (strOfNums xs ++ r).data.toList[i]'(by rw [ba_len]; exact hs) = UInt8.ofNat (xs[i]).toNat := by
    simp [strOf_data, List.getElem_append, hi]
  rw [h2] at h1
  have b := bt_range (strOfNums xs ++ r) (i : Int)
  have c := hx xs[i] (List.getElem_mem hi)
  have h3 := congrArg UInt8.toNat h1
  simp at h3
  omega

theorem getF_pnum (n : Int) (r : ByteArray) (h : psize n ≠ 0) : getF (pnum n ++ r) = (n, r, 0) := by
  have row := pnums_row n
  have hb := fun (i : Nat) (hi : i < (pnums n).length) => bt_strOf (pnums n) r row i hi
  have hsz := pnum_size n
  have key : plong (pnum n ++ r) = psize n ∧ pval (psize n) (pnum n ++ r) = n := by
    rcases psize_cases n with ⟨g, _⟩ | ⟨g, h0, h1⟩ | ⟨g, h0, h1⟩ | ⟨g, h0, h1⟩ | ⟨g, h0, h1⟩
    · contradiction
    · have e : pnums n = [n] := by unfold pnums; rw [g]; simp
      have b0 := hb 0 (by rw [e]; simp)
      simp only [e, List.getElem_cons_zero] at b0
      have b0' : bt (pnum n ++ r) 0 = n := by unfold pnum; rw [e]; simpa using b0
      rw [g]
      unfold plong
      rw [pval_1, b0']
      exact ⟨by rw [if_pos (by omega)], by omega⟩
    · have e : pnums n = [n / 256 + 64, n % 256] := by unfold pnums; rw [g]; simp
      have b0 := hb 0 (by rw [e]; simp); have b1 := hb 1 (by rw [e]; simp)
      simp only [e, List.getElem_cons_zero, List.getElem_cons_succ] at b0 b1
      have b0' : bt (pnum n ++ r) 0 = n / 256 + 64 := by unfold pnum; rw [e]; simpa using b0
      have b1' : bt (pnum n ++ r) 1 = n % 256 := by unfold pnum; rw [e]; simpa using b1
      rw [g]
      unfold plong
      rw [pval_2, b0', b1']
      exact ⟨by rw [if_neg (by omega), if_pos (by omega)], by omega⟩
    · have e : pnums n = [n / 16777216 + 128, n / 65536 % 256, n / 256 % 256, n % 256] := by unfold pnums; rw [g]; simp
      have b0 := hb 0 (by rw [e]; simp); have b1 := hb 1 (by rw [e]; simp); have b2 := hb 2 (by rw [e]; simp); have b3 := hb 3 (by rw [e]; simp)
      simp only [e, List.getElem_cons_zero, List.getElem_cons_succ] at b0 b1 b2 b3
      have b0' : bt (pnum n ++ r) 0 = n / 16777216 + 128 := by unfold pnum; rw [e]; simpa using b0
      have b1' : bt (pnum n ++ r) 1 = n / 65536 % 256 := by unfold pnum; rw [e]; simpa using b1
      have b2' : bt (pnum n ++ r) 2 = n / 256 % 256 := by unfold pnum; rw [e]; simpa using b2
      have b3' : bt (pnum n ++ r) 3 = n % 256 := by unfold pnum; rw [e]; simpa using b3
      rw [g]
      unfold plong
      rw [pval_4, b0', b1', b2', b3']
      exact ⟨by rw [if_neg (by omega), if_neg (by omega), if_pos (by omega)], by omega⟩
    · have e : pnums n = [n / 72057594037927936 + 192, n / 281474976710656 % 256, n / 1099511627776 % 256, n / 4294967296 % 256, n / 16777216 % 256, n / 65536 % 256, n / 256 % 256, n % 256] := by unfold pnums; rw [g]; simp
      have b0 := hb 0 (by rw [e]; simp); have b1 := hb 1 (by rw [e]; simp); have b2 := hb 2 (by rw [e]; simp); have b3 := hb 3 (by rw [e]; simp)
      have b4 := hb 4 (by rw [e]; simp); have b5 := hb 5 (by rw [e]; simp); have b6 := hb 6 (by rw [e]; simp); have b7 := hb 7 (by rw [e]; simp)
      simp only [e, List.getElem_cons_zero, List.getElem_cons_succ] at b0 b1 b2 b3 b4 b5 b6 b7
      have b0' : bt (pnum n ++ r) 0 = n / 72057594037927936 + 192 := by unfold pnum; rw [e]; simpa using b0
      have b1' : bt (pnum n ++ r) 1 = n / 281474976710656 % 256 := by unfold pnum; rw [e]; simpa using b1
      have b2' : bt (pnum n ++ r) 2 = n / 1099511627776 % 256 := by unfold pnum; rw [e]; simpa using b2
      have b3' : bt (pnum n ++ r) 3 = n / 4294967296 % 256 := by unfold pnum; rw [e]; simpa using b3
      have b4' : bt (pnum n ++ r) 4 = n / 16777216 % 256 := by unfold pnum; rw [e]; simpa using b4
      have b5' : bt (pnum n ++ r) 5 = n / 65536 % 256 := by unfold pnum; rw [e]; simpa using b5
      have b6' : bt (pnum n ++ r) 6 = n / 256 % 256 := by unfold pnum; rw [e]; simpa using b6
      have b7' : bt (pnum n ++ r) 7 = n % 256 := by unfold pnum; rw [e]; simpa using b7
      rw [g]
      unfold plong
      rw [pval_8, b0', b1', b2', b3', b4', b5', b6', b7']
      exact ⟨by rw [if_neg (by omega), if_neg (by omega), if_neg (by omega)], by omega⟩
  have hpos : 1 ≤ psize n := by
    rcases psize_cases n with ⟨g, _⟩ | ⟨g, _⟩ | ⟨g, _⟩ | ⟨g, _⟩ | ⟨g, _⟩ <;> omega
  have hs : (pnum n ++ r).size = (pnum n).size + r.size := ByteArray.size_append
  have cut := ba_cut (pnum n) r
  have et : (psize n).toNat = (pnum n).size := by omega
  unfold getF
  rw [if_neg (by omega), key.1, if_neg (by omega), key.2, if_pos rfl, et, cut.2]

theorem getF_ok (s : ByteArray) (h : (getF s).2.2 = 0) : s = pnum (getF s).1 ++ (getF s).2.1 ∧ psize (getF s).1 ≠ 0 := by
  unfold getF at h ⊢
  by_cases h1 : s.size = 0
  · rw [if_pos h1] at h; simp at h
  · rw [if_neg h1] at h ⊢
    by_cases h2 : (s.size : Int) < plong s
    · rw [if_pos h2] at h; simp at h
    · rw [if_neg h2] at h ⊢
      by_cases h3 : psize (pval (plong s) s) = plong s
      · rw [if_pos h3]
        have hp : 1 ≤ plong s := by rcases plong_cases s with g | g | g | g <;> omega
        have hf := (pval_fits s (by omega)).1 h3
        have e : pnum (pval (plong s) s) = s.extract 0 (plong s).toNat := ba_toList_inj.1 hf
        refine ⟨?_, by simp only; omega⟩
        simp only
        rw [e, ba_join s _ (by omega)]
      · rw [if_neg h3] at h; simp at h

theorem psize_nat {n : Nat} (h : n ≤ 4611686018427387903) : psize (n : Int) ≠ 0 := by
  rcases psize_cases (n : Int) with ⟨g, g2⟩ | ⟨g, _⟩ | ⟨g, _⟩ | ⟨g, _⟩ | ⟨g, _⟩ <;> omega
theorem textF_text (t r : ByteArray) (h : t.size ≤ 65536) : textF (pnum (t.size : Int) ++ t ++ r) = (t, r, 0) := by
  have g := getF_pnum (t.size : Int) (t ++ r) (psize_nat (by omega))
  have cut := ba_cut t r
  have hs : (t ++ r).size = t.size + r.size := ByteArray.size_append
  unfold textF
  rw [ba_app_assoc, g]
  simp only
  rw [if_pos trivial, if_neg (by omega), if_neg (by omega), Int.toNat_natCast, cut.1, cut.2]
theorem textF_ok (s : ByteArray) (h : (textF s).2.2 = 0) : s = pnum ((textF s).1.size : Int) ++ (textF s).1 ++ (textF s).2.1 ∧ (textF s).1.size ≤ 65536 := by
  have r := getF_range s
  unfold textF at h ⊢
  by_cases h1 : (getF s).2.2 = 0
  · rw [if_pos h1] at h ⊢
    by_cases h2 : (getF s).1 > 65536
    · rw [if_pos h2] at h; simp at h
    · rw [if_neg h2] at h ⊢
      by_cases h3 : (getF s).1 > ((getF s).2.1.size : Int)
      · rw [if_pos h3] at h; simp at h
      · rw [if_neg h3]
        simp only
        have g := getF_ok s h1
        have e : ((getF s).2.1.extract 0 (getF s).1.toNat).size = (getF s).1.toNat := by rw [ByteArray.size_extract]; omega
        rw [e]
        refine ⟨?_, by omega⟩
        rw [ba_app_assoc, ba_join _ _ (by omega), Int.toNat_of_nonneg r.1]
        exact g.1
  · rw [if_neg h1] at h; exact absurd h h1

theorem unfold_fold (z : Int) : unfoldF (foldF z) = z := by
  unfold unfoldF foldF
  split <;> split <;> omega
theorem fold_unfold (n : Int) (h0 : 0 ≤ n) (h1 : n ≤ 4611686018427387903) : foldF (unfoldF n) = n ∧ -2305843009213693952 ≤ unfoldF n ∧ unfoldF n ≤ 2305843009213693951 := by
  unfold unfoldF foldF
  refine ⟨?_, ?_, ?_⟩
  · split <;> split <;> omega
  · split <;> omega
  · split <;> omega
theorem psize_in {n : Int} (h0 : 0 ≤ n) (h1 : n ≤ 4611686018427387903) : psize n ≠ 0 := by
  rcases psize_cases n with ⟨g, g2⟩ | ⟨g, _⟩ | ⟨g, _⟩ | ⟨g, _⟩ | ⟨g, _⟩ <;> omega
theorem psize_out {n : Int} (h : psize n ≠ 0) : 0 ≤ n ∧ n ≤ 4611686018427387903 := by
  rcases psize_cases n with ⟨g, g2⟩ | ⟨g, _⟩ | ⟨g, _⟩ | ⟨g, _⟩ | ⟨g, _⟩ <;> first | contradiction | omega

theorem takeF_one (x : Int × Int × ByteArray) (r : ByteArray) (hm : mayF x = true) : takeF (oneF x ++ r) x.1 = (x.2.1, x.2.2, r, 0) := by
  obtain ⟨kind, n, s⟩ := x
  unfold mayF at hm
  unfold takeF oneF
  by_cases h1 : kind = 1
  · simp only [h1, if_true, Bool.and_eq_true, decide_eq_true_eq] at hm ⊢
    rw [if_neg (by omega), if_neg (by omega), if_neg (by omega), getF_pnum n r (psize_in hm.1.1 hm.1.2), ba_size_zero hm.2]
  · simp only [h1, if_false] at hm ⊢
    by_cases h2 : kind = 2
    · simp only [h2, if_true, Bool.and_eq_true, decide_eq_true_eq] at hm ⊢
      have hf : 0 ≤ foldF n ∧ foldF n ≤ 4611686018427387903 := by unfold foldF; split <;> omega
      rw [if_neg (by omega), if_neg (by omega), getF_pnum _ r (psize_in hf.1 hf.2), unfold_fold, ba_size_zero hm.2]
    · simp only [h2, if_false] at hm ⊢
      by_cases h3 : kind = 3
      · simp only [h3, if_true, Bool.and_eq_true, Bool.or_eq_true, decide_eq_true_eq] at hm ⊢
        rw [if_neg (by omega)]
        have hb := bt_strOf [n] r (by intro y hy; simp at hy; omega) 0 (by simp)
        simp only [List.getElem_cons_zero] at hb
        have hb' : bt (strOfNums [n] ++ r) 0 = n := by simpa using hb
        have cut := (ba_cut (strOfNums [n]) r).2
        rw [strOf_one] at cut
        unfold flagF
        rw [if_neg (by rw [ByteArray.size_append, strOf_one]; omega), hb', if_neg (by omega), cut, ba_size_zero hm.2]
      · simp only [h3, if_false] at hm ⊢
        by_cases h4 : kind = 4
        · simp only [h4, if_true, Bool.and_eq_true, decide_eq_true_eq] at hm ⊢
          rw [textF_text s r hm.1, hm.2]
        · simp only [h4, if_false] at hm
          cases hm
theorem flagF_ok (s : ByteArray) (h : (flagF s).2.2 = 0) : s = strOfNums [(flagF s).1] ++ (flagF s).2.1 ∧ ((flagF s).1 = 0 ∨ (flagF s).1 = 1) := by
  unfold flagF at h ⊢
  by_cases h1 : s.size = 0
  · rw [if_pos h1] at h; simp at h
  · rw [if_neg h1] at h ⊢
    by_cases h2 : bt s 0 > 1
    · rw [if_pos h2] at h; simp at h
    · rw [if_neg h2]
      simp only
      have b := bt_range s 0
      refine ⟨?_, by omega⟩
      have e : strOfNums [bt s 0] = s.extract 0 1 := by
        apply ba_ext
        rw [ext_take s 1 (by omega), strOf_data]
        simp [List.range, List.range.loop]
      rw [e, ba_join s 1 (by omega)]
theorem takeF_ok (s : ByteArray) (kind : Int) (hk : 1 ≤ kind ∧ kind ≤ 4) (h : (takeF s kind).2.2.2 = 0) : s = oneF (kind, (takeF s kind).1, (takeF s kind).2.1) ++ (takeF s kind).2.2.1 ∧ mayF (kind, (takeF s kind).1, (takeF s kind).2.1) = true := by
  unfold takeF at h ⊢
  by_cases h4 : kind = 4
  · simp only [h4, if_true] at h ⊢
    have g := textF_ok s h
    refine ⟨by simp only [oneF]; exact g.1, by simp [mayF]; exact g.2⟩
  · simp only [h4, if_false] at h ⊢
    by_cases h3 : kind = 3
    · simp only [h3, if_true] at h ⊢
      have g := flagF_ok s h
      refine ⟨by simp only [oneF]; exact g.1, ?_⟩
      have e0 : (⟨#[]⟩ : ByteArray).size = 0 := rfl
      rcases g.2 with q | q <;> simp [mayF, q, e0]
    · simp only [h3, if_false] at h ⊢
      have e0 : (⟨#[]⟩ : ByteArray).size = 0 := rfl
      by_cases h2 : kind = 2
      · simp only [h2, if_true] at h ⊢
        have g := getF_ok s h
        have r := getF_range s
        have f := fold_unfold _ r.1 r.2.1
        refine ⟨by simp only [oneF]; simp [f.1]; exact g.1, by simp [mayF, e0, f.2]⟩
      · simp only [h2, if_false] at h ⊢
        have h1 : kind = 1 := by omega
        subst h1
        have g := getF_ok s h
        have r := getF_range s
        refine ⟨by simp only [oneF]; simp; exact g.1, by simp [mayF, e0, r.1, r.2.1]⟩

/-- Items' bytes. -/
def catF : List (Int × Int × ByteArray) → ByteArray
  | [] => ⟨#[]⟩
  | x :: l => oneF x ++ catF l
theorem joinF_cat : ∀ (l : List (Int × Int × ByteArray)) (b : ByteArray), joinF b l = b ++ catF l
  | [], b => by simp only [joinF, catF, ba_app_nil]
  | x :: l, b => by simp only [joinF, catF, joinF_cat l, ba_app_assoc]
theorem takeL_cat : ∀ (l : List (Int × Int × ByteArray)) (r : ByteArray) (acc : List (Int × Int × ByteArray)), l.all mayF = true → takeL (l.map (·.1)) (catF l ++ r) acc = (acc ++ l, r, 0)
  | [], r, acc, _ => by simp [takeL, catF, ba_nil_app]
  | x :: l, r, acc, h => by
    simp only [List.all_cons, Bool.and_eq_true] at h
    simp only [List.map_cons, takeL, catF, ba_app_assoc]
    rw [takeF_one x (catF l ++ r) h.1]
    simp only
    rw [if_pos trivial, takeL_cat l r _ h.2]
    simp
theorem okKinds_may (l : List (Int × Int × ByteArray)) (h : l.all mayF = true) : okKinds (l.map (·.1)) = true := by
  unfold okKinds
  rw [List.all_map]
  rw [List.all_eq_true] at h ⊢
  intro x hx
  have hm := h x hx
  unfold mayF at hm
  simp only [Function.comp, Bool.and_eq_true, decide_eq_true_eq]
  by_cases h1 : x.1 = 1
  · omega
  · by_cases h2 : x.1 = 2
    · omega
    · by_cases h3 : x.1 = 3
      · omega
      · by_cases h4 : x.1 = 4
        · omega
        · simp [h1, h2, h3, h4] at hm
theorem takeL_back : ∀ (ks : List Int) (s : ByteArray) (acc : List (Int × Int × ByteArray)), okKinds ks = true → (takeL ks s acc).2.2 = 0 →
    ∃ l, (takeL ks s acc).1 = acc ++ l ∧ s = catF l ++ (takeL ks s acc).2.1 ∧ l.all mayF = true ∧ l.length = ks.length
  | [], s, acc, _, _ => ⟨[], by simp [takeL], by simp [takeL, catF, ba_nil_app], rfl, rfl⟩
  | k :: ks, s, acc, ho, h => by
    simp only [okKinds, List.all_cons, Bool.and_eq_true, decide_eq_true_eq] at ho
    simp only [takeL] at h ⊢
    by_cases e : (takeF s k).2.2.2 = 0
    · rw [if_pos e] at h ⊢
      have g := takeF_ok s k ho.1 e
      obtain ⟨l, h1, h2, h3, h4⟩ := takeL_back ks _ _ ho.2 h
      refine ⟨(k, (takeF s k).1, (takeF s k).2.1) :: l, ?_, ?_, ?_, ?_⟩
      · rw [h1]; simp
      · simp only [catF, ba_app_assoc]
        rw [← h2]
        exact g.1
      · simp only [List.all_cons, g.2, Bool.true_and]; exact h3
      · simp [h4]
    · rw [if_neg e] at h
      exact absurd h e
theorem catF_size : ∀ (l : List (Int × Int × ByteArray)), (catF l).size ≤ boundF l
  | [] => Nat.le_refl _
  | x :: l => by
    have := catF_size l
    have := oneF_size x
    simp only [catF, ByteArray.size_append, boundF, List.map_cons, List.sum_cons]
    unfold boundF at *
    omega

/-! Lists of texts. -/
def longT (l : List ByteArray) : Bool := l.all fun s => decide (s.size ≤ 65536)
def joinT : ByteArray → List ByteArray → ByteArray
  | b, [] => b
  | b, s :: l => joinT (b ++ (pnum (s.size : Int) ++ s)) l
def listF (l : List ByteArray) : ByteArray × Int :=
  if l.length > 4096 then (⟨#[]⟩, 2) else if longT l then (joinT (pnum (l.length : Int)) l, 0) else (⟨#[]⟩, 2)
theorem rdt_drop {l : List ByteArray} {i : Nat} {x : ByteArray} {r : List ByteArray} (h : l.drop i = x :: r) : rdOf ByteArray.empty l (i : Int) = x ∧ i < l.length ∧ l.drop (i + 1) = r := by
  have hi : i < l.length := by
    rcases Nat.lt_or_ge i l.length with g | g
    · exact g
    · rw [List.drop_eq_nil_of_le g] at h; cases h
  rw [List.drop_eq_getElem_cons hi] at h
  injection h with h1 h2
  refine ⟨?_, hi, h2⟩
  unfold rdOf
  rw [Int.toNat_natCast, List.getD_eq_getElem?_getD, List.getElem?_eq_getElem hi]
  exact h1
theorem quic_List_l0 (l : List ByteArray) (hl : l.length ≤ 4096) : ∀ (r : List ByteArray) (i : Nat) (b : ByteArray) (k : Nat), l.drop i = r → b.size ≤ 8 + i * 65544 → r.length + 30 ≤ k →
    quic_List.l0 k l b (i : Int) = some (if longT r then (joinT b r, 0) else (⟨#[]⟩, 2)) := by
  intro r
  induction r with
  | nil =>
    intro i b k h hb hk
    obtain ⟨k, rfl⟩ : ∃ m, k = m + 1 := ⟨k - 1, by omega⟩
    have : l.length ≤ i := List.drop_eq_nil_iff.1 h
    rw [quic_List.l0, if_neg (by omega)]
    rfl
  | cons x r ih =>
    intro i b k h hb hk
    simp only [List.length_cons] at hk
    obtain ⟨k, rfl⟩ : ∃ m, k = m + 24 + 1 := ⟨k - 25, by omega⟩
    obtain ⟨hr, hi, hd⟩ := rdt_drop h
    rw [quic_List.l0, if_pos (by omega), if_pos (by omega), hr]
    by_cases g : (x.size : Int) > 65536
    · rw [if_pos g]
      have : ¬ x.size ≤ 65536 := by omega
      simp [longT, this]
    · rw [if_neg g]
      have hp := pnum_small (x.size : Int)
      have ht : quic_text.f (k + 24) x = some (pnum (x.size : Int) ++ x) := by
        unfold quic_text.f
        rw [quic_num_is, Option.bind_some, if_pos (by omega)]
      rw [ht, Option.bind_some, if_pos (by rw [ByteArray.size_append]; omega), w64 (by omega) (by omega)]
      have := ih (i + 1) (b ++ (pnum (x.size : Int) ++ x)) (k + 24) hd (by rw [ByteArray.size_append, ByteArray.size_append]; omega) (by omega)
      have e : longT (x :: r) = longT r := by
        have : x.size ≤ 65536 := by omega
        simp [longT, this]
      rw [e]
      exact this
theorem quic_List_is (l : List ByteArray) (k : Nat) (hk : l.length + 30 ≤ k) : quic_List.f k l = some (listF l) := by
  unfold quic_List.f listF
  by_cases h : (l.length : Int) > 4096
  · rw [if_pos h, if_pos (by omega)]
  · rw [if_neg h, if_neg (by omega)]
    obtain ⟨m, rfl⟩ : ∃ m, k = m + 24 := ⟨k - 24, by omega⟩
    have hp := pnum_small (l.length : Int)
    rw [quic_num_is, Option.bind_some, if_pos (by omega)]
    exact quic_List_l0 l (by omega) l 0 _ _ rfl (by omega) (by omega)
theorem ref_List_l0 (l : List ByteArray) (hl : l.length ≤ 4096) : ∀ (r : List ByteArray) (i : Nat) (b : ByteArray) (k : Nat), l.drop i = r → b.size ≤ 8 + i * 65544 → r.length + 30 ≤ k →
    caduceusref01_List.l0 k l b (i : Int) = some (if longT r then (joinT b r, 0) else (⟨#[]⟩, 2)) := by
  intro r
  induction r with
  | nil =>
    intro i b k h hb hk
    obtain ⟨k, rfl⟩ : ∃ m, k = m + 1 := ⟨k - 1, by omega⟩
    have : l.length ≤ i := List.drop_eq_nil_iff.1 h
    rw [caduceusref01_List.l0, if_neg (by omega)]
    rfl
  | cons x r ih =>
    intro i b k h hb hk
    simp only [List.length_cons] at hk
    obtain ⟨k, rfl⟩ : ∃ m, k = m + 12 + 1 := ⟨k - 13, by omega⟩
    obtain ⟨hr, hi, hd⟩ := rdt_drop h
    rw [caduceusref01_List.l0, if_pos (by omega), if_pos (by omega), hr]
    by_cases g : (x.size : Int) > 65536
    · rw [if_pos g]
      have : ¬ x.size ≤ 65536 := by omega
      simp [longT, this]
    · rw [if_neg g]
      have hp := pnum_small (x.size : Int)
      rw [ref_num_is, Option.bind_some, if_pos (by omega), if_pos (by rw [ByteArray.size_append]; omega), w64 (by omega) (by omega), ba_app_assoc]
      have := ih (i + 1) (b ++ (pnum (x.size : Int) ++ x)) (k + 12) hd (by rw [ByteArray.size_append, ByteArray.size_append]; omega) (by omega)
      have e : longT (x :: r) = longT r := by
        have : x.size ≤ 65536 := by omega
        simp [longT, this]
      rw [e]
      exact this
theorem ref_List_is (l : List ByteArray) (k : Nat) (hk : l.length + 30 ≤ k) : caduceusref01_List.f k l = some (listF l) := by
  unfold caduceusref01_List.f listF
  by_cases h : (l.length : Int) > 4096
  · rw [if_pos h, if_pos (by omega)]
  · rw [if_neg h, if_neg (by omega)]
    obtain ⟨m, rfl⟩ : ∃ m, k = m + 12 := ⟨k - 12, by omega⟩
    have hp := pnum_small (l.length : Int)
    rw [ref_num_is, Option.bind_some]
    exact ref_List_l0 l (by omega) l 0 _ _ rfl (by omega) (by omega)
/-- So many texts, one behind the other. -/
def textsF : Nat → ByteArray → List ByteArray → List ByteArray × ByteArray × Int
  | 0, s, acc => (acc, s, 0)
  | m + 1, s, acc => if (textF s).2.2 = 0 then textsF m (textF s).2.1 (acc ++ [(textF s).1]) else ([], ⟨#[]⟩, (textF s).2.2)
def unlistF (s : ByteArray) : List ByteArray × ByteArray × Int :=
  if (getF s).2.2 = 0 then (if (getF s).1 > 4096 then ([], ⟨#[]⟩, 2) else textsF (getF s).1.toNat (getF s).2.1 []) else ([], ⟨#[]⟩, (getF s).2.2)
theorem quic_Unlist_l0 (n : Int) (hn : n ≤ 4096) : ∀ (d i : Nat) (s : ByteArray) (acc : List ByteArray) (k : Nat), (i : Int) + d = n → acc.length = i → d + 30 ≤ k →
    quic_Unlist.l0 k acc s n (i : Int) = some (textsF d s acc) := by
  intro d
  induction d with
  | zero =>
    intro i s acc k h ha hk
    obtain ⟨k, rfl⟩ : ∃ m, k = m + 1 := ⟨k - 1, by omega⟩
    rw [quic_Unlist.l0, if_neg (by omega)]
    rfl
  | succ d ih =>
    intro i s acc k h ha hk
    obtain ⟨k, rfl⟩ : ∃ m, k = m + 12 + 1 := ⟨k - 13, by omega⟩
    rw [quic_Unlist.l0, if_pos (by omega), quic_text_is, Option.bind_some]
    simp only [textsF]
    by_cases e : (textF s).2.2 = 0
    · rw [if_pos e, if_pos e, if_pos (by omega), w64 (by omega) (by omega)]
      exact ih (i + 1) (textF s).2.1 (acc ++ [(textF s).1]) (k + 12) (by omega) (by simp [ha]) (by omega)
    · rw [if_neg e, if_neg e]
theorem quic_Unlist_is (s : ByteArray) (k : Nat) (hk : 5000 ≤ k) : quic_Unlist.f k s = some (unlistF s) := by
  have r := getF_range s
  unfold quic_Unlist.f unlistF
  obtain ⟨m, rfl⟩ : ∃ m, k = m + 12 := ⟨k - 12, by omega⟩
  rw [quic_get_is, Option.bind_some]
  by_cases h : (getF s).2.2 = 0
  · rw [if_pos h, if_pos h]
    by_cases h2 : (getF s).1 > 4096
    · rw [if_pos h2, if_pos h2]
    · rw [if_neg h2, if_neg h2]
      exact quic_Unlist_l0 _ (by omega) _ 0 _ [] _ (by omega) rfl (by omega)
  · rw [if_neg h, if_neg h]
theorem ref_Unlist_l0 (n : Int) (hn : n ≤ 4096) (z1 z2 : ByteArray) (z3 : Int) : ∀ (d i : Nat) (s : ByteArray) (acc : List ByteArray) (k : Nat), (i : Int) + d = n → acc.length = i → d + 60 ≤ k →
    caduceusref01_Unlist.l0 k (i : Int) n z1 z2 z3 acc s 0 = some (textsF d s acc) := by
  intro d
  induction d with
  | zero =>
    intro i s acc k h ha hk
    obtain ⟨k, rfl⟩ : ∃ m, k = m + 1 := ⟨k - 1, by omega⟩
    rw [caduceusref01_Unlist.l0, if_neg (by omega)]
    rfl
  | succ d ih =>
    intro i s acc k h ha hk
    obtain ⟨k, rfl⟩ : ∃ m, k = m + 40 + 1 := ⟨k - 41, by omega⟩
    rw [caduceusref01_Unlist.l0, if_pos (by omega), ref_text_is, Option.bind_some]
    simp only [textsF]
    by_cases e : (textF s).2.2 = 0
    · rw [if_pos e, if_pos e, if_pos (by omega), w64 (by omega) (by omega)]
      exact ih (i + 1) (textF s).2.1 (acc ++ [(textF s).1]) (k + 40) (by omega) (by simp [ha]) (by omega)
    · rw [if_neg e, if_neg e]
theorem ref_Unlist_is (s : ByteArray) (k : Nat) (hk : 5000 ≤ k) : caduceusref01_Unlist.f k s = some (unlistF s) := by
  have r := getF_range s
  unfold caduceusref01_Unlist.f unlistF
  obtain ⟨m, rfl⟩ : ∃ m, k = m + 40 := ⟨k - 40, by omega⟩
  rw [ref_get_is, Option.bind_some]
  by_cases h : (getF s).2.2 = 0
  · simp only [h, if_true]
    by_cases h2 : (getF s).1 > 4096
    · rw [if_pos h2, if_pos h2]
    · rw [if_neg h2, if_neg h2]
      exact ref_Unlist_l0 _ (by omega) _ _ _ _ 0 _ [] _ (by omega) rfl (by omega)
  · simp only [h, if_false]
theorem textsF_len : ∀ (d : Nat) (s : ByteArray) (acc : List ByteArray), (textsF d s acc).1.length ≤ acc.length + d
  | 0, s, acc => by simp [textsF]
  | d + 1, s, acc => by
    simp only [textsF]
    split
    · have := textsF_len d (textF s).2.1 (acc ++ [(textF s).1])
      simp only [List.length_append, List.length_cons, List.length_nil] at this
      omega
    · simp
theorem unlistF_len (s : ByteArray) : (unlistF s).1.length ≤ 4096 := by
  have r := getF_range s
  unfold unlistF
  split
  · split
    · simp
    · have := textsF_len (getF s).1.toNat (getF s).2.1 []
      simp only [List.length_nil] at this
      omega
  · simp
theorem sameT_l0 (l : List ByteArray) (hl : l.length ≤ 4398046511104) : ∀ (d i k : Nat), i + d = l.length → d < k → caduceusref01_SameTexts.l0 k l l (i : Int) = some true := by
  intro d
  induction d with
  | zero =>
    intro i k h hk
    obtain ⟨k, rfl⟩ : ∃ m, k = m + 1 := ⟨k - 1, by omega⟩
    rw [caduceusref01_SameTexts.l0, if_neg (by omega)]
  | succ d ih =>
    intro i k h hk
    obtain ⟨k, rfl⟩ : ∃ m, k = m + 1 := ⟨k - 1, by omega⟩
    rw [caduceusref01_SameTexts.l0, if_pos (by omega), if_pos (by omega), if_pos (by omega), if_pos rfl, w64 (by omega) (by omega)]
    exact ih (i + 1) k (by omega) (by omega)
theorem sameT_is (l : List ByteArray) (hl : l.length ≤ 4398046511104) (k : Nat) (hk : l.length < k) : caduceusref01_SameTexts.f k l l = some true := by
  unfold caduceusref01_SameTexts.f
  rw [if_pos rfl]
  exact sameT_l0 l hl l.length 0 k (by omega) hk
/-- Texts' bytes. -/
def catT : List ByteArray → ByteArray
  | [] => ⟨#[]⟩
  | s :: l => (pnum (s.size : Int) ++ s) ++ catT l
theorem joinT_cat : ∀ (l : List ByteArray) (b : ByteArray), joinT b l = b ++ catT l
  | [], b => by simp only [joinT, catT, ba_app_nil]
  | x :: l, b => by simp only [joinT, catT, joinT_cat l, ba_app_assoc]
theorem textsF_cat : ∀ (l : List ByteArray) (r : ByteArray) (acc : List ByteArray), longT l = true → textsF l.length (catT l ++ r) acc = (acc ++ l, r, 0)
  | [], r, acc, _ => by simp [textsF, catT, ba_nil_app]
  | x :: l, r, acc, h => by
    simp only [longT, List.all_cons, Bool.and_eq_true, decide_eq_true_eq] at h
    have e := textF_text x (catT l ++ r) h.1
    simp only [List.length_cons, textsF, catT]
    rw [ba_app_assoc (pnum (x.size : Int) ++ x), e]
    simp only
    rw [if_pos trivial, textsF_cat l r _ h.2]
    simp
theorem unlist_list (l : List ByteArray) (r : ByteArray) (hl : l.length ≤ 4096) (h : longT l = true) : unlistF ((listF l).1 ++ r) = (l, r, 0) := by
  unfold listF
  rw [if_neg (by omega), if_pos h]
  simp only
  rw [joinT_cat, ba_app_assoc]
  unfold unlistF
  rw [getF_pnum _ _ (psize_nat (by omega))]
  simp only
  rw [if_pos trivial, if_neg (by omega), Int.toNat_natCast, textsF_cat l r [] h]
  rfl
theorem textsF_back : ∀ (d : Nat) (s : ByteArray) (acc : List ByteArray), (textsF d s acc).2.2 = 0 → ∃ l, (textsF d s acc).1 = acc ++ l ∧ s = catT l ++ (textsF d s acc).2.1 ∧ longT l = true ∧ l.length = d
  | 0, s, acc, _ => ⟨[], by simp [textsF], by simp [textsF, catT, ba_nil_app], rfl, rfl⟩
  | d + 1, s, acc, h => by
    simp only [textsF] at h ⊢
    by_cases e : (textF s).2.2 = 0
    · rw [if_pos e] at h ⊢
      have g := textF_ok s e
      obtain ⟨l, h1, h2, h3, h4⟩ := textsF_back d _ _ h
      refine ⟨(textF s).1 :: l, ?_, ?_, ?_, ?_⟩
      · rw [h1]; simp
      · simp only [catT]
        rw [ba_app_assoc (pnum _ ++ _), ← h2]
        exact g.1
      · simp only [longT, List.all_cons, Bool.and_eq_true, decide_eq_true_eq]
        exact ⟨g.2, h3⟩
      · simp [h4]
    · rw [if_neg e] at h
      exact absurd h e
theorem textsF_err : ∀ (d : Nat) (s : ByteArray) (acc : List ByteArray), (textsF d s acc).2.2 ≠ 0 → (textsF d s acc).1 = [] ∧ (textsF d s acc).2.1 = ⟨#[]⟩
  | 0, s, acc, h => by simp [textsF] at h
  | d + 1, s, acc, h => by
    simp only [textsF] at h ⊢
    by_cases e : (textF s).2.2 = 0
    · rw [if_pos e] at h ⊢
      exact textsF_err d _ _ h
    · rw [if_neg e]
      exact ⟨rfl, rfl⟩
theorem unlistF_err (s : ByteArray) (h : (unlistF s).2.2 ≠ 0) : (unlistF s).1 = [] ∧ (unlistF s).2.1 = ⟨#[]⟩ := by
  unfold unlistF at h ⊢
  split
  · rename_i g
    rw [if_pos g] at h
    split
    · exact ⟨rfl, rfl⟩
    · rename_i g2
      rw [if_neg g2] at h
      exact textsF_err _ _ _ h
  · exact ⟨rfl, rfl⟩
theorem list_unlist (s : ByteArray) (h : (unlistF s).2.2 = 0) : (listF (unlistF s).1).2 = 0 ∧ (listF (unlistF s).1).1 ++ (unlistF s).2.1 = s := by
  have hl := unlistF_len s
  have r := getF_range s
  have key : longT (unlistF s).1 = true ∧ s = pnum ((unlistF s).1.length : Int) ++ (catT (unlistF s).1 ++ (unlistF s).2.1) := by
    unfold unlistF at h ⊢
    by_cases g : (getF s).2.2 = 0
    · rw [if_pos g] at h ⊢
      by_cases g2 : (getF s).1 > 4096
      · rw [if_pos g2] at h; simp at h
      · rw [if_neg g2] at h ⊢
        obtain ⟨l, h1, h2, h3, h4⟩ := textsF_back _ _ _ h
        rw [h1, List.nil_append]
        refine ⟨h3, ?_⟩
        rw [← h2, h4, Int.toNat_of_nonneg r.1]
        exact (getF_ok s g).1
    · rw [if_neg g] at h; exact absurd h g
  unfold listF
  rw [if_neg (by omega), if_pos key.1]
  refine ⟨rfl, ?_⟩
  simp only
  rw [joinT_cat, ba_app_assoc]
  exact key.2.symm

end QuicListsC
open QuicListsC

theorem lists_end (l : List ByteArray) (s : ByteArray) (k : Nat) (hl : l.length ≤ 200) (hk : 6000 ≤ k) :
    ((quic_List.f k l).bind fun a => (caduceusref01_List.f k l).bind fun b => (quic_Unlist.f k s).bind fun c => (caduceusref01_Unlist.f k s).bind fun d => (caduceuslaw01_awake.f k).bind fun t =>
      (if t = true then (if a.1.toList = b.1.toList then (if a.2 = b.2 then ((caduceusref01_SameTexts.f k c.1 d.1).bind fun t192 => (if t192 = true then (if c.2.1.toList = d.2.1.toList then (some (c.2.2 == d.2.2)) else (some false)) else (some false))) else (some false)) else (some false)) else (some false))) = some true := by
  have aw := fun k (h : 24 ≤ k) => (by obtain ⟨m, rfl⟩ : ∃ m, k = m + 24 := ⟨k - 24, by omega⟩; exact awake_is m : caduceuslaw01_awake.f k = some true)
  have hu := unlistF_len s
  rw [quic_List_is l k (by omega), ref_List_is l k (by omega), quic_Unlist_is s k (by omega), ref_Unlist_is s k (by omega), aw k (by omega)]
  simp only [Option.bind_some, if_true]
  rw [sameT_is _ (by omega) k (by omega)]
  simp
theorem lists_l0 (l : List ByteArray) (s : ByteArray) (hl : l.length ≤ 200) : ∀ (r : List ByteArray) (i k : Nat), l.drop i = r → r.length + 6001 ≤ k → caduceuslaw01_QuicLists.l0 k l s (i : Int) = some true := by
  have aw := fun k (h : 24 ≤ k) => (by obtain ⟨m, rfl⟩ : ∃ m, k = m + 24 := ⟨k - 24, by omega⟩; exact awake_is m : caduceuslaw01_awake.f k = some true)
  intro r
  induction r with
  | nil =>
    intro i k h hk
    obtain ⟨k, rfl⟩ : ∃ m, k = m + 1 := ⟨k - 1, by omega⟩
    have : l.length ≤ i := List.drop_eq_nil_iff.1 h
    rw [caduceuslaw01_QuicLists.l0, if_neg (by omega)]
    exact lists_end l s k hl (by simp at hk; omega)
  | cons x r ih =>
    intro i k h hk
    simp only [List.length_cons] at hk
    obtain ⟨k, rfl⟩ : ∃ m, k = m + 1 := ⟨k - 1, by omega⟩
    obtain ⟨hr, hi, hd⟩ := rdt_drop h
    rw [caduceuslaw01_QuicLists.l0, if_pos (by omega), if_pos (by omega), hr, w64 (by omega) (by omega)]
    have := ih (i + 1) k hd (by omega)
    split
    · split
      · rw [aw k (by omega)]; rfl
      · exact this
    · exact this
theorem QuicLists : caduceuslaw01_QuicLists.Pure := by
  intro l s hg hl hs
  have aw := fun k (h : 24 ≤ k) => (by obtain ⟨m, rfl⟩ : ∃ m, k = m + 24 := ⟨k - 24, by omega⟩; exact awake_is m : caduceuslaw01_awake.f k = some true)
  unfold caduceuslaw01_QuicLists.f
  refine ⟨7000, ?_⟩
  by_cases h1 : (l.length : Int) > 200
  · rw [if_pos h1, caduceuslaw01_QuicLists.j0, if_pos rfl, aw _ (by omega)]; rfl
  · rw [if_neg h1]
    by_cases h2 : (s.size : Int) > 20000
    · rw [caduceuslaw01_QuicLists.j0, if_pos (by simpa using h2), aw _ (by omega)]; rfl
    · rw [caduceuslaw01_QuicLists.j0, if_neg (by simpa using h2)]
      exact lists_l0 l s (by omega) l 0 _ rfl (by omega)

end Go.Proofs.Ytbjokknoladmpaa.Pure
