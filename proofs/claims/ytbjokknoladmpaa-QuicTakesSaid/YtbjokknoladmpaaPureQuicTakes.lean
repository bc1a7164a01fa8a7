/- For every text s and all kinds: quic.Take(s, kinds) and quic.Row(s, kinds) tell what the document's Take tells (up to 20,000 bytes and 200 kinds; more than 4,096 kinds are refused). No further condition. -/
import Derived.Test.YtbjokknoladmpaaPQuicTakesx8
import Derived.Test.YtbjokknoladmpaaQB
namespace Go.Proofs.Ytbjokknoladmpaa.Pure
open Go.RowKit Go.Proofs.Ytbjokknoladmpaa.PQuicTakes Go.Proofs.YtbjokknoladmpaaW.PrintWords Go.Proofs.YtbjokknoladmpaaW.PrintLast Go.Proofs.YtbjokknoladmpaaW.PrintMore Go.Proofs.Ytbjokknoladmpaa.QB
set_option linter.unusedSimpArgs false
set_option linter.unusedVariables false

namespace QuicTakesC
theorem quic_size_is (n : Int) : quic_Size.f n = some (psize n) := by
  unfold quic_Size.f psize
  repeat' split
  all_goals first | rfl | (exfalso; omega)

theorem ref_size_is (k : Nat) (n : Int) : caduceusref01_Size.f (k + 1) n = some (psize n) := by
  unfold caduceusref01_Size.f psize
  rw [caduceusref01_Size.j0, caduceusref01_Size.j0]
  simp only [decide_eq_true_eq]
  repeat' split
  all_goals first | rfl | (exfalso; first | omega | simp_all)

theorem ref_num_is (k : Nat) (n : Int) : caduceusref01_Num.f (k + 12) n = some (pnum n) := by
  unfold caduceusref01_Num.f pnum pnums
  rw [ref_size_is (k + 11), Option.bind_some]
  rcases psize_cases n with ⟨h, h'⟩ | ⟨h, h0, h1⟩ | ⟨h, h0, h1⟩ | ⟨h, h0, h1⟩ | ⟨h, h0, h1⟩
  · rw [h]
    simp [caduceusref01_Num.l0, caduceusref01_Num.j1, wrap64]
  all_goals
    have hu : IntKind.u64.wrap n = n := u64id (by omega) (by omega)
    rw [h]
    simp [caduceusref01_Num.l0, caduceusref01_Num.j1, wrap64, hu, shr_u_0, wrap_u_0, shr_u_8, wrap_u_8, shr_u_16, wrap_u_16, shr_u_24, wrap_u_24, shr_u_32, wrap_u_32, shr_u_40, wrap_u_40, shr_u_48, wrap_u_48, shr_u_56, wrap_u_56, rd]
    congr 1
    simp only [List.cons.injEq, and_true]
    omega

theorem class_is (k : Nat) : quic_class.f (k + 12) 1 = some 0 ∧ quic_class.f (k + 12) 2 = some 1 ∧ quic_class.f (k + 12) 4 = some 2 ∧ quic_class.f (k + 12) 8 = some 3 := by
  refine ⟨?_, ?_, ?_, ?_⟩ <;> simp [quic_class.f, quic_class.l0, wrap64]

theorem quic_num_is (k : Nat) (n : Int) : quic_Num.f (k + 24) n = some (pnum n) := by
  unfold quic_Num.f pnum pnums
  rw [quic_size_is, Option.bind_some]
  rcases psize_cases n with ⟨h, h'⟩ | ⟨h, h0, h1⟩ | ⟨h, h0, h1⟩ | ⟨h, h0, h1⟩ | ⟨h, h0, h1⟩
  · rw [h]
    simp [strOfNums]
  · rw [h]
    simp [quic_Num.l0, wrap64, shr_i_0, shr_i_8, shr_i_16, shr_i_24, shr_i_32, shr_i_40, shr_i_48, shr_i_56, rd, class_is]
    rw [(u8_or_top (by omega) (by omega)).1]
    congr 1
    simp only [List.cons.injEq, and_true]
    omega
  · rw [h]
    simp [quic_Num.l0, wrap64, shr_i_0, shr_i_8, shr_i_16, shr_i_24, shr_i_32, shr_i_40, shr_i_48, shr_i_56, rd, class_is]
    rw [(u8_or_top (by omega) (by omega)).2.1]
    congr 1
    simp only [List.cons.injEq, and_true]
    omega
  · rw [h]
    simp [quic_Num.l0, wrap64, shr_i_0, shr_i_8, shr_i_16, shr_i_24, shr_i_32, shr_i_40, shr_i_48, shr_i_56, rd, class_is]
    rw [(u8_or_top (by omega) (by omega)).2.2.1]
    congr 1
    simp only [List.cons.injEq, and_true]
    omega
  · rw [h]
    simp [quic_Num.l0, wrap64, shr_i_0, shr_i_8, shr_i_16, shr_i_24, shr_i_32, shr_i_40, shr_i_48, shr_i_56, rd, class_is]
    rw [(u8_or_top (by omega) (by omega)).2.2.2]
    congr 1
    simp only [List.cons.injEq, and_true]
    omega

theorem plong_quic (s : ByteArray) : shl .i64 1 (bt s 0 / 64) = plong s ∧ 0 ≤ bt s 0 / 64 := by
  have B := bt_range s 0
  unfold plong
  refine ⟨?_, by omega⟩
  by_cases c0 : bt s 0 < 64
  · rw [if_pos c0, show bt s 0 / 64 = 0 by omega]; exact shl_1.1
  · by_cases c1 : bt s 0 < 128
    · rw [if_neg c0, if_pos c1, show bt s 0 / 64 = 1 by omega]; exact shl_1.2.1
    · by_cases c2 : bt s 0 < 192
      · rw [if_neg c0, if_neg c1, if_pos c2, show bt s 0 / 64 = 2 by omega]; exact shl_1.2.2.1
      · rw [if_neg c0, if_neg c1, if_neg c2, show bt s 0 / 64 = 3 by omega]; exact shl_1.2.2.2
theorem plong_cases (s : ByteArray) : plong s = 1 ∨ plong s = 2 ∨ plong s = 4 ∨ plong s = 8 := by
  unfold plong; (repeat' split) <;> simp

def getF (s : ByteArray) : Int × ByteArray × Int :=
  if s.size = 0 then (0, ⟨#[]⟩, 7)
  else if (s.size : Int) < plong s then (0, ⟨#[]⟩, 7)
  else if psize (pval (plong s) s) = plong s then (pval (plong s) s, s.extract (plong s).toNat s.size, 0)
  else (0, ⟨#[]⟩, 3)

theorem quic_get_round (k : Nat) (s : ByteArray) (x m i j : Int) (hj : j = i + 1) (h0 : 0 ≤ i) (h1 : i < m) (h2 : m ≤ s.size) (h3 : m ≤ 8) (hx : 0 ≤ x) (hx1 : x < 36028797018963968) :
    quic_Get.l0 (k + 1) s x m i = quic_Get.l0 k s (x * 256 + bt s i) m j := by
  subst hj
  have B := bt_range s i
  rw [quic_Get.l0, if_pos h1, if_pos h0, if_pos (by omega), w64 (n := x * 256) (by omega) (by omega), w64 (n := bt s i) (by omega) (by omega), w64 (n := i + 1) (by omega) (by omega), or_byte hx hx1 (by omega) (by omega)]
theorem quic_get_end (k : Nat) (s : ByteArray) (x m : Int) (h2 : m ≤ s.size) (h3 : 0 ≤ m) :
    quic_Get.l0 (k + 2) s x m m = some (if psize x = m then (x, s.extract m.toNat s.size, 0) else (0, ⟨#[]⟩, 3)) := by
  rw [quic_Get.l0, if_neg (by omega), quic_size_is, Option.bind_some]
  by_cases h : psize x = m
  · rw [if_pos h, if_pos h, if_pos h3, if_pos h2]
  · rw [if_neg h, if_neg h]

theorem quic_get_is (k : Nat) (s : ByteArray) : quic_Get.f (k + 12) s = some (getF s) := by
  unfold quic_Get.f getF
  by_cases hs : s.size = 0
  · rw [if_pos ((ba_nil s).2 hs), if_pos hs]
  · rw [if_neg (fun h => hs ((ba_nil s).1 h)), if_neg hs, if_pos (by omega), if_pos (plong_quic s).2, (plong_quic s).1]
    by_cases hl : (s.size : Int) < plong s
    · rw [if_pos hl, if_pos hl]
    · rw [if_neg hl, if_neg hl]
      have B := fun i => bt_range s i
      have b0 := B 0; have b1 := B 1; have b2 := B 2; have b3 := B 3; have b4 := B 4; have b5 := B 5; have b6 := B 6; have b7 := B 7
      rw [u8_and63 _ b0.1 (by omega), w64 (by omega) (by omega)]
      rcases plong_cases s with h | h | h | h
      · rw [h] at hl ⊢
        rw [quic_get_end _ _ _ _ (by omega) (by omega)]
        simp only [pval]
        rfl
      · rw [h] at hl ⊢
        rw [quic_get_round _ _ _ _ 1 2 rfl (by omega) (by omega) (by omega) (by omega) (by omega) (by omega), quic_get_end _ _ _ _ (by omega) (by omega)]
        simp only [pval]
        rfl
      · rw [h] at hl ⊢
        rw [quic_get_round _ _ _ _ 1 2 rfl (by omega) (by omega) (by omega) (by omega) (by omega) (by omega), quic_get_round _ _ _ _ 2 3 rfl (by omega) (by omega) (by omega) (by omega) (by omega) (by omega), quic_get_round _ _ _ _ 3 4 rfl (by omega) (by omega) (by omega) (by omega) (by omega) (by omega), quic_get_end _ _ _ _ (by omega) (by omega)]
        simp only [pval]
        rfl
      · rw [h] at hl ⊢
        rw [quic_get_round _ _ _ _ 1 2 rfl (by omega) (by omega) (by omega) (by omega) (by omega) (by omega), quic_get_round _ _ _ _ 2 3 rfl (by omega) (by omega) (by omega) (by omega) (by omega) (by omega), quic_get_round _ _ _ _ 3 4 rfl (by omega) (by omega) (by omega) (by omega) (by omega) (by omega), quic_get_round _ _ _ _ 4 5 rfl (by omega) (by omega) (by omega) (by omega) (by omega) (by omega), quic_get_round _ _ _ _ 5 6 rfl (by omega) (by omega) (by omega) (by omega) (by omega) (by omega), quic_get_round _ _ _ _ 6 7 rfl (by omega) (by omega) (by omega) (by omega) (by omega) (by omega), quic_get_round _ _ _ _ 7 8 rfl (by omega) (by omega) (by omega) (by omega) (by omega) (by omega), quic_get_end _ _ _ _ (by omega) (by omega)]
        simp only [pval]
        rfl


theorem pval_1 (s : ByteArray) : pval 1 s = bt s 0 % 64 := by simp [pval]
theorem pval_2 (s : ByteArray) : pval 2 s = bt s 0 % 64 * 256 + bt s 1 := by simp [pval]
theorem pval_4 (s : ByteArray) : pval 4 s = ((bt s 0 % 64 * 256 + bt s 1) * 256 + bt s 2) * 256 + bt s 3 := by simp [pval]
theorem pval_8 (s : ByteArray) : pval 8 s = ((((((bt s 0 % 64 * 256 + bt s 1) * 256 + bt s 2) * 256 + bt s 3) * 256 + bt s 4) * 256 + bt s 5) * 256 + bt s 6) * 256 + bt s 7 := by simp [pval]
theorem ref_get_round (k : Nat) (s : ByteArray) (x m i j : Int) (hj : j = i + 1) (h0 : 0 ≤ i) (h1 : i < m) (h2 : m ≤ s.size) (h3 : m ≤ 8) (hx : 0 ≤ x) (hx1 : x < 36028797018963968) :
    caduceusref01_Get.l1 (k + 1) s m x i = caduceusref01_Get.l1 k s m (x * 256 + bt s i) j := by
  subst hj
  have B := bt_range s i
  rw [caduceusref01_Get.l1, if_pos h1, if_pos h0, if_pos (by omega), w64 (n := 256 * x) (by omega) (by omega), w64 (n := bt s i) (by omega) (by omega), w64 (n := i + 1) (by omega) (by omega), w64 (by omega) (by omega), Int.mul_comm 256 x]
theorem ref_get_end (k : Nat) (s : ByteArray) (x m : Int) (h2 : m ≤ s.size) (h3 : 0 ≤ m) :
    caduceusref01_Get.l1 (k + 13) s m x m = some (if (pnum x).toList = (s.extract 0 m.toNat).toList then (x, ⟨#[]⟩, s.extract m.toNat s.size, 0) else (0, ⟨#[]⟩, ⟨#[]⟩, 3)) := by
  rw [caduceusref01_Get.l1, if_neg (by omega), ref_num_is k, Option.bind_some, if_pos h3, if_pos h2]
  split <;> rfl
theorem ref_get_at (k : Nat) (s : ByteArray) (h : 0 < s.size) : caduceusref01_Get.l0 (k + 5) s 1 0 = if (s.size : Int) < plong s then some (0, ⟨#[]⟩, ⟨#[]⟩, 7) else caduceusref01_Get.l1 (k + 4 - (bt s 0 / 64).toNat) s (plong s) (bt s 0 % 64) 1 := by
  have b0 := bt_range s 0
  have hm : wrap64 (Int.tmod (bt s 0) 64) = bt s 0 % 64 := by rw [Int.tmod_eq_emod_of_nonneg b0.1]; exact w64 (by omega) (by omega)
  have hd : Int.tdiv (bt s 0) 64 % 256 = bt s 0 / 64 := by rw [Int.tdiv_eq_ediv_of_nonneg b0.1]; omega
  have hs : 0 < (s.size : Int) := by omega
  have w1 : wrap64 (2 * 1) = 2 := w64 (by omega) (by omega)
  have w2 : wrap64 (2 * 2) = 4 := w64 (by omega) (by omega)
  have w3 : wrap64 (2 * 4) = 8 := w64 (by omega) (by omega)
  have v1 : wrap64 (0 + 1) = 1 := w64 (by omega) (by omega)
  have v2 : wrap64 (1 + 1) = 2 := w64 (by omega) (by omega)
  have v3 : wrap64 (2 + 1) = 3 := w64 (by omega) (by omega)
  unfold plong
  by_cases c0 : bt s 0 < 64
  · have e : bt s 0 / 64 = 0 := by omega
    rw [caduceusref01_Get.l0, if_pos hs, hm, hd, e, if_neg (by omega), if_pos c0]
    rfl
  · by_cases c1 : bt s 0 < 128
    · have e : bt s 0 / 64 = 1 := by omega
      rw [caduceusref01_Get.l0, if_pos hs, hm, hd, e, if_pos (by omega), w1, v1, caduceusref01_Get.l0, if_pos hs, hm, hd, e, if_neg (by omega), if_neg c0, if_pos c1]
      rfl
    · by_cases c2 : bt s 0 < 192
      · have e : bt s 0 / 64 = 2 := by omega
        rw [caduceusref01_Get.l0, if_pos hs, hm, hd, e, if_pos (by omega), w1, v1, caduceusref01_Get.l0, if_pos hs, hm, hd, e, if_pos (by omega), w2, v2, caduceusref01_Get.l0, if_pos hs, hm, hd, e, if_neg (by omega), if_neg c0, if_neg c1, if_pos c2]
        rfl
      · have e : bt s 0 / 64 = 3 := by omega
        rw [caduceusref01_Get.l0, if_pos hs, hm, hd, e, if_pos (by omega), w1, v1, caduceusref01_Get.l0, if_pos hs, hm, hd, e, if_pos (by omega), w2, v2, caduceusref01_Get.l0, if_pos hs, hm, hd, e, if_pos (by omega), w3, v3, caduceusref01_Get.l0, if_pos hs, hm, hd, e, if_neg (by omega), if_neg c0, if_neg c1, if_neg c2]
        rfl

theorem ref_get_is (k : Nat) (s : ByteArray) : caduceusref01_Get.f (k + 40) s = some ((getF s).1, ⟨#[]⟩, (getF s).2.1, (getF s).2.2) := by
  unfold caduceusref01_Get.f getF
  by_cases hs : s.size = 0
  · rw [if_pos ((ba_nil s).2 hs), if_pos hs]
  · rw [if_neg (fun h => hs ((ba_nil s).1 h)), if_neg hs, ref_get_at (k + 35) s (by omega)]
    by_cases hl : (s.size : Int) < plong s
    · rw [if_pos hl, if_pos hl]
    · rw [if_neg hl, if_neg hl]
      have B := fun i => bt_range s i
      have b0 := B 0; have b1 := B 1; have b2 := B 2; have b3 := B 3; have b4 := B 4; have b5 := B 5; have b6 := B 6; have b7 := B 7
      have hf := pval_fits s (by omega)
      obtain ⟨j, hj⟩ : ∃ j, k + 35 + 4 - (bt s 0 / 64).toNat = j + 1 + 1 + 1 + 1 + 1 + 1 + 1 + 13 := ⟨k + 35 + 4 - (bt s 0 / 64).toNat - 20, by omega⟩
      rw [hj]
      rcases plong_cases s with h | h | h | h
      · rw [h] at hl hf ⊢
        rw [ref_get_end _ _ _ _ (by omega) (by omega)]
        rw [← pval_1 s]
        by_cases hp : psize (pval 1 s) = 1
        · rw [if_pos (hf.1 hp), if_pos hp]
        · rw [if_neg (fun q => hp (hf.2 q)), if_neg hp]
      · rw [h] at hl hf ⊢
        rw [ref_get_round _ _ _ _ 1 2 rfl (by omega) (by omega) (by omega) (by omega) (by omega) (by omega), ref_get_end _ _ _ _ (by omega) (by omega)]
        rw [← pval_2 s]
        by_cases hp : psize (pval 2 s) = 2
        · rw [if_pos (hf.1 hp), if_pos hp]
        · rw [if_neg (fun q => hp (hf.2 q)), if_neg hp]
      · rw [h] at hl hf ⊢
        rw [ref_get_round _ _ _ _ 1 2 rfl (by omega) (by omega) (by omega) (by omega) (by omega) (by omega), ref_get_round _ _ _ _ 2 3 rfl (by omega) (by omega) (by omega) (by omega) (by omega) (by omega), ref_get_round _ _ _ _ 3 4 rfl (by omega) (by omega) (by omega) (by omega) (by omega) (by omega), ref_get_end _ _ _ _ (by omega) (by omega)]
        rw [← pval_4 s]
        by_cases hp : psize (pval 4 s) = 4
        · rw [if_pos (hf.1 hp), if_pos hp]
        · rw [if_neg (fun q => hp (hf.2 q)), if_neg hp]
      · rw [h] at hl hf ⊢
        rw [ref_get_round _ _ _ _ 1 2 rfl (by omega) (by omega) (by omega) (by omega) (by omega) (by omega), ref_get_round _ _ _ _ 2 3 rfl (by omega) (by omega) (by omega) (by omega) (by omega) (by omega), ref_get_round _ _ _ _ 3 4 rfl (by omega) (by omega) (by omega) (by omega) (by omega) (by omega), ref_get_round _ _ _ _ 4 5 rfl (by omega) (by omega) (by omega) (by omega) (by omega) (by omega), ref_get_round _ _ _ _ 5 6 rfl (by omega) (by omega) (by omega) (by omega) (by omega) (by omega), ref_get_round _ _ _ _ 6 7 rfl (by omega) (by omega) (by omega) (by omega) (by omega) (by omega), ref_get_round _ _ _ _ 7 8 rfl (by omega) (by omega) (by omega) (by omega) (by omega) (by omega), ref_get_end _ _ _ _ (by omega) (by omega)]
        rw [← pval_8 s]
        by_cases hp : psize (pval 8 s) = 8
        · rw [if_pos (hf.1 hp), if_pos hp]
        · rw [if_neg (fun q => hp (hf.2 q)), if_neg hp]

theorem awake_is (k : Nat) : caduceuslaw01_awake.f (k + 24) = some true := by
  unfold caduceuslaw01_awake.f
  rw [quic_get_is (k + 12), quic_num_is, quic_num_is, quic_num_is, quic_num_is]
  simp only [Option.bind_some]
  rw [if_pos (by decide +kernel), if_pos (by decide +kernel), if_pos (by decide +kernel), if_pos (by decide +kernel)]
  decide +kernel


theorem getF_range (s : ByteArray) : 0 ≤ (getF s).1 ∧ (getF s).1 ≤ 4611686018427387903 ∧ 0 ≤ (getF s).2.2 := by
  unfold getF
  split
  · simp
  · split
    · simp
    · split
      · rename_i h
        have h1 : 1 ≤ plong s := by rcases plong_cases s with h | h | h | h <;> omega
        rcases psize_cases (pval (plong s) s) with ⟨g, _⟩ | ⟨g, h0, h1⟩ | ⟨g, h0, h1⟩ | ⟨g, h0, h1⟩ | ⟨g, h0, h1⟩ <;> (refine ⟨?_, ?_, Int.le_refl _⟩ <;> simp only <;> omega)
      · simp

/-- A text at the front of bytes: the text, the rest, the error. -/
def textF (s : ByteArray) : ByteArray × ByteArray × Int :=
  if (getF s).2.2 = 0 then
    if (getF s).1 > 65536 then (⟨#[]⟩, ⟨#[]⟩, 2)
    else if (getF s).1 > ((getF s).2.1.size : Int) then (⟨#[]⟩, ⟨#[]⟩, 7)
    else ((getF s).2.1.extract 0 (getF s).1.toNat, (getF s).2.1.extract (getF s).1.toNat (getF s).2.1.size, 0)
  else (⟨#[]⟩, ⟨#[]⟩, (getF s).2.2)
/-- A flag at the front of bytes: the number, the rest, the error. -/
def flagF (s : ByteArray) : Int × ByteArray × Int :=
  if s.size = 0 then (0, ⟨#[]⟩, 7) else if bt s 0 > 1 then (0, ⟨#[]⟩, 3) else (bt s 0, s.extract 1 s.size, 0)
/-- A number as a whole number. -/
def unfoldF (n : Int) : Int := if n % 2 = 1 then -(n / 2) - 1 else n / 2
/-- An item of a kind at the front of bytes: its number, its text, the rest, the error. -/
def takeF (s : ByteArray) (kind : Int) : Int × ByteArray × ByteArray × Int :=
  if kind = 4 then (0, (textF s).1, (textF s).2.1, (textF s).2.2)
  else if kind = 3 then ((flagF s).1, ⟨#[]⟩, (flagF s).2.1, (flagF s).2.2)
  else if kind = 2 then (unfoldF (getF s).1, ⟨#[]⟩, (getF s).2.1, (getF s).2.2)
  else ((getF s).1, ⟨#[]⟩, (getF s).2.1, (getF s).2.2)

theorem getF_err (s : ByteArray) (h : (getF s).2.2 ≠ 0) : getF s = (0, ⟨#[]⟩, (getF s).2.2) := by
  unfold getF at h ⊢
  by_cases h1 : s.size = 0
  · rw [if_pos h1]
  · rw [if_neg h1] at h ⊢
    by_cases h2 : (s.size : Int) < plong s
    · rw [if_pos h2]
    · rw [if_neg h2] at h ⊢
      by_cases h3 : psize (pval (plong s) s) = plong s
      · rw [if_pos h3] at h; exact absurd rfl h
      · rw [if_neg h3]

theorem quic_text_is (k : Nat) (s : ByteArray) : quic_getText.f (k + 12) s = some (textF s) := by
  have r := getF_range s
  unfold quic_getText.f textF
  rw [quic_get_is, Option.bind_some]
  by_cases h : (getF s).2.2 = 0
  · rw [if_pos h, if_pos h]
    by_cases h1 : (getF s).1 > 65536
    · rw [if_pos h1, if_pos h1]
    · rw [if_neg h1, if_neg h1]
      by_cases h2 : (getF s).1 > ((getF s).2.1.size : Int)
      · rw [if_pos h2, if_pos h2]
      · rw [if_neg h2, if_neg h2, if_pos (by omega), if_pos (by omega)]
  · rw [if_neg h, if_neg h]

theorem ref_text_is (k : Nat) (s : ByteArray) : caduceusref01_Text.f (k + 40) s = some (0, textF s) := by
  have r := getF_range s
  unfold caduceusref01_Text.f textF
  rw [ref_get_is, Option.bind_some]
  by_cases h : (getF s).2.2 = 0
  · simp only [h, if_true]
    by_cases h1 : (getF s).1 > 65536
    · rw [if_pos h1, if_pos h1]
    · rw [if_neg h1, if_neg h1]
      by_cases h2 : (getF s).1 > ((getF s).2.1.size : Int)
      · rw [if_pos h2, if_pos h2]
      · rw [if_neg h2, if_neg h2, if_pos (by omega), if_pos (by omega)]
  · simp only [h, if_false]
    have e := getF_err s h
    rw [e]

theorem quic_flag_is (s : ByteArray) : quic_getFlag.f s = some (flagF s) := by
  unfold quic_getFlag.f flagF
  by_cases hs : s.size = 0
  · rw [if_pos ((ba_nil s).2 hs), if_pos hs]
  · rw [if_neg (fun h => hs ((ba_nil s).1 h)), if_neg hs, if_pos (by omega)]
    have b := bt_range s 0
    by_cases h : bt s 0 > 1
    · rw [if_pos h, if_pos h]
    · rw [if_neg h, if_neg h, if_pos (by omega), w64 (by omega) (by omega)]

theorem quic_unfold_is (n : Int) (h0 : 0 ≤ n) (h1 : n ≤ 4611686018427387903) : quic_unfold.f n = some (unfoldF n) := by
  unfold quic_unfold.f unfoldF
  have e : Go.bits .and .i64 n 1 = n % 2 := bits_mask .i64 63 (by decide) wraps_i64 1 (by decide) n h0 (by omega)
  rw [e]
  by_cases h : n % 2 = 1
  · rw [if_pos h, if_pos h, w64 (n := -(n / 2)) (by omega) (by omega), w64 (by omega) (by omega)]
  · rw [if_neg h, if_neg h]

theorem quic_take_is (k : Nat) (s : ByteArray) (kind : Int) : quic_take.f (k + 12) s kind = some (kind, takeF s kind) := by
  have r := getF_range s
  unfold quic_take.f takeF
  by_cases h4 : kind = 4
  · rw [if_pos h4, if_pos h4, quic_text_is, Option.bind_some]
  · rw [if_neg h4, if_neg h4]
    by_cases h3 : kind = 3
    · rw [if_pos h3, if_pos h3, quic_flag_is, Option.bind_some]
    · rw [if_neg h3, if_neg h3]
      by_cases h2 : kind = 2
      · rw [if_pos h2, if_pos h2, quic_get_is, Option.bind_some, quic_unfold_is _ r.1 r.2.1, Option.bind_some]
      · rw [if_neg h2, if_neg h2, quic_get_is, Option.bind_some]

theorem ref_take_is (k : Nat) (s : ByteArray) (kind : Int) : caduceusref01_take.f (k + 41) s kind = some (takeF s kind) := by
  have r := getF_range s
  unfold caduceusref01_take.f takeF
  by_cases h4 : kind = 4
  · rw [if_pos h4, if_pos h4, ref_text_is, Option.bind_some]
  · rw [if_neg h4, if_neg h4]
    by_cases h3 : kind = 3
    · rw [if_pos h3, if_pos h3]
      unfold flagF
      by_cases hs : s.size = 0
      · rw [if_pos ((ba_nil s).2 hs), if_pos hs]
      · rw [if_neg (fun h => hs ((ba_nil s).1 h)), if_neg hs, if_pos (by omega)]
        have b := bt_range s 0
        by_cases h : bt s 0 > 1
        · rw [if_pos h, if_pos h]
        · rw [if_neg h, if_neg h, if_pos (by omega), w64 (by omega) (by omega)]
    · rw [if_neg h3, if_neg h3, ref_get_is, Option.bind_some, caduceusref01_take.j0, caduceusref01_take.j0]
      by_cases h2 : kind = 2
      · rw [if_pos h2, if_pos h2, if_pos h2]
        simp only [Int.tmod_eq_emod_of_nonneg r.1, Int.tdiv_eq_ediv_of_nonneg r.1]
        unfold unfoldF
        by_cases h : (getF s).1 % 2 = 1
        · rw [if_pos h, if_pos (by simpa using h), w64 (n := (getF s).1 / 2) (by omega) (by omega), w64 (n := -((getF s).1 / 2)) (by omega) (by omega), w64 (by omega) (by omega)]
        · rw [if_neg h, if_neg (by simpa using h), w64 (by omega) (by omega)]
      · rw [if_neg h2, if_neg h2, if_neg (by simp), if_neg h2]

/-- Items of kinds, one behind the other. -/
def takeL : List Int → ByteArray → List (Int × Int × ByteArray) → List (Int × Int × ByteArray) × ByteArray × Int
  | [], s, acc => (acc, s, 0)
  | k :: ks, s, acc => if (takeF s k).2.2.2 = 0 then takeL ks (takeF s k).2.2.1 (acc ++ [(k, (takeF s k).1, (takeF s k).2.1)]) else ([], ⟨#[]⟩, (takeF s k).2.2.2)
def okKinds (ks : List Int) : Bool := ks.all fun k => decide (1 ≤ k) && decide (k ≤ 4)
def takesF (s : ByteArray) (ks : List Int) : List (Int × Int × ByteArray) × ByteArray × Int :=
  if ks.length > 4096 then ([], ⟨#[]⟩, 2) else if okKinds ks then takeL ks s [] else ([], ⟨#[]⟩, 1)
def qi (x : Int × Int × ByteArray) : S62 := ⟨x.1, x.2.1, x.2.2⟩
def ri (x : Int × Int × ByteArray) : S79 := ⟨x.1, x.2.1, x.2.2⟩

theorem rd_drop {l : List Int} {i : Nat} {k : Int} {ks : List Int} (h : l.drop i = k :: ks) : rd l (i : Int) = k ∧ i < l.length ∧ l.drop (i + 1) = ks := by
  have hi : i < l.length := by
    rcases Nat.lt_or_ge i l.length with g | g
    · exact g
    · rw [List.drop_eq_nil_of_le g] at h; cases h
  rw [List.drop_eq_getElem_cons hi] at h
  injection h with h1 h2
  refine ⟨?_, hi, h2⟩
  unfold rd
  rw [Int.toNat_natCast, List.getD_eq_getElem?_getD, List.getElem?_eq_getElem hi]
  exact h1

theorem quic_Take_l1 (l : List Int) (hl : l.length ≤ 4096) : ∀ (ks : List Int) (i : Nat) (s : ByteArray) (acc : List (Int × Int × ByteArray)) (k : Nat), l.drop i = ks → acc.length = i → ks.length + 20 ≤ k →
    quic_Take.l1 k s (acc.map qi) l (l.length : Int) (i : Int) = some ((takeL ks s acc).1.map qi, (takeL ks s acc).2) := by
  intro ks
  induction ks with
  | nil =>
    intro i s acc k h ha hk
    obtain ⟨k, rfl⟩ : ∃ m, k = m + 1 := ⟨k - 1, by omega⟩
    have : l.length ≤ i := List.drop_eq_nil_iff.1 h
    rw [quic_Take.l1, if_neg (by omega)]
    rfl
  | cons c ks ih =>
    intro i s acc k h ha hk
    simp only [List.length_cons] at hk
    obtain ⟨k, rfl⟩ : ∃ m, k = m + 12 + 1 := ⟨k - 13, by omega⟩
    obtain ⟨hr, hi, hd⟩ := rd_drop h
    rw [quic_Take.l1, if_pos (by omega), if_pos (by omega), if_pos (by omega), hr, quic_take_is, Option.bind_some]
    simp only [takeL]
    by_cases e : (takeF s c).2.2.2 = 0
    · rw [if_pos e, if_pos e, if_pos (by rw [List.length_map]; omega), w64 (by omega) (by omega)]
      have := ih (i + 1) (takeF s c).2.2.1 (acc ++ [(c, (takeF s c).1, (takeF s c).2.1)]) (k + 12) hd (by simp [ha]) (by omega)
      rw [List.map_append] at this
      exact this
    · rw [if_neg e, if_neg e]
      rfl

theorem quic_Take_l0 (s : ByteArray) (l : List Int) (acc : List S62) (hl : l.length ≤ 4096) : ∀ (ks : List Int) (i : Nat) (k : Nat), l.drop i = ks → ks.length + 1 ≤ k →
    ∃ k', k ≤ k' + ks.length + 1 ∧ quic_Take.l0 k s l acc l (l.length : Int) (i : Int) = if okKinds ks then quic_Take.l1 k' s acc l (l.length : Int) 0 else some ([], ⟨#[]⟩, 1) := by
  intro ks
  induction ks with
  | nil =>
    intro i k h hk
    obtain ⟨k, rfl⟩ : ∃ m, k = m + 1 := ⟨k - 1, by omega⟩
    have : l.length ≤ i := List.drop_eq_nil_iff.1 h
    exact ⟨k, by simp, by rw [quic_Take.l0, if_neg (by omega)]; simp [okKinds]⟩
  | cons c ks ih =>
    intro i k h hk
    simp only [List.length_cons] at hk
    obtain ⟨k, rfl⟩ : ∃ m, k = m + 1 := ⟨k - 1, by omega⟩
    obtain ⟨hr, hi, hd⟩ := rd_drop h
    rw [quic_Take.l0, if_pos (by omega), if_pos (by omega), if_pos (by omega), hr]
    obtain ⟨k', h1, h2⟩ := ih (i + 1) k hd (by omega)
    refine ⟨k', by simp only [List.length_cons]; omega, ?_⟩
    by_cases c1 : c < 1
    · rw [if_pos c1, if_neg (by simp [okKinds]; omega)]
    · rw [if_neg c1]
      by_cases c4 : c > 4
      · rw [if_pos c4, if_neg (by simp [okKinds]; omega)]
      · rw [if_neg c4, w64 (by omega) (by omega)]
        have e : okKinds (c :: ks) = okKinds ks := by simp [okKinds]; intro _; omega
        rw [e]
        exact h2

theorem quic_Take_is (s : ByteArray) (l : List Int) (k : Nat) (hk : 2 * l.length + 40 ≤ k) : quic_Take.f k s l = some ((takesF s l).1.map qi, (takesF s l).2) := by
  unfold quic_Take.f takesF
  by_cases h : (l.length : Int) > 4096
  · rw [if_pos h, if_pos (by omega)]; rfl
  · rw [if_neg h, if_neg (by omega)]
    obtain ⟨k', h1, h2⟩ := quic_Take_l0 s l [] (by omega) l 0 k rfl (by omega)
    have h2' : quic_Take.l0 k s l [] l (l.length : Int) 0 = _ := h2
    rw [h2']
    by_cases ho : okKinds l = true
    · rw [if_pos ho, if_pos ho]
      exact quic_Take_l1 l (by omega) l 0 s [] k' rfl rfl (by omega)
    · rw [if_neg ho, if_neg ho]; rfl

theorem ref_Take_l1 (l : List Int) (hl : l.length ≤ 4096) : ∀ (ks : List Int) (i : Nat) (s : ByteArray) (acc : List (Int × Int × ByteArray)) (k : Nat), l.drop i = ks → acc.length = i → ks.length + 50 ≤ k →
    caduceusref01_Take.l1 k l (i : Int) (acc.map ri) s 0 = some ((takeL ks s acc).1.map ri, (takeL ks s acc).2) := by
  intro ks
  induction ks with
  | nil =>
    intro i s acc k h ha hk
    obtain ⟨k, rfl⟩ : ∃ m, k = m + 1 := ⟨k - 1, by omega⟩
    have : l.length ≤ i := List.drop_eq_nil_iff.1 h
    rw [caduceusref01_Take.l1, if_neg (by omega)]
    rfl
  | cons c ks ih =>
    intro i s acc k h ha hk
    simp only [List.length_cons] at hk
    obtain ⟨k, rfl⟩ : ∃ m, k = m + 41 + 1 := ⟨k - 42, by omega⟩
    obtain ⟨hr, hi, hd⟩ := rd_drop h
    rw [caduceusref01_Take.l1, if_pos (by omega), if_pos (by omega), hr, ref_take_is, Option.bind_some]
    simp only [takeL]
    by_cases e : (takeF s c).2.2.2 = 0
    · rw [if_pos e, if_pos e, if_pos (by rw [List.length_map]; omega), w64 (by omega) (by omega)]
      have := ih (i + 1) (takeF s c).2.2.1 (acc ++ [(c, (takeF s c).1, (takeF s c).2.1)]) (k + 41) hd (by simp [ha]) (by omega)
      rw [List.map_append] at this
      exact this
    · rw [if_neg e, if_neg e]
      rfl

theorem ref_Take_l0 (s : ByteArray) (l : List Int) (hl : l.length ≤ 4096) : ∀ (ks : List Int) (i : Nat) (k : Nat), l.drop i = ks → ks.length + 1 ≤ k →
    ∃ k', k ≤ k' + ks.length + 1 ∧ caduceusref01_Take.l0 k s l (i : Int) = if okKinds ks then caduceusref01_Take.l1 k' l 0 [] s 0 else some ([], ⟨#[]⟩, 1) := by
  intro ks
  induction ks with
  | nil =>
    intro i k h hk
    obtain ⟨k, rfl⟩ : ∃ m, k = m + 1 := ⟨k - 1, by omega⟩
    have : l.length ≤ i := List.drop_eq_nil_iff.1 h
    exact ⟨k, by simp, by rw [caduceusref01_Take.l0, if_neg (by omega)]; simp [okKinds]⟩
  | cons c ks ih =>
    intro i k h hk
    simp only [List.length_cons] at hk
    obtain ⟨k, rfl⟩ : ∃ m, k = m + 1 := ⟨k - 1, by omega⟩
    obtain ⟨hr, hi, hd⟩ := rd_drop h
    rw [caduceusref01_Take.l0, if_pos (by omega), if_pos (by omega), hr]
    obtain ⟨k', h1, h2⟩ := ih (i + 1) k hd (by omega)
    refine ⟨k', by simp only [List.length_cons]; omega, ?_⟩
    by_cases c1 : c < 1
    · rw [if_pos c1, if_neg (by simp [okKinds]; omega)]
    · rw [if_neg c1]
      by_cases c4 : c > 4
      · rw [if_pos c4, if_neg (by simp [okKinds]; omega)]
      · rw [if_neg c4, w64 (by omega) (by omega)]
        have e : okKinds (c :: ks) = okKinds ks := by simp [okKinds]; intro _; omega
        rw [e]
        exact h2

theorem ref_Take_is (s : ByteArray) (l : List Int) (k : Nat) (hk : 2 * l.length + 60 ≤ k) : caduceusref01_Take.f k s l = some ((takesF s l).1.map ri, (takesF s l).2) := by
  unfold caduceusref01_Take.f takesF
  by_cases h : (l.length : Int) > 4096
  · rw [if_pos h, if_pos (by omega)]; rfl
  · rw [if_neg h, if_neg (by omega)]
    obtain ⟨k', h1, h2⟩ := ref_Take_l0 s l (by omega) l 0 k rfl (by omega)
    have h2' : caduceusref01_Take.l0 k s l 0 = _ := h2
    rw [h2']
    by_cases ho : okKinds l = true
    · rw [if_pos ho, if_pos ho]
      exact ref_Take_l1 l (by omega) l 0 s [] k' rfl rfl (by omega)
    · rw [if_neg ho, if_neg ho]; rfl

theorem takeL_len : ∀ (ks : List Int) (s : ByteArray) (acc : List (Int × Int × ByteArray)), (takeL ks s acc).1.length ≤ acc.length + ks.length
  | [], s, acc => by simp [takeL]
  | c :: ks, s, acc => by
    simp only [takeL]
    split
    · have := takeL_len ks (takeF s c).2.2.1 (acc ++ [(c, (takeF s c).1, (takeF s c).2.1)])
      simp only [List.length_append, List.length_cons, List.length_nil] at this ⊢
      omega
    · simp
theorem takesF_len (s : ByteArray) (l : List Int) : (takesF s l).1.length ≤ 4096 := by
  unfold takesF
  split
  · simp
  · split
    · have := takeL_len l s []
      simp only [List.length_nil] at this
      omega
    · simp

theorem refs_l0 (l : List (Int × Int × ByteArray)) (hl : l.length ≤ 4398046511104) : ∀ (d i k : Nat), i + d = l.length → d < k →
    caduceuslaw01_refs.l0 k (l.map qi) ((l.take i).map ri) (i : Int) = some (l.map ri) := by
  intro d
  induction d with
  | zero =>
    intro i k h hk
    obtain ⟨k, rfl⟩ : ∃ m, k = m + 1 := ⟨k - 1, by omega⟩
    rw [caduceuslaw01_refs.l0, if_neg (by rw [List.length_map]; omega), List.take_of_length_le (by omega)]
  | succ d ih =>
    intro i k h hk
    obtain ⟨k, rfl⟩ : ∃ m, k = m + 1 := ⟨k - 1, by omega⟩
    have hi : i < l.length := by omega
    rw [caduceuslaw01_refs.l0, if_pos (by rw [List.length_map]; omega), if_pos (by omega), if_pos (by rw [List.length_map, List.length_take]; omega), w64 (by omega) (by omega)]
    have := ih (i + 1) k (by omega) (by omega)
    rw [List.take_succ_eq_append_getElem hi, List.map_append] at this
    have e : rd_T62 (l.map qi) (i : Int) = qi l[i] := by
      unfold rd_T62
      rw [Int.toNat_natCast, List.getD_eq_getElem?_getD, List.getElem?_map, List.getElem?_eq_getElem hi]
      rfl
    rw [e]
    exact this
theorem refs_is (l : List (Int × Int × ByteArray)) (hl : l.length ≤ 4398046511104) (k : Nat) (hk : l.length < k) : caduceuslaw01_refs.f k (l.map qi) = some (l.map ri) := by
  unfold caduceuslaw01_refs.f
  exact refs_l0 l hl l.length 0 k (by omega) hk

theorem same_l0 (l : List S79) (hl : l.length ≤ 4398046511104) : ∀ (d i k : Nat), i + d = l.length → d < k → caduceusref01_Same.l0 k l l (i : Int) = some true := by
  intro d
  induction d with
  | zero =>
    intro i k h hk
    obtain ⟨k, rfl⟩ : ∃ m, k = m + 1 := ⟨k - 1, by omega⟩
    rw [caduceusref01_Same.l0, if_neg (by omega)]
  | succ d ih =>
    intro i k h hk
    obtain ⟨k, rfl⟩ : ∃ m, k = m + 1 := ⟨k - 1, by omega⟩
    rw [caduceusref01_Same.l0, if_pos (by omega), if_pos (by omega), if_pos (by omega), if_neg (by simp), w64 (by omega) (by omega)]
    exact ih (i + 1) k (by omega) (by omega)
theorem same_is (l : List S79) (hl : l.length ≤ 4398046511104) (k : Nat) (hk : l.length < k) : caduceusref01_Same.f k l l = some true := by
  unfold caduceusref01_Same.f
  rw [if_pos rfl]
  exact same_l0 l hl l.length 0 k (by omega) hk

theorem quic_Row_is (s : ByteArray) (l : List Int) (k : Nat) (hk : 2 * l.length + 40 ≤ k) : quic_Row.f k s l = some (if (takesF s l).2.2 = 0 then (if (takesF s l).2.1.size = 0 then ((takesF s l).1.map qi, 0) else ([], 2)) else ([], (takesF s l).2.2)) := by
  unfold quic_Row.f
  rw [quic_Take_is s l k hk, Option.bind_some]
  by_cases h : (takesF s l).2.2 = 0
  · rw [if_pos h, if_pos h]
    by_cases h1 : (takesF s l).2.1.size = 0
    · rw [if_pos ((ba_nil _).2 h1), if_pos h1]
    · rw [if_neg (fun q => h1 ((ba_nil _).1 q)), if_neg h1]
  · rw [if_neg h, if_neg h]

end QuicTakesC
open QuicTakesC

theorem takeL_err : ∀ (ks : List Int) (s : ByteArray) (acc : List (Int × Int × ByteArray)), (takeL ks s acc).2.2 ≠ 0 → (takeL ks s acc).1 = [] ∧ (takeL ks s acc).2.1 = ⟨#[]⟩
  | [], s, acc, h => by simp [takeL] at h
  | c :: ks, s, acc, h => by
    simp only [takeL] at h ⊢
    split
    · rename_i g
      rw [if_pos g] at h
      exact takeL_err ks _ _ h
    · exact ⟨rfl, rfl⟩
theorem takesF_err (s : ByteArray) (l : List Int) (h : (takesF s l).2.2 ≠ 0) : (takesF s l).1 = [] := by
  unfold takesF at h ⊢
  split
  · rfl
  · rename_i g
    rw [if_neg g] at h
    split
    · rename_i g2
      rw [if_pos g2] at h
      exact (takeL_err l s [] h).1
    · rfl

theorem QuicTakes : caduceuslaw01_QuicTakes.Pure := by
  intro s l hs hl hl8 hwf
  unfold caduceuslaw01_QuicTakes.f
  have aw := fun k (h : 24 ≤ k) => (by obtain ⟨m, rfl⟩ : ∃ m, k = m + 24 := ⟨k - 24, by omega⟩; exact awake_is m : caduceuslaw01_awake.f k = some true)
  by_cases h1 : (l.length : Int) > 4096
  · refine ⟨2 * l.length + 40, ?_⟩
    rw [if_pos h1, quic_Take_is s l _ (by omega), aw _ (by omega)]
    have e : takesF s l = ([], ⟨#[]⟩, 2) := by unfold takesF; rw [if_pos (by omega)]
    rw [e]; rfl
  · refine ⟨2 * l.length + 5000, ?_⟩
    rw [if_neg h1]
    by_cases h2 : (s.size : Int) > 20000
    · rw [if_pos h2, caduceuslaw01_QuicTakes.j0, if_pos rfl, aw _ (by omega)]; rfl
    · rw [if_neg h2]
      by_cases h3 : (l.length : Int) > 200
      · rw [caduceuslaw01_QuicTakes.j0, if_pos (by simpa using h3), aw _ (by omega)]; rfl
      · rw [caduceuslaw01_QuicTakes.j0, if_neg (by simpa using h3), quic_Take_is s l _ (by omega), ref_Take_is s l _ (by omega)]
        have hlen := takesF_len s l
        simp only [Option.bind_some]
        rw [refs_is _ (by omega) _ (by omega)]
        simp only [Option.bind_some]
        rw [same_is _ (by rw [List.length_map]; omega) _ (by rw [List.length_map]; omega)]
        simp only [Option.bind_some, if_true, bne_self_eq_false]
        rw [caduceuslaw01_QuicTakes.j1, if_neg (by simp), quic_Row_is s l _ (by omega)]
        simp only [Option.bind_some]
        by_cases he : (takesF s l).2.2 = 0
        · rw [if_pos he, if_pos he]
          by_cases hr : (takesF s l).2.1.size = 0
          · rw [if_pos hr]
            have e : ((takesF s l).2.1.toList != ([] : List UInt8)) = false := by rw [bne_eq_false_iff_eq]; exact (ba_nil _).2 hr
            rw [e, caduceuslaw01_QuicTakes.j2, if_neg (by simp), aw _ (by omega)]
            simp only [Option.bind_some, if_true]
            rw [if_pos he.symm, refs_is _ (by omega) _ (by omega)]
            simp only [Option.bind_some]
            rw [same_is _ (by rw [List.length_map]; omega) _ (by rw [List.length_map]; omega)]
            rfl
          · rw [if_neg hr]
            have e : ((takesF s l).2.1.toList != ([] : List UInt8)) = true := by rw [bne_iff_ne]; intro q; exact hr ((ba_nil _).1 q)
            rw [e, caduceuslaw01_QuicTakes.j2, if_pos rfl, aw _ (by omega)]
            rfl
        · rw [if_neg he, if_neg he, caduceuslaw01_QuicTakes.j2, if_neg (by simp), aw _ (by omega)]
          simp only [Option.bind_some, if_true]
          have h0 := refs_is [] (by simp) (2 * l.length + 4997) (by simp only [List.length_nil]; omega)
          have h0' : caduceuslaw01_refs.f (2 * l.length + 4997) [] = some [] := h0
          rw [h0', takesF_err s l he]
          simp only [Option.bind_some]
          have s0 := same_is [] (by simp) (2 * l.length + 4997) (by simp only [List.length_nil]; omega)
          show (caduceusref01_Same.f (2 * l.length + 4997) [] []).bind _ = _
          rw [s0]; rfl

end Go.Proofs.Ytbjokknoladmpaa.Pure
