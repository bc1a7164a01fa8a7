/- For all whole numbers a, b of 64 bits: of two numbers that may be the lesser has no more bytes, and of those with as many stands ahead byte by byte. No condition. -/
import Derived.Test.YtbjokknoladmpaaPQuicRisesx2
import Derived.Test.YtbjokknoladmpaaQB
namespace Go.Proofs.Ytbjokknoladmpaa.Pure
open Go.RowKit Go.Proofs.Ytbjokknoladmpaa.PQuicRises Go.Proofs.YtbjokknoladmpaaW.PrintWords Go.Proofs.YtbjokknoladmpaaW.PrintLast Go.Proofs.YtbjokknoladmpaaW.PrintMore Go.Proofs.Ytbjokknoladmpaa.QB
set_option linter.unusedSimpArgs false
set_option linter.unusedVariables false

namespace QuicRisesC
theorem quic_size_is (n : Int) : quic_Size.f n = some (psize n) := by
  unfold quic_Size.f psize
  repeat' split
  all_goals first | rfl | (exfalso; omega)

theorem ref_size_is (k : Nat) (n : Int) : caduceusref01_Size.f (k + 1) n = some (psize n) := by
  unfold caduceusref01_Size.f psize
  rw [caduceusref01_Size.j0, caduceusref01_Size.j0]
  simp only [decide_eq_true_eq]
  repeat' split
  all_goals first | rfl | (exfalso; first | omega | simp_all)

theorem class_is (k : Nat) : quic_class.f (k + 12) 1 = some 0 ∧ quic_class.f (k + 12) 2 = some 1 ∧ quic_class.f (k + 12) 4 = some 2 ∧ quic_class.f (k + 12) 8 = some 3 := by
  refine ⟨?_, ?_, ?_, ?_⟩ <;> simp [quic_class.f, quic_class.l0, wrap64]

theorem quic_num_is (k : Nat) (n : Int) : quic_Num.f (k + 24) n = some (pnum n) := by
  unfold quic_Num.f pnum pnums
  rw [quic_size_is, Option.bind_some]
  rcases psize_cases n with ⟨h, h'⟩ | ⟨h, h0, h1⟩ | ⟨h, h0, h1⟩ | ⟨h, h0, h1⟩ | ⟨h, h0, h1⟩
  · rw [h]
    simp [strOfNums]
  · rw [h]
    simp [quic_Num.l0, wrap64, shr_i_0, shr_i_8, shr_i_16, shr_i_24, shr_i_32, shr_i_40, shr_i_48, shr_i_56, rd, class_is]
    rw [(u8_or_top (by omega) (by omega)).1]
    congr 1
    simp only [List.cons.injEq, and_true]
    omega
  · rw [h]
    simp [quic_Num.l0, wrap64, shr_i_0, shr_i_8, shr_i_16, shr_i_24, shr_i_32, shr_i_40, shr_i_48, shr_i_56, rd, class_is]
    rw [(u8_or_top (by omega) (by omega)).2.1]
    congr 1
    simp only [List.cons.injEq, and_true]
    omega
  · rw [h]
    simp [quic_Num.l0, wrap64, shr_i_0, shr_i_8, shr_i_16, shr_i_24, shr_i_32, shr_i_40, shr_i_48, shr_i_56, rd, class_is]
    rw [(u8_or_top (by omega) (by omega)).2.2.1]
    congr 1
    simp only [List.cons.injEq, and_true]
    omega
  · rw [h]
    simp [quic_Num.l0, wrap64, shr_i_0, shr_i_8, shr_i_16, shr_i_24, shr_i_32, shr_i_40, shr_i_48, shr_i_56, rd, class_is]
    rw [(u8_or_top (by omega) (by omega)).2.2.2]
    congr 1
    simp only [List.cons.injEq, and_true]
    omega

theorem plong_quic (s : ByteArray) : shl .i64 1 (bt s 0 / 64) = plong s ∧ 0 ≤ bt s 0 / 64 := by
  have B := bt_range s 0
  unfold plong
  refine ⟨?_, by omega⟩
  by_cases c0 : bt s 0 < 64
  · rw [if_pos c0, show bt s 0 / 64 = 0 by omega]; exact shl_1.1
  · by_cases c1 : bt s 0 < 128
    · rw [if_neg c0, if_pos c1, show bt s 0 / 64 = 1 by omega]; exact shl_1.2.1
    · by_cases c2 : bt s 0 < 192
      · rw [if_neg c0, if_neg c1, if_pos c2, show bt s 0 / 64 = 2 by omega]; exact shl_1.2.2.1
      · rw [if_neg c0, if_neg c1, if_neg c2, show bt s 0 / 64 = 3 by omega]; exact shl_1.2.2.2
theorem plong_cases (s : ByteArray) : plong s = 1 ∨ plong s = 2 ∨ plong s = 4 ∨ plong s = 8 := by
  unfold plong; (repeat' split) <;> simp

def getF (s : ByteArray) : Int × ByteArray × Int :=
  if s.size = 0 then (0, ⟨#[]⟩, 7)
  else if (s.size : Int) < plong s then (0, ⟨#[]⟩, 7)
  else if psize (pval (plong s) s) = plong s then (pval (plong s) s, s.extract (plong s).toNat s.size, 0)
  else (0, ⟨#[]⟩, 3)

theorem quic_get_round (k : Nat) (s : ByteArray) (x m i j : Int) (hj : j = i + 1) (h0 : 0 ≤ i) (h1 : i < m) (h2 : m ≤ s.size) (h3 : m ≤ 8) (hx : 0 ≤ x) (hx1 : x < 36028797018963968) :
    quic_Get.l0 (k + 1) s x m i = quic_Get.l0 k s (x * 256 + bt s i) m j := by
  subst hj
  have B := bt_range s i
  rw [quic_Get.l0, if_pos h1, if_pos h0, if_pos (by omega), w64 (n := x * 256) (by omega) (by omega), w64 (n := bt s i) (by omega) (by omega), w64 (n := i + 1) (by omega) (by omega), or_byte hx hx1 (by omega) (by omega)]
theorem quic_get_end (k : Nat) (s : ByteArray) (x m : Int) (h2 : m ≤ s.size) (h3 : 0 ≤ m) :
    quic_Get.l0 (k + 2) s x m m = some (if psize x = m then (x, s.extract m.toNat s.size, 0) else (0, ⟨#[]⟩, 3)) := by
  rw [quic_Get.l0, if_neg (by omega), quic_size_is, Option.bind_some]
  by_cases h : psize x = m
  · rw [if_pos h, if_pos h, if_pos h3, if_pos h2]
  · rw [if_neg h, if_neg h]

theorem quic_get_is (k : Nat) (s : ByteArray) : quic_Get.f (k + 12) s = some (getF s) := by
  unfold quic_Get.f getF
  by_cases hs : s.size = 0
  · rw [if_pos ((ba_nil s).2 hs), if_pos hs]
  · rw [if_neg (fun h => hs ((ba_nil s).1 h)), if_neg hs, if_pos (by omega), if_pos (plong_quic s).2, (plong_quic s).1]
    by_cases hl : (s.size : Int) < plong s
    · rw [if_pos hl, if_pos hl]
    · rw [if_neg hl, if_neg hl]
      have B := fun i => bt_range s i
      have b0 := B 0; have b1 := B 1; have b2 := B 2; have b3 := B 3; have b4 := B 4; have b5 := B 5; have b6 := B 6; have b7 := B 7
      rw [u8_and63 _ b0.1 (by omega), w64 (by omega) (by omega)]
      rcases plong_cases s with h | h | h | h
      · rw [h] at hl ⊢
        rw [quic_get_end _ _ _ _ (by omega) (by omega)]
        simp only [pval]
        rfl
      · rw [h] at hl ⊢
        rw [quic_get_round _ _ _ _ 1 2 rfl (by omega) (by omega) (by omega) (by omega) (by omega) (by omega), quic_get_end _ _ _ _ (by omega) (by omega)]
        simp only [pval]
        rfl
      · rw [h] at hl ⊢
        rw [quic_get_round _ _ _ _ 1 2 rfl (by omega) (by omega) (by omega) (by omega) (by omega) (by omega), quic_get_round _ _ _ _ 2 3 rfl (by omega) (by omega) (by omega) (by omega) (by omega) (by omega), quic_get_round _ _ _ _ 3 4 rfl (by omega) (by omega) (by omega) (by omega) (by omega) (by omega), quic_get_end _ _ _ _ (by omega) (by omega)]
        simp only [pval]
        rfl
      · rw [h] at hl ⊢
        rw [quic_get_round _ _ _ _ 1 2 rfl (by omega) (by omega) (by omega) (by omega) (by omega) (by omega), quic_get_round _ _ _ _ 2 3 rfl (by omega) (by omega) (by omega) (by omega) (by omega) (by omega), quic_get_round _ _ _ _ 3 4 rfl (by omega) (by omega) (by omega) (by omega) (by omega) (by omega), quic_get_round _ _ _ _ 4 5 rfl (by omega) (by omega) (by omega) (by omega) (by omega) (by omega), quic_get_round _ _ _ _ 5 6 rfl (by omega) (by omega) (by omega) (by omega) (by omega) (by omega), quic_get_round _ _ _ _ 6 7 rfl (by omega) (by omega) (by omega) (by omega) (by omega) (by omega), quic_get_round _ _ _ _ 7 8 rfl (by omega) (by omega) (by omega) (by omega) (by omega) (by omega), quic_get_end _ _ _ _ (by omega) (by omega)]
        simp only [pval]
        rfl


theorem pval_1 (s : ByteArray) : pval 1 s = bt s 0 % 64 := by simp [pval]
theorem pval_2 (s : ByteArray) : pval 2 s = bt s 0 % 64 * 256 + bt s 1 := by simp [pval]
theorem pval_4 (s : ByteArray) : pval 4 s = ((bt s 0 % 64 * 256 + bt s 1) * 256 + bt s 2) * 256 + bt s 3 := by simp [pval]
theorem pval_8 (s : ByteArray) : pval 8 s = ((((((bt s 0 % 64 * 256 + bt s 1) * 256 + bt s 2) * 256 + bt s 3) * 256 + bt s 4) * 256 + bt s 5) * 256 + bt s 6) * 256 + bt s 7 := by simp [pval]
theorem awake_is (k : Nat) : caduceuslaw01_awake.f (k + 24) = some true := by
  unfold caduceuslaw01_awake.f
  rw [quic_get_is (k + 12), quic_num_is, quic_num_is, quic_num_is, quic_num_is]
  simp only [Option.bind_some]
  rw [if_pos (by decide +kernel), if_pos (by decide +kernel), if_pos (by decide +kernel), if_pos (by decide +kernel)]
  decide +kernel


theorem getF_range (s : ByteArray) : 0 ≤ (getF s).1 ∧ (getF s).1 ≤ 4611686018427387903 ∧ 0 ≤ (getF s).2.2 := by
  unfold getF
  split
  · simp
  · split
    · simp
    · split
      · rename_i h
        have h1 : 1 ≤ plong s := by rcases plong_cases s with h | h | h | h <;> omega
        rcases psize_cases (pval (plong s) s) with ⟨g, _⟩ | ⟨g, h0, h1⟩ | ⟨g, h0, h1⟩ | ⟨g, h0, h1⟩ | ⟨g, h0, h1⟩ <;> (refine ⟨?_, ?_, Int.le_refl _⟩ <;> simp only <;> omega)
      · simp

/-- A text at the front of bytes: the text, the rest, the error. -/
def textF (s : ByteArray) : ByteArray × ByteArray × Int :=
  if (getF s).2.2 = 0 then
    if (getF s).1 > 65536 then (⟨#[]⟩, ⟨#[]⟩, 2)
    else if (getF s).1 > ((getF s).2.1.size : Int) then (⟨#[]⟩, ⟨#[]⟩, 7)
    else ((getF s).2.1.extract 0 (getF s).1.toNat, (getF s).2.1.extract (getF s).1.toNat (getF s).2.1.size, 0)
  else (⟨#[]⟩, ⟨#[]⟩, (getF s).2.2)
/-- A flag at the front of bytes: the number, the rest, the error. -/
def flagF (s : ByteArray) : Int × ByteArray × Int :=
  if s.size = 0 then (0, ⟨#[]⟩, 7) else if bt s 0 > 1 then (0, ⟨#[]⟩, 3) else (bt s 0, s.extract 1 s.size, 0)
/-- A number as a whole number. -/
def unfoldF (n : Int) : Int := if n % 2 = 1 then -(n / 2) - 1 else n / 2
/-- An item of a kind at the front of bytes: its number, its text, the rest, the error. -/
def takeF (s : ByteArray) (kind : Int) : Int × ByteArray × ByteArray × Int :=
  if kind = 4 then (0, (textF s).1, (textF s).2.1, (textF s).2.2)
  else if kind = 3 then ((flagF s).1, ⟨#[]⟩, (flagF s).2.1, (flagF s).2.2)
  else if kind = 2 then (unfoldF (getF s).1, ⟨#[]⟩, (getF s).2.1, (getF s).2.2)
  else ((getF s).1, ⟨#[]⟩, (getF s).2.1, (getF s).2.2)

theorem getF_err (s : ByteArray) (h : (getF s).2.2 ≠ 0) : getF s = (0, ⟨#[]⟩, (getF s).2.2) := by
  unfold getF at h ⊢
  by_cases h1 : s.size = 0
  · rw [if_pos h1]
  · rw [if_neg h1] at h ⊢
    by_cases h2 : (s.size : Int) < plong s
    · rw [if_pos h2]
    · rw [if_neg h2] at h ⊢
      by_cases h3 : psize (pval (plong s) s) = plong s
      · rw [if_pos h3] at h; exact absurd rfl h
      · rw [if_neg h3]

def takeL : List Int → ByteArray → List (Int × Int × ByteArray) → List (Int × Int × ByteArray) × ByteArray × Int
  | [], s, acc => (acc, s, 0)
  | k :: ks, s, acc => if (takeF s k).2.2.2 = 0 then takeL ks (takeF s k).2.2.1 (acc ++ [(k, (takeF s k).1, (takeF s k).2.1)]) else ([], ⟨#[]⟩, (takeF s k).2.2.2)
def okKinds (ks : List Int) : Bool := ks.all fun k => decide (1 ≤ k) && decide (k ≤ 4)
def takesF (s : ByteArray) (ks : List Int) : List (Int × Int × ByteArray) × ByteArray × Int :=
  if ks.length > 4096 then ([], ⟨#[]⟩, 2) else if okKinds ks then takeL ks s [] else ([], ⟨#[]⟩, 1)
theorem rd_drop {l : List Int} {i : Nat} {k : Int} {ks : List Int} (h : l.drop i = k :: ks) : rd l (i : Int) = k ∧ i < l.length ∧ l.drop (i + 1) = ks := by
  have hi : i < l.length := by
    rcases Nat.lt_or_ge i l.length with g | g
    · exact g
    · rw [List.drop_eq_nil_of_le g] at h; cases h
  rw [List.drop_eq_getElem_cons hi] at h
  injection h with h1 h2
  refine ⟨?_, hi, h2⟩
  unfold rd
  rw [Int.toNat_natCast, List.getD_eq_getElem?_getD, List.getElem?_eq_getElem hi]
  exact h1

theorem takeL_len : ∀ (ks : List Int) (s : ByteArray) (acc : List (Int × Int × ByteArray)), (takeL ks s acc).1.length ≤ acc.length + ks.length
  | [], s, acc => by simp [takeL]
  | c :: ks, s, acc => by
    simp only [takeL]
    split
    · have := takeL_len ks (takeF s c).2.2.1 (acc ++ [(c, (takeF s c).1, (takeF s c).2.1)])
      simp only [List.length_append, List.length_cons, List.length_nil] at this ⊢
      omega
    · simp
theorem takesF_len (s : ByteArray) (l : List Int) : (takesF s l).1.length ≤ 4096 := by
  unfold takesF
  split
  · simp
  · split
    · have := takeL_len l s []
      simp only [List.length_nil] at this
      omega
    · simp

end QuicRisesC
open QuicRisesC

theorem QuicRises : caduceuslaw01_QuicRises.Pure := by
  intro a b ha hb
  refine ⟨40, ?_⟩
  unfold caduceuslaw01_QuicRises.f
  rw [quic_num_is 16, quic_num_is 16, ref_size_is 39, ref_size_is 39]
  simp only [Option.bind_some]
  have nil : ∀ n, psize n = 0 → (pnum n).toList = [] := fun n h => (ba_nil _).2 (by have := pnum_size n; omega)
  have aw := awake_is 15
  by_cases h1 : psize a = 0
  · rw [if_pos h1, caduceuslaw01_QuicRises.j0, aw]
    simp [nil a h1]
  · rw [if_neg h1]
    by_cases h2 : psize b = 0
    · rw [h2, caduceuslaw01_QuicRises.j0, aw]
      simp [nil b h2]
    · have e : (psize b == 0) = false := by simpa using h2
      rw [e, caduceuslaw01_QuicRises.j0, if_neg (by simp), aw]
      have sa := pnum_size a
      have sb := pnum_size b
      have m1 := psize_mono a b h2
      have m2 := psize_mono b a h1
      have q : ((pnum a).toList == (pnum b).toList) = (a == b) := by
        rw [Bool.eq_iff_iff]; simp only [beq_iff_eq]; exact pnum_inj a b h1 h2
      rw [q]
      simp only [Option.bind_some, if_true, bne_self_eq_false, Bool.false_eq_true, if_false, sa, sb]
      have last : (if psize a = psize b then some (Op.bytesLess (pnum a).toList (pnum b).toList == decide (a < b)) else some true) = some true := by
        by_cases g : psize a = psize b
        · rw [if_pos g, pnum_less a b h1 g]; simp
        · rw [if_neg g]
      rw [last]
      by_cases c1 : a ≤ b
      · rw [if_pos c1, if_neg (by have := m1 c1; omega)]
        by_cases c2 : a ≥ b
        · rw [if_pos c2, if_neg (by have := m2 c2; omega)]
        · rw [if_neg c2]
      · rw [if_neg c1, if_pos (by omega), if_neg (by have := m2 (by omega); omega)]

end Go.Proofs.Ytbjokknoladmpaa.Pure
