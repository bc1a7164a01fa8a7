/- Plain facts on bytes, words and the numbers of rows: no program in sight. -/
import Derived.Test.YtpdalofhekmbeaaVMore
import Derived.OpenShut
namespace Go.Proofs.Ytpdalofhekmbeaa.QB
open Go.RowKit Go.Proofs.YtpdalofhekmbeaaW.PrintWords Go.Proofs.YtpdalofhekmbeaaW.PrintLast Go.Proofs.YtpdalofhekmbeaaW.PrintMore
set_option linter.unusedSimpArgs false
set_option linter.unusedVariables false

/-! Bytes as lists. -/
theorem ba_loop (s : ByteArray) (d : Nat) : ∀ i r, s.size - i = d → ByteArray.toList.loop s i r = r.reverse ++ s.data.toList.drop i := by
  induction d with
  | zero =>
    intro i r h
    rw [ByteArray.toList.loop, if_neg (by omega), List.drop_eq_nil_of_le (by rw [Array.length_toList]; exact (by omega : s.size ≤ i))]
    simp
  | succ d ih =>
    intro i r h
    have hi : i < s.size := by omega
    rw [ByteArray.toList.loop, if_pos hi, ih (i+1) _ (by omega)]
    have hi' : i < s.data.toList.length := by rw [Array.length_toList]; exact hi
    rw [List.drop_eq_getElem_cons hi']
    have : s.get! i = s.data.toList[i] := by
      simp [ByteArray.get!]
      exact getElem!_pos s.data i hi
    rw [this]; simp
theorem ba_toList (s : ByteArray) : s.toList = s.data.toList := by
  unfold ByteArray.toList
  rw [ba_loop s _ 0 [] rfl]; simp
theorem ba_ext {a b : ByteArray} (h : a.data.toList = b.data.toList) : a = b := by
  cases a; cases b; simp only [ByteArray.mk.injEq]; exact Array.toList_inj.1 h
theorem ba_toList_inj {a b : ByteArray} : a.toList = b.toList ↔ a = b := by
  rw [ba_toList, ba_toList]; exact ⟨ba_ext, fun h => by rw [h]⟩
theorem ba_nil (s : ByteArray) : s.toList = [] ↔ s.size = 0 := by
  rw [ba_toList]; rw [← List.length_eq_zero_iff, Array.length_toList]; rfl
theorem ba_len (s : ByteArray) : s.data.toList.length = s.size := by rw [Array.length_toList]; rfl
theorem bt_get (s : ByteArray) (i : Nat) (h : i < s.size) : UInt8.ofNat (bt s (i : Int)).toNat = s.data.toList[i]'(by rw [ba_len]; exact h) := by
  have h' : (i : Int).toNat < s.size := by simpa using h
  unfold bt
  rw [dif_pos h']
  simp
  rfl
theorem ext_take (s : ByteArray) (m : Nat) (hm : m ≤ s.size) : (s.extract 0 m).data.toList = (List.range m).map fun (i : Nat) => UInt8.ofNat (bt s (i : Int)).toNat := by
  have h0 : (s.extract 0 m).data.toList = s.data.toList.take m := by
    simp [ByteArray.data_extract]
  rw [h0]
  apply List.ext_getElem
  · rw [List.length_take, ba_len, List.length_map, List.length_range]; omega
  · intro i h1 h2
    have hi : i < s.size := by rw [List.length_take, ba_len] at h1; omega
    rw [List.getElem_take, List.getElem_map, List.getElem_range, bt_get s i hi]
theorem strOf_data (xs : List Int) : (strOfNums xs).data.toList = xs.map fun n => UInt8.ofNat n.toNat := by simp [strOfNums]
theorem strOf_size (xs : List Int) : (strOfNums xs).size = xs.length := by
  rw [← ba_len, strOf_data, List.length_map]

/-! Words. -/
theorem w64 {n : Int} (h0 : -9223372036854775808 ≤ n) (h1 : n < 9223372036854775808) : wrap64 n = n := by
  unfold wrap64; omega
theorem wraps_i64 (n : Int) (h₀ : 0 ≤ n) (h₁ : n < 2 ^ 63) : IntKind.i64.wrap n = n := by rw [IntKind.wrap_i64]; omega
theorem or_byte {x b : Int} (hx : 0 ≤ x) (hx1 : x < 36028797018963968) (hb : 0 ≤ b) (hb1 : b < 256) : Go.bits .or .i64 (x * 256) b = x * 256 + b :=
  bits_join .i64 63 (by decide) wraps_i64 8 (x * 256) b (by omega) (by omega) (by omega) hb (by omega) (by omega)
theorem u8_or_top {x : Int} (h0 : 0 ≤ x) (h1 : x < 64) : Go.bits .or .u8 x 0 = x ∧ Go.bits .or .u8 x 64 = x + 64 ∧ Go.bits .or .u8 x 128 = x + 128 ∧ Go.bits .or .u8 x 192 = x + 192 := by
  obtain ⟨a, rfl⟩ := Int.eq_ofNat_of_zero_le h0
  have ha : a < 64 := by omega
  have key : ∀ b : Nat, b < 256 → b % 64 = 0 → Go.bits .or .u8 (a : Int) (b : Int) = a + b := by
    intro b hb hm
    rw [(bits_nat .u8 8 (by decide) wraps_u8 a b (by omega) (by omega)).2]
    have hq : b = 2 ^ 6 * (b / 2 ^ 6) := by omega
    rw [Nat.or_comm, hq, ← Nat.two_pow_add_eq_or_of_lt (show a < 2 ^ 6 by omega) (b / 2 ^ 6)]
    omega
  exact ⟨by simpa using key 0 (by omega) rfl, key 64 (by omega) rfl, key 128 (by omega) rfl, key 192 (by omega) rfl⟩
theorem shr_u_0 (x : Int) : shr .u64 x (IntKind.u64.wrap 0) = x := by simp [shr, IntKind.wrap, IntKind.bits, IntKind.signed]
theorem wrap_u_0 : (0 : Int) ≤ IntKind.u64.wrap 0 := by simp [IntKind.wrap, IntKind.bits, IntKind.signed]
theorem shr_i_0 (x : Int) : shr .i64 x 0 = x := by simp [shr, IntKind.bits]
theorem shr_u_8 (x : Int) : shr .u64 x (IntKind.u64.wrap 8) = x / 256 := by simp [shr, IntKind.wrap, IntKind.bits, IntKind.signed]
theorem wrap_u_8 : (0 : Int) ≤ IntKind.u64.wrap 8 := by simp [IntKind.wrap, IntKind.bits, IntKind.signed]
theorem shr_i_8 (x : Int) : shr .i64 x 8 = x / 256 := by simp [shr, IntKind.bits]
theorem shr_u_16 (x : Int) : shr .u64 x (IntKind.u64.wrap 16) = x / 65536 := by simp [shr, IntKind.wrap, IntKind.bits, IntKind.signed]
theorem wrap_u_16 : (0 : Int) ≤ IntKind.u64.wrap 16 := by simp [IntKind.wrap, IntKind.bits, IntKind.signed]
theorem shr_i_16 (x : Int) : shr .i64 x 16 = x / 65536 := by simp [shr, IntKind.bits]
theorem shr_u_24 (x : Int) : shr .u64 x (IntKind.u64.wrap 24) = x / 16777216 := by simp [shr, IntKind.wrap, IntKind.bits, IntKind.signed]
theorem wrap_u_24 : (0 : Int) ≤ IntKind.u64.wrap 24 := by simp [IntKind.wrap, IntKind.bits, IntKind.signed]
theorem shr_i_24 (x : Int) : shr .i64 x 24 = x / 16777216 := by simp [shr, IntKind.bits]
theorem shr_u_32 (x : Int) : shr .u64 x (IntKind.u64.wrap 32) = x / 4294967296 := by simp [shr, IntKind.wrap, IntKind.bits, IntKind.signed]
theorem wrap_u_32 : (0 : Int) ≤ IntKind.u64.wrap 32 := by simp [IntKind.wrap, IntKind.bits, IntKind.signed]
theorem shr_i_32 (x : Int) : shr .i64 x 32 = x / 4294967296 := by simp [shr, IntKind.bits]
theorem shr_u_40 (x : Int) : shr .u64 x (IntKind.u64.wrap 40) = x / 1099511627776 := by simp [shr, IntKind.wrap, IntKind.bits, IntKind.signed]
theorem wrap_u_40 : (0 : Int) ≤ IntKind.u64.wrap 40 := by simp [IntKind.wrap, IntKind.bits, IntKind.signed]
theorem shr_i_40 (x : Int) : shr .i64 x 40 = x / 1099511627776 := by simp [shr, IntKind.bits]
theorem shr_u_48 (x : Int) : shr .u64 x (IntKind.u64.wrap 48) = x / 281474976710656 := by simp [shr, IntKind.wrap, IntKind.bits, IntKind.signed]
theorem wrap_u_48 : (0 : Int) ≤ IntKind.u64.wrap 48 := by simp [IntKind.wrap, IntKind.bits, IntKind.signed]
theorem shr_i_48 (x : Int) : shr .i64 x 48 = x / 281474976710656 := by simp [shr, IntKind.bits]
theorem shr_u_56 (x : Int) : shr .u64 x (IntKind.u64.wrap 56) = x / 72057594037927936 := by simp [shr, IntKind.wrap, IntKind.bits, IntKind.signed]
theorem wrap_u_56 : (0 : Int) ≤ IntKind.u64.wrap 56 := by simp [IntKind.wrap, IntKind.bits, IntKind.signed]
theorem shr_i_56 (x : Int) : shr .i64 x 56 = x / 72057594037927936 := by simp [shr, IntKind.bits]
theorem shl_1 : shl .i64 1 0 = 1 ∧ shl .i64 1 1 = 2 ∧ shl .i64 1 2 = 4 ∧ shl .i64 1 3 = 8 := by
  simp [shl, IntKind.wrap, IntKind.bits, IntKind.signed]
theorem u64id {n : Int} (h0 : 0 ≤ n) (h1 : n < 18446744073709551616) : IntKind.u64.wrap n = n := by
  simp [IntKind.wrap, IntKind.bits, IntKind.signed]; omega

/-! Numbers. -/
/-- How many bytes a number has. -/
def psize (n : Int) : Int := if n < 0 ∨ n > 4611686018427387903 then 0 else if n ≥ 1073741824 then 8 else if n ≥ 16384 then 4 else if n ≥ 64 then 2 else 1
/-- A number's bytes, as numbers. -/
def pnums (n : Int) : List Int :=
  if psize n = 1 then [n]
  else if psize n = 2 then [n / 256 + 64, n % 256]
  else if psize n = 4 then [n / 16777216 + 128, n / 65536 % 256, n / 256 % 256, n % 256]
  else if psize n = 8 then [n / 72057594037927936 + 192, n / 281474976710656 % 256, n / 1099511627776 % 256, n / 4294967296 % 256, n / 16777216 % 256, n / 65536 % 256, n / 256 % 256, n % 256]
  else []
def pnum (n : Int) : ByteArray := strOfNums (pnums n)
theorem psize_cases (n : Int) : (psize n = 0 ∧ (n < 0 ∨ n > 4611686018427387903)) ∨ (psize n = 1 ∧ 0 ≤ n ∧ n < 64) ∨ (psize n = 2 ∧ 64 ≤ n ∧ n < 16384) ∨ (psize n = 4 ∧ 16384 ≤ n ∧ n < 1073741824) ∨ (psize n = 8 ∧ 1073741824 ≤ n ∧ n ≤ 4611686018427387903) := by
  unfold psize
  split
  · exact .inl ⟨rfl, by assumption⟩
  · split
    · exact .inr (.inr (.inr (.inr ⟨rfl, by omega, by omega⟩)))
    · split
      · exact .inr (.inr (.inr (.inl ⟨rfl, by omega, by omega⟩)))
      · split
        · exact .inr (.inr (.inl ⟨rfl, by omega, by omega⟩))
        · exact .inr (.inl ⟨rfl, by omega, by omega⟩)
theorem pnums_len (n : Int) : ((pnums n).length : Int) = psize n := by
  unfold pnums
  rcases psize_cases n with ⟨h, h'⟩ | ⟨h, h0, h1⟩ | ⟨h, h0, h1⟩ | ⟨h, h0, h1⟩ | ⟨h, h0, h1⟩ <;> rw [h] <;> simp
theorem pnum_size (n : Int) : ((pnum n).size : Int) = psize n := by
  unfold pnum; rw [strOf_size]; exact pnums_len n
/-- The number that the first bytes say. -/
def pval (m : Int) (s : ByteArray) : Int :=
  if m = 1 then bt s 0 % 64
  else if m = 2 then bt s 0 % 64 * 256 + bt s 1
  else if m = 4 then ((bt s 0 % 64 * 256 + bt s 1) * 256 + bt s 2) * 256 + bt s 3
  else ((((((bt s 0 % 64 * 256 + bt s 1) * 256 + bt s 2) * 256 + bt s 3) * 256 + bt s 4) * 256 + bt s 5) * 256 + bt s 6) * 256 + bt s 7
/-- How many bytes the first one tells. -/
def plong (s : ByteArray) : Int := if bt s 0 < 64 then 1 else if bt s 0 < 128 then 2 else if bt s 0 < 192 then 4 else 8
theorem pval_fits (s : ByteArray) (hm : plong s ≤ s.size) : psize (pval (plong s) s) = plong s ↔ (pnum (pval (plong s) s)).toList = (s.extract 0 (plong s).toNat).toList := by
  have B := fun i => bt_range s i
  constructor
  · intro h
    rw [ba_toList, ba_toList, ext_take s _ (by unfold plong at hm ⊢; (repeat' split) <;> omega), pnum, strOf_data]
    have b0 := B 0; have b1 := B 1; have b2 := B 2; have b3 := B 3; have b4 := B 4; have b5 := B 5; have b6 := B 6; have b7 := B 7
    unfold plong at h hm ⊢
    by_cases c0 : bt s 0 < 64
    · simp only [c0, if_true] at h ⊢
      unfold pnums; rw [h]; simp [pval, List.range, List.range.loop]
      congr 1; omega
    · by_cases c1 : bt s 0 < 128
      · simp only [c0, c1, if_true, if_false] at h ⊢
        unfold pnums; rw [h]; simp [pval, List.range, List.range.loop]
        (repeat' apply And.intro) <;> congr 1 <;> omega
      · by_cases c2 : bt s 0 < 192
        · simp only [c0, c1, c2, if_true, if_false] at h ⊢
          unfold pnums; rw [h]; simp [pval, List.range, List.range.loop]
          (repeat' apply And.intro) <;> congr 1 <;> omega
        · simp only [c0, c1, c2, if_true, if_false] at h ⊢
          unfold pnums; rw [h]; simp [pval, List.range, List.range.loop]
          (repeat' apply And.intro) <;> congr 1 <;> omega
  · intro h
    have h2 := congrArg List.length h
    rw [ba_toList, ba_toList, ba_len, ba_len] at h2
    have h3 := pnum_size (pval (plong s) s)
    rw [h2] at h3
    rw [← h3]
    rw [ByteArray.size_extract]
    unfold plong at hm ⊢
    (repeat' split) <;> omega
/-- What bytes say, the highest first. -/
def pwt : List Int → Int
  | [] => 0
  | a :: x => a * 256 ^ x.length + pwt x
def byteRow (xs : List Int) : Prop := ∀ x ∈ xs, 0 ≤ x ∧ x < 256
theorem pwt_range : ∀ (xs : List Int), byteRow xs → 0 ≤ pwt xs ∧ pwt xs < 256 ^ xs.length
  | [], _ => by simp [pwt]
  | a :: x, h => by
    have h1 := pwt_range x (fun y hy => h y (by simp [hy]))
    have ha := h a (by simp)
    have hp : (0 : Int) < 256 ^ x.length := Int.pow_pos (by decide)
    simp only [pwt, List.length_cons, Int.pow_succ]
    have h3 : a * 256 ^ x.length ≤ 255 * 256 ^ x.length := Int.mul_le_mul_of_nonneg_right (by omega) (by omega)
    have h4 : 0 ≤ a * 256 ^ x.length := Int.mul_nonneg ha.1 (by omega)
    omega
theorem less_wt : ∀ (xs ys : List Int), byteRow xs → byteRow ys → xs.length = ys.length →
    Op.bytesLess (xs.map fun n => UInt8.ofNat n.toNat) (ys.map fun n => UInt8.ofNat n.toNat) = decide (pwt xs < pwt ys)
  | [], [], _, _, _ => by simp [pwt, Op.bytesLess]
  | [], _ :: _, _, _, h => by simp at h
  | _ :: _, [], _, _, h => by simp at h
  | a :: x, b :: y, hx, hy, h => by
    have hl : x.length = y.length := by simpa using h
    have ih := less_wt x y (fun z hz => hx z (by simp [hz])) (fun z hz => hy z (by simp [hz])) hl
    have rx := pwt_range x (fun z hz => hx z (by simp [hz]))
    have ry := pwt_range y (fun z hz => hy z (by simp [hz]))
    have ha := hx a (by simp); have hb := hy b (by simp)
    have hp : (0 : Int) < 256 ^ x.length := Int.pow_pos (by decide)
    simp only [List.map_cons, Op.bytesLess, ih]
    rw [← hl] at ry
    have e1 : (UInt8.ofNat a.toNat < UInt8.ofNat b.toNat) ↔ a < b := by
      rw [UInt8.lt_iff_toNat_lt]; simp; omega
    have e2 : (UInt8.ofNat a.toNat == UInt8.ofNat b.toNat) = decide (a = b) := by
      rw [Bool.eq_iff_iff]
      simp only [beq_iff_eq, decide_eq_true_eq]
      constructor
      · intro q
        have q' := congrArg UInt8.toNat q
        simp at q'; omega
      · intro q; rw [q]
    rw [e2, Bool.eq_iff_iff]
    simp only [Bool.or_eq_true, Bool.and_eq_true, decide_eq_true_eq, e1]
    simp only [pwt]
    rw [← hl]
    generalize (256 : Int) ^ x.length = P at *
    rcases Int.lt_trichotomy a b with c | c | c
    · have : (a + 1) * P ≤ b * P := Int.mul_le_mul_of_nonneg_right (by omega) (by omega)
      rw [Int.add_mul] at this
      exact ⟨fun _ => by omega, fun _ => .inl c⟩
    · subst c
      constructor
      · rintro (h | ⟨_, h⟩)
        · omega
        · omega
      · intro h; exact .inr ⟨rfl, by omega⟩
    · have : (b + 1) * P ≤ a * P := Int.mul_le_mul_of_nonneg_right (by omega) (by omega)
      rw [Int.add_mul] at this
      constructor
      · rintro (h | ⟨h, _⟩) <;> omega
      · intro h; omega
theorem pnums_row (n : Int) : byteRow (pnums n) := by
  unfold byteRow pnums
  rcases psize_cases n with ⟨h, h'⟩ | ⟨h, h0, h1⟩ | ⟨h, h0, h1⟩ | ⟨h, h0, h1⟩ | ⟨h, h0, h1⟩ <;> rw [h] <;> simp <;> (repeat' apply And.intro) <;> omega
def ptag (m : Int) : Int := if m = 1 then 0 else if m = 2 then 16384 else if m = 4 then 2147483648 else 13835058055282163712
theorem pnums_wt (n : Int) (h : psize n ≠ 0) : pwt (pnums n) = n + ptag (psize n) := by
  unfold pnums
  rcases psize_cases n with ⟨h, h'⟩ | ⟨h, h0, h1⟩ | ⟨h, h0, h1⟩ | ⟨h, h0, h1⟩ | ⟨h, h0, h1⟩
  · contradiction
  all_goals
    rw [h]; simp [pwt, ptag]
  all_goals omega
theorem pnum_less (a b : Int) (ha : psize a ≠ 0) (hab : psize a = psize b) : Op.bytesLess (pnum a).toList (pnum b).toList = decide (a < b) := by
  rw [ba_toList, ba_toList, pnum, pnum, strOf_data, strOf_data, less_wt _ _ (pnums_row a) (pnums_row b) (by have := pnums_len a; have := pnums_len b; omega),
    pnums_wt a ha, pnums_wt b (hab ▸ ha), hab]
  congr 1
  simp only [eq_iff_iff]; omega
theorem less_irrefl : ∀ l : List UInt8, Op.bytesLess l l = false
  | [] => rfl
  | a :: x => by simp [Op.bytesLess, less_irrefl x]
theorem pnum_inj (a b : Int) (ha : psize a ≠ 0) (hb : psize b ≠ 0) : (pnum a).toList = (pnum b).toList ↔ a = b := by
  constructor
  · intro h
    have h2 : pnum a = pnum b := ba_toList_inj.1 h
    have h3 : psize a = psize b := by rw [← pnum_size, ← pnum_size, h2]
    have q1 := pnum_less a b ha h3
    have q2 := pnum_less b a hb h3.symm
    rw [h, less_irrefl] at q1 q2
    have := of_decide_eq_false q1.symm
    have := of_decide_eq_false q2.symm
    omega
  · intro h; rw [h]
theorem psize_mono (a b : Int) (hb : psize b ≠ 0) (h : a ≤ b) : psize a ≤ psize b := by
  rcases psize_cases a with ⟨h, h'⟩ | ⟨h, h0, h1⟩ | ⟨h, h0, h1⟩ | ⟨h, h0, h1⟩ | ⟨h, h0, h1⟩ <;>
  rcases psize_cases b with ⟨g, h'⟩ | ⟨g, h0, h1⟩ | ⟨g, h0, h1⟩ | ⟨g, h0, h1⟩ | ⟨g, h0, h1⟩ <;> omega
end Go.Proofs.Ytpdalofhekmbeaa.QB
