/- The plain facts of the layer 'name', as the queue's seat wants them. Put together by a program of this session out of its own texts. -/
import Derived.Test.YtmcochnofkjhaaaDoorPAllx7
import Derived.Test.YtmcochnofkjhaaaDoorPAllx11
import Derived.Test.YtmcochnofkjhaaaDoorPAllx13
import Derived.Lib.MapLaws
import Derived.Lib.SplitLaws
import Derived.Lib.ValidAsc
namespace Go.Proofs.YtmcochnofkjhaaaDoor.NQ
open Go.RowKit Go.Lib Go.Proofs.YtmcochnofkjhaaaDoor.PAll Go.Proofs.YtmcochnofkjhaaaDoorW.PrintWords Go.Proofs.YtmcochnofkjhaaaDoorW.PrintLast Go.Proofs.YtmcochnofkjhaaaDoorW.PrintMore
set_option linter.unusedVariables false
set_option linter.unusedSimpArgs false
/-! ### the runes of a list of bytes -/
def rL : Nat → List UInt8 → List Int
  | 0, _ => []
  | f + 1, l => if l = [] then [] else ((decodeL l).1 : Int) :: rL f (l.drop (decodeL l).2)
def rD (l : List UInt8) : List Int := rL l.length l
theorem rL_nil : ∀ n, rL n [] = []
  | 0 => rfl
  | _ + 1 => by simp [rL]
theorem rL_fuel : ∀ (n m : Nat) (l : List UInt8), l.length ≤ n → l.length ≤ m → rL n l = rL m l
  | 0, m, l, hn, _ => by
    have : l = [] := List.eq_nil_of_length_eq_zero (by omega)
    subst this
    rw [rL_nil, rL_nil]
  | n + 1, 0, l, _, hm => by
    have : l = [] := List.eq_nil_of_length_eq_zero (by omega)
    subst this
    rw [rL_nil, rL_nil]
  | n + 1, m + 1, l, hn, hm => by
    by_cases hne : l = []
    · subst hne
      rw [rL_nil, rL_nil]
    · have hw := decodeL_width l
      have hl : 0 < l.length := List.length_pos_iff.2 hne
      simp only [rL, if_neg hne]
      rw [rL_fuel n m _ (by rw [List.length_drop]; omega) (by rw [List.length_drop]; omega)]
theorem rD_nil : rD [] = [] := rfl
theorem rD_step (l : List UInt8) (hne : l ≠ []) : rD l = ((decodeL l).1 : Int) :: rD (l.drop (decodeL l).2) := by
  have hw := decodeL_width l
  have hl : 0 < l.length := List.length_pos_iff.2 hne
  unfold rD
  obtain ⟨n, hn⟩ : ∃ n, l.length = n + 1 := ⟨l.length - 1, by omega⟩
  rw [hn]
  simp only [rL, if_neg hne]
  rw [rL_fuel n _ _ (by rw [List.length_drop]; omega) (Nat.le_refl _)]
theorem drop_ne (s : ByteArray) (i : Nat) (h : i < s.size) : s.data.toList.drop i ≠ [] := by
  intro h0
  have := congrArg List.length h0
  rw [List.length_drop, ← size_eq] at this
  simp at this
  omega
theorem runesL_rL (s : ByteArray) : ∀ f i, NC.runesL s f i = rL f (s.data.toList.drop i)
  | 0, _ => rfl
  | f + 1, i => by
    by_cases hi : i < s.size
    · simp only [NC.runesL, rL, if_pos hi, if_neg (drop_ne s i hi)]
      rw [runesL_rL s f, decodeL_drop, List.drop_drop]
    · have : s.data.toList.drop i = [] := List.drop_eq_nil_of_le (by rw [← size_eq]; omega)
      rw [this, NC.runesL_end s _ i hi, rL_nil]
theorem runes_rD (s : ByteArray) : NC.runes s = rD s.data.toList := by
  unfold NC.runes rD
  rw [runesL_rL, List.drop_zero, size_eq]
/-! ### what is UTF-8 -/
def bad (l : List UInt8) : Bool := decide ((decodeL l).1 = 65533 ∧ (decodeL l).2 = 1)
theorem bad_iff (l : List UInt8) : bad l = true ↔ (decodeL l).1 = 65533 ∧ (decodeL l).2 = 1 := by unfold bad; rw [decide_eq_true_iff]
theorem vG_nil : ∀ n, validGoD n [] = true
  | 0 => rfl
  | _ + 1 => by simp [validGoD]
theorem vG_fuel : ∀ (n m : Nat) (l : List UInt8), l.length ≤ n → l.length ≤ m → validGoD n l = validGoD m l
  | 0, m, l, hn, _ => by
    have : l = [] := List.eq_nil_of_length_eq_zero (by omega)
    subst this
    rw [vG_nil, vG_nil]
  | n + 1, 0, l, _, hm => by
    have : l = [] := List.eq_nil_of_length_eq_zero (by omega)
    subst this
    rw [vG_nil, vG_nil]
  | n + 1, m + 1, l, hn, hm => by
    by_cases hne : l = []
    · subst hne
      rw [vG_nil, vG_nil]
    · have hw := decodeL_width l
      have hl : 0 < l.length := List.length_pos_iff.2 hne
      simp only [validGoD, if_neg hne]
      rw [vG_fuel n m _ (by rw [List.length_drop]; omega) (by rw [List.length_drop]; omega)]
theorem v_step (l : List UInt8) (hne : l ≠ []) : validD l = if bad l = true then false else validD (l.drop (decodeL l).2) := by
  have hw := decodeL_width l
  have hl : 0 < l.length := List.length_pos_iff.2 hne
  unfold validD
  simp only [bad_iff]
  obtain ⟨n, hn⟩ : ∃ n, l.length = n + 1 := ⟨l.length - 1, by omega⟩
  rw [hn]
  simp only [validGoD, if_neg hne]
  rw [vG_fuel n _ _ (by rw [List.length_drop]; omega) (Nat.le_refl _)]
/-- What a rune may be. -/
def okR (c : Int) : Prop := 0 ≤ c ∧ (c < 55296 ∨ 57344 ≤ c) ∧ c ≤ 1114111
theorem dec_ok (l : List UInt8) (hne : l ≠ []) (hb : ¬ bad l = true) : okR ((decodeL l).1 : Int) := by
  rw [bad_iff] at hb
  unfold okR
  rw [decodeL_N] at hb ⊢
  have k0 := (l.getD 0 0).toNat_lt
  have k1 := (l.getD 1 0).toNat_lt
  have k2 := (l.getD 2 0).toNat_lt
  have k3 := (l.getD 3 0).toNat_lt
  rcases decodeN_shape l.length (l.getD 0 0).toNat (l.getD 1 0).toNat (l.getD 2 0).toNat (l.getD 3 0).toNat with ⟨c, e⟩ | ⟨c1, c2, c3, cv, e⟩ | ⟨c1, c2, c3, c4, cv, cs, e⟩ | ⟨c1, c2, c3, c4, c5, cv, cw, e⟩ | e
  all_goals (rw [e] at hb ⊢; dsimp only at hb ⊢)
  · omega
  · omega
  · omega
  · omega
  · exact absurd ⟨rfl, rfl⟩ hb
/-- The bytes of runes. -/
def encL (ns : List Int) : List UInt8 := ns.flatMap encodeRune
theorem encL_cons (c : Int) (ns : List Int) : encL (c :: ns) = encodeRune c ++ encL ns := rfl
theorem u8natN (z : Int) (h0 : 0 ≤ z) (h1 : z < 256) : z.toNat.toUInt8.toNat = z.toNat := by
  simp
  omega
theorem dec_all : ∀ (n : Nat) (l : List UInt8), l.length ≤ n → validD l = true → encL (rD l) = l ∧ ∀ c ∈ rD l, okR c := by
  intro n
  induction n with
  | zero =>
    intro l hl _
    obtain rfl : l = [] := List.eq_nil_of_length_eq_zero (by omega)
    exact ⟨rfl, by simp [rD_nil]⟩
  | succ n ih =>
    intro l hl hv
    by_cases hne : l = []
    · subst hne
      exact ⟨rfl, by simp [rD_nil]⟩
    · rw [v_step l hne] at hv
      by_cases hb : bad l = true
      · rw [if_pos hb] at hv; cases hv
      · rw [if_neg hb] at hv
        have hw := decodeL_width l
        have hp : 0 < l.length := List.length_pos_iff.2 hne
        obtain ⟨h1, h2⟩ := ih (l.drop (decodeL l).2) (by rw [List.length_drop]; omega) hv
        rw [rD_step l hne]
        constructor
        · rw [encL_cons, h1, encode_decode l hne (fun h => hb ((bad_iff l).2 h)), List.take_append_drop]
        · intro c hc
          rcases List.mem_cons.1 hc with rfl | hc
          · exact dec_ok l hne hb
          · exact h2 c hc
theorem dec_enc_all (l : List UInt8) (hv : validD l = true) : encL (rD l) = l := (dec_all _ l (Nat.le_refl _) hv).1
theorem rD_ok (l : List UInt8) (hv : validD l = true) : ∀ c ∈ rD l, okR c := (dec_all _ l (Nat.le_refl _) hv).2
theorem encode_list (n : Int) : (Utf8.encode n).data.toList = encodeRune n := by
  have hb : ∀ m : Nat, UInt8.ofNat m = m.toUInt8 := fun _ => rfl
  unfold Utf8.encode Utf8.valid Utf8.runeError
  by_cases h : 0 ≤ n ∧ (n < 55296 ∨ 57344 ≤ n) ∧ n ≤ 1114111
  · obtain ⟨h0, h1, h2⟩ := h
    have hv : ((decide (0 ≤ n) && decide (n < 0xD800)) || (decide (0xE000 ≤ n) && decide (n ≤ 0x10FFFF))) = true := by
      simp only [Bool.or_eq_true, Bool.and_eq_true, decide_eq_true_eq]
      omega
    simp only [hv, if_true]
    unfold encodeRune
    by_cases a : n ≤ 127
    · rw [if_pos (by omega), encodeRuneZ_one h0 a]; rfl
    · by_cases b : n ≤ 2047
      · rw [if_neg (by omega), if_pos (by omega), encodeRuneZ_two (by omega) b]
        simp only [List.map_cons, List.map_nil, hb]
        rw [show (192 + n / 64).toNat = 192 + n.toNat / 64 by omega, show (128 + n % 64).toNat = 128 + n.toNat % 64 by omega]
      · by_cases d : n ≤ 65535
        · rw [if_neg (by omega), if_neg (by omega), if_pos (by omega), encodeRuneZ_three (by omega)]
          simp only [List.map_cons, List.map_nil, hb]
          rw [show (224 + n / 4096).toNat = 224 + n.toNat / 4096 by omega, show (128 + n / 64 % 64).toNat = 128 + n.toNat / 64 % 64 by omega, show (128 + n % 64).toNat = 128 + n.toNat % 64 by omega]
        · rw [if_neg (by omega), if_neg (by omega), if_neg (by omega), encodeRuneZ_four (by omega) (by omega)]
          simp only [List.map_cons, List.map_nil, hb]
          rw [show (240 + n / 262144).toNat = 240 + n.toNat / 262144 by omega, show (128 + n / 4096 % 64).toNat = 128 + n.toNat / 4096 % 64 by omega, show (128 + n / 64 % 64).toNat = 128 + n.toNat / 64 % 64 by omega, show (128 + n % 64).toNat = 128 + n.toNat % 64 by omega]
  · have hv : ((decide (0 ≤ n) && decide (n < 0xD800)) || (decide (0xE000 ≤ n) && decide (n ≤ 0x10FFFF))) = false := by
      rw [Bool.eq_false_iff]
      intro hc
      simp only [Bool.or_eq_true, Bool.and_eq_true, decide_eq_true_eq] at hc
      omega
    simp only [hv, Bool.false_eq_true, if_false]
    unfold encodeRune
    rw [encodeRuneZ_bad (by omega)]
    rfl
theorem foldl_enc (ns : List Int) : ∀ s : ByteArray, (ns.foldl (fun r n => r ++ Utf8.encode n) s).data.toList = s.data.toList ++ encL ns := by
  induction ns with
  | nil => intro s; simp [encL]
  | cons n ns ih =>
    intro s
    rw [List.foldl_cons, ih, encL_cons]
    have : (s ++ Utf8.encode n).data.toList = s.data.toList ++ encodeRune n := by simp [encode_list]
    rw [this, List.append_assoc]
theorem runesBytes_list (ns : List Int) : (runesBytes ns).data.toList = encL ns := by
  unfold runesBytes
  rw [foldl_enc]
  simp
theorem ba_ext {a b : ByteArray} (h : a.data.toList = b.data.toList) : a = b := by
  cases a
  cases b
  simp at h
  simp [h]
/-! ### the document's runes -/
theorem toList_data (t : ByteArray) : t.toList = t.data.toList := by
  have h := extract_toList t 0 t.size
  rw [List.drop_zero, List.take_of_length_le (by rw [← size_eq]; omega)] at h
  rwa [show t.extract 0 t.size = t by apply ba_ext; rw [extract_data, List.drop_zero, List.take_of_length_le (by rw [← size_eq]; omega)]] at h
theorem wr (x : Int) (h0 : -9223372036854775808 ≤ x) (h1 : x ≤ 9223372036854775807) : wrap64 x = x := by unfold wrap64; omega
theorem bt_getD (t : ByteArray) (j : Nat) : bt t (j : Int) = ((t.data.toList.getD j 0).toNat : Int) := by
  unfold bt
  rw [Int.toNat_natCast]
  by_cases h : j < t.size
  · have h' : j < t.data.toList.length := by rw [← size_eq]; exact h
    rw [dif_pos h]
    simp [List.getD_eq_getElem?_getD, List.getElem?_eq_getElem h']
    rfl
  · have h' : t.data.toList.length ≤ j := by rw [← size_eq]; omega
    rw [dif_neg h]
    simp [List.getD_eq_getElem?_getD, List.getElem?_eq_none h']
theorem tail_is (t : ByteArray) (j : Nat) : caduceusref02_tail.f t (j : Int) = some (decide (j < t.size ∧ 128 ≤ (t.data.toList.getD j 0).toNat ∧ (t.data.toList.getD j 0).toNat < 192)) := by
  unfold caduceusref02_tail.f
  rw [bt_getD]
  by_cases h : j < t.size
  · rw [if_pos (by omega), if_pos (by omega)]
    by_cases h2 : 128 ≤ (t.data.toList.getD j 0).toNat
    · rw [if_pos (by omega)]
      exact congrArg some (decide_eq_decide.2 (by omega))
    · rw [if_neg (by omega)]
      exact congrArg some (decide_eq_false (by omega)).symm
  · rw [if_neg (by omega)]
    exact congrArg some (decide_eq_false (by omega)).symm
theorem e2 (a b : Int) (ha : 0 ≤ a ∧ a < 256) (hb : 0 ≤ b ∧ b < 256) : wrap64 ((wrap64 ((wrap64 (64 * (wrap64 (a - 192)))) + (wrap64 b))) - 128) = 64 * (a - 192) + b - 128 := by
  rw [wr (a - 192) (by omega) (by omega), wr (64 * (a - 192)) (by omega) (by omega), wr b (by omega) (by omega), wr (64 * (a - 192) + b) (by omega) (by omega), wr _ (by omega) (by omega)]
theorem e3 (a b c : Int) (ha : 0 ≤ a ∧ a < 256) (hb : 0 ≤ b ∧ b < 256) (hc : 0 ≤ c ∧ c < 256) : wrap64 ((wrap64 ((wrap64 ((wrap64 (4096 * (wrap64 (a - 224)))) + (wrap64 (64 * (wrap64 ((wrap64 b) - 128)))))) + (wrap64 c))) - 128) = 4096 * (a - 224) + 64 * (b - 128) + c - 128 := by
  rw [wr (a - 224) (by omega) (by omega), wr (4096 * (a - 224)) (by omega) (by omega), wr b (by omega) (by omega), wr (b - 128) (by omega) (by omega), wr (64 * (b - 128)) (by omega) (by omega), wr (4096 * (a - 224) + 64 * (b - 128)) (by omega) (by omega), wr c (by omega) (by omega), wr (4096 * (a - 224) + 64 * (b - 128) + c) (by omega) (by omega), wr _ (by omega) (by omega)]
theorem e4 (a b c d : Int) (ha : 0 ≤ a ∧ a < 256) (hb : 0 ≤ b ∧ b < 256) (hc : 0 ≤ c ∧ c < 256) (hd : 0 ≤ d ∧ d < 256) :
    wrap64 ((wrap64 ((wrap64 ((wrap64 ((wrap64 (262144 * (wrap64 (a - 240)))) + (wrap64 (4096 * (wrap64 ((wrap64 b) - 128)))))) + (wrap64 (64 * (wrap64 ((wrap64 c) - 128)))))) + (wrap64 d))) - 128) = 262144 * (a - 240) + 4096 * (b - 128) + 64 * (c - 128) + d - 128 := by
  rw [wr (a - 240) (by omega) (by omega), wr (262144 * (a - 240)) (by omega) (by omega), wr b (by omega) (by omega), wr (b - 128) (by omega) (by omega), wr (4096 * (b - 128)) (by omega) (by omega), wr (262144 * (a - 240) + 4096 * (b - 128)) (by omega) (by omega), wr c (by omega) (by omega), wr (c - 128) (by omega) (by omega), wr (64 * (c - 128)) (by omega) (by omega), wr (262144 * (a - 240) + 4096 * (b - 128) + 64 * (c - 128)) (by omega) (by omega), wr d (by omega) (by omega), wr (262144 * (a - 240) + 4096 * (b - 128) + 64 * (c - 128) + d) (by omega) (by omega), wr _ (by omega) (by omega)]
set_option maxHeartbeats 4000000 in
set_option maxRecDepth 100000 in
theorem first_is (t : ByteArray) (hne : t.data.toList ≠ []) (k : Nat) (hk : 4 ≤ k) :
    caduceusref02_First.f k t = some (if bad t.data.toList = true then (0, 0) else (((decodeL t.data.toList).1 : Int), ((decodeL t.data.toList).2 : Int))) := by
  obtain ⟨k, rfl⟩ : ∃ m, k = m + 4 := ⟨k - 4, by omega⟩
  have hn : 0 < t.data.toList.length := List.length_pos_iff.2 hne
  have hsz : t.size = t.data.toList.length := size_eq t
  have hT : t.toList ≠ [] := by
    rw [toList_data]
    exact hne
  unfold caduceusref02_First.f
  simp only [bad_iff]
  rw [decodeL_N, if_neg hT, if_pos (by omega)]
  simp only [caduceusref02_First.j0, caduceusref02_First.j1, caduceusref02_First.j2, caduceusref02_First.j3]
  have t1 := tail_is t 1
  have t2 := tail_is t 2
  have t3 := tail_is t 3
  have g0 := bt_getD t 0
  have g1 := bt_getD t 1
  have g2 := bt_getD t 2
  have g3 := bt_getD t 3
  have k0 := (t.data.toList.getD 0 0).toNat_lt
  have k1 := (t.data.toList.getD 1 0).toNat_lt
  have k2 := (t.data.toList.getD 2 0).toNat_lt
  have k3 := (t.data.toList.getD 3 0).toNat_lt
  simp only [Int.natCast_zero, Int.cast_ofNat_Int, Int.natCast_one] at t1 t2 t3 g0 g1 g2 g3
  rw [hsz] at t1 t2 t3
  simp only [g0, g1, g2, g3, t1, t2, t3, hsz, Option.bind_some]
  generalize (t.data.toList.getD 0 0).toNat = b0 at *
  generalize (t.data.toList.getD 1 0).toNat = b1 at *
  generalize (t.data.toList.getD 2 0).toNat = b2 at *
  generalize (t.data.toList.getD 3 0).toNat = b3 at *
  generalize t.data.toList.length = n at *
  rw [wr (b0 : Int) (by omega) (by omega)]
  simp only [e2 (b0 : Int) (b1 : Int) ⟨by omega, by omega⟩ ⟨by omega, by omega⟩, e3 (b0 : Int) (b1 : Int) (b2 : Int) ⟨by omega, by omega⟩ ⟨by omega, by omega⟩ ⟨by omega, by omega⟩, e4 (b0 : Int) (b1 : Int) (b2 : Int) (b3 : Int) ⟨by omega, by omega⟩ ⟨by omega, by omega⟩ ⟨by omega, by omega⟩ ⟨by omega, by omega⟩]
  simp only [decide_eq_true_eq, Bool.false_eq_true, if_false]
  clear t1 t2 t3 g0 g1 g2 g3 hT hne hsz hk
  have fin : ∀ {a b c d : Int}, a = c → b = d → (some (a, b) : Option (Int × Int)) = some (c, d) := by intro a b c d h1 h2; rw [h1, h2]
  by_cases h0 : b0 < 128
  · have hD : decodeN n b0 b1 b2 b3 = (b0, 1) := by unfold decodeN; repeat (first | rw [if_pos (by omega)] | rw [if_neg (by omega)])
    rw [hD]
    dsimp only
    repeat (first | rw [if_pos (by omega)] | rw [if_neg (by omega)])
    exact fin (by omega) rfl
  by_cases h1 : b0 < 194
  · by_cases h6 : b0 / 32 = 6 ∧ 1 < n ∧ b1 / 64 = 2
    · have hD : decodeN n b0 b1 b2 b3 = (65533, 1) := by unfold decodeN; repeat (first | rw [if_pos (by omega)] | rw [if_neg (by omega)])
      rw [hD]
      dsimp only
      rw [if_pos (show (65533 : Nat) = 65533 ∧ 1 = 1 from ⟨rfl, rfl⟩)]
      repeat (first | rw [if_pos (by omega)] | rw [if_neg (by omega)])
      all_goals ((repeat' split) <;> first | rfl | (exfalso; omega))
    · have hD : decodeN n b0 b1 b2 b3 = (65533, 1) := by unfold decodeN; repeat (first | rw [if_pos (by omega)] | rw [if_neg (by omega)])
      rw [hD]
      dsimp only
      rw [if_pos (show (65533 : Nat) = 65533 ∧ 1 = 1 from ⟨rfl, rfl⟩)]
      repeat (first | rw [if_pos (by omega)] | rw [if_neg (by omega)])
      all_goals ((repeat' split) <;> first | rfl | (exfalso; omega))
  by_cases c1 : 1 < n ∧ 128 ≤ b1 ∧ b1 < 192
  · by_cases h2 : b0 < 224
    · have hD : decodeN n b0 b1 b2 b3 = (b0 % 32 * 64 + b1 % 64, 2) := by unfold decodeN; repeat (first | rw [if_pos (by omega)] | rw [if_neg (by omega)])
      rw [hD]
      dsimp only
      repeat (first | rw [if_pos (by omega)] | rw [if_neg (by omega)])
      exact fin (by omega) rfl
    by_cases c2 : 2 < n ∧ 128 ≤ b2 ∧ b2 < 192
    · by_cases h3 : b0 < 240
      · by_cases v1 : 2048 ≤ b0 % 16 * 4096 + b1 % 64 * 64 + b2 % 64
        · by_cases v2 : b0 % 16 * 4096 + b1 % 64 * 64 + b2 % 64 < 55296
          · have hD : decodeN n b0 b1 b2 b3 = (b0 % 16 * 4096 + b1 % 64 * 64 + b2 % 64, 3) := by unfold decodeN; repeat (first | rw [if_pos (by omega)] | rw [if_neg (by omega)])
            rw [hD]
            dsimp only
            repeat (first | rw [if_pos (by omega)] | rw [if_neg (by omega)])
            exact fin (by omega) rfl
          · by_cases v3 : 57344 ≤ b0 % 16 * 4096 + b1 % 64 * 64 + b2 % 64
            · have hD : decodeN n b0 b1 b2 b3 = (b0 % 16 * 4096 + b1 % 64 * 64 + b2 % 64, 3) := by unfold decodeN; repeat (first | rw [if_pos (by omega)] | rw [if_neg (by omega)])
              rw [hD]
              dsimp only
              repeat (first | rw [if_pos (by omega)] | rw [if_neg (by omega)])
              exact fin (by omega) rfl
            · have hD : decodeN n b0 b1 b2 b3 = (65533, 1) := by unfold decodeN; repeat (first | rw [if_pos (by omega)] | rw [if_neg (by omega)])
              rw [hD]
              dsimp only
              rw [if_pos (show (65533 : Nat) = 65533 ∧ 1 = 1 from ⟨rfl, rfl⟩)]
              repeat (first | rw [if_pos (by omega)] | rw [if_neg (by omega)])
              all_goals ((repeat' split) <;> first | rfl | (exfalso; omega))
        · have hD : decodeN n b0 b1 b2 b3 = (65533, 1) := by unfold decodeN; repeat (first | rw [if_pos (by omega)] | rw [if_neg (by omega)])
          rw [hD]
          dsimp only
          rw [if_pos (show (65533 : Nat) = 65533 ∧ 1 = 1 from ⟨rfl, rfl⟩)]
          repeat (first | rw [if_pos (by omega)] | rw [if_neg (by omega)])
          all_goals ((repeat' split) <;> first | rfl | (exfalso; omega))
      by_cases c3 : 3 < n ∧ 128 ≤ b3 ∧ b3 < 192
      · by_cases h4 : b0 < 245
        · by_cases v1 : 65536 ≤ b0 % 8 * 262144 + b1 % 64 * 4096 + b2 % 64 * 64 + b3 % 64
          · by_cases v2 : b0 % 8 * 262144 + b1 % 64 * 4096 + b2 % 64 * 64 + b3 % 64 ≤ 1114111
            · have hD : decodeN n b0 b1 b2 b3 = (b0 % 8 * 262144 + b1 % 64 * 4096 + b2 % 64 * 64 + b3 % 64, 4) := by unfold decodeN; repeat (first | rw [if_pos (by omega)] | rw [if_neg (by omega)])
              rw [hD]
              dsimp only
              repeat (first | rw [if_pos (by omega)] | rw [if_neg (by omega)])
              exact fin (by omega) rfl
            · have hD : decodeN n b0 b1 b2 b3 = (65533, 1) := by unfold decodeN; repeat (first | rw [if_pos (by omega)] | rw [if_neg (by omega)])
              rw [hD]
              dsimp only
              rw [if_pos (show (65533 : Nat) = 65533 ∧ 1 = 1 from ⟨rfl, rfl⟩)]
              repeat (first | rw [if_pos (by omega)] | rw [if_neg (by omega)])
              all_goals ((repeat' split) <;> first | rfl | (exfalso; omega))
          · have hD : decodeN n b0 b1 b2 b3 = (65533, 1) := by unfold decodeN; repeat (first | rw [if_pos (by omega)] | rw [if_neg (by omega)])
            rw [hD]
            dsimp only
            rw [if_pos (show (65533 : Nat) = 65533 ∧ 1 = 1 from ⟨rfl, rfl⟩)]
            repeat (first | rw [if_pos (by omega)] | rw [if_neg (by omega)])
            all_goals ((repeat' split) <;> first | rfl | (exfalso; omega))
        · by_cases h8 : b0 / 8 = 30
          · have hD : decodeN n b0 b1 b2 b3 = (65533, 1) := by unfold decodeN; repeat (first | rw [if_pos (by omega)] | rw [if_neg (by omega)])
            rw [hD]
            dsimp only
            rw [if_pos (show (65533 : Nat) = 65533 ∧ 1 = 1 from ⟨rfl, rfl⟩)]
            repeat (first | rw [if_pos (by omega)] | rw [if_neg (by omega)])
            all_goals ((repeat' split) <;> first | rfl | (exfalso; omega))
          · have hD : decodeN n b0 b1 b2 b3 = (65533, 1) := by unfold decodeN; repeat (first | rw [if_pos (by omega)] | rw [if_neg (by omega)])
            rw [hD]
            dsimp only
            rw [if_pos (show (65533 : Nat) = 65533 ∧ 1 = 1 from ⟨rfl, rfl⟩)]
            repeat (first | rw [if_pos (by omega)] | rw [if_neg (by omega)])
            all_goals ((repeat' split) <;> first | rfl | (exfalso; omega))
      · have hD : decodeN n b0 b1 b2 b3 = (65533, 1) := by unfold decodeN; repeat (first | rw [if_pos (by omega)] | rw [if_neg (by omega)])
        rw [hD]
        dsimp only
        rw [if_pos (show (65533 : Nat) = 65533 ∧ 1 = 1 from ⟨rfl, rfl⟩)]
        repeat (first | rw [if_pos (by omega)] | rw [if_neg (by omega)])
        all_goals ((repeat' split) <;> first | rfl | (exfalso; omega))
    · have hD : decodeN n b0 b1 b2 b3 = (65533, 1) := by unfold decodeN; repeat (first | rw [if_pos (by omega)] | rw [if_neg (by omega)])
      rw [hD]
      dsimp only
      rw [if_pos (show (65533 : Nat) = 65533 ∧ 1 = 1 from ⟨rfl, rfl⟩)]
      repeat (first | rw [if_pos (by omega)] | rw [if_neg (by omega)])
      all_goals ((repeat' split) <;> first | rfl | (exfalso; omega))
  · have hD : decodeN n b0 b1 b2 b3 = (65533, 1) := by unfold decodeN; repeat (first | rw [if_pos (by omega)] | rw [if_neg (by omega)])
    rw [hD]
    dsimp only
    rw [if_pos (show (65533 : Nat) = 65533 ∧ 1 = 1 from ⟨rfl, rfl⟩)]
    by_cases h2 : b0 < 224
    · repeat (first | rw [if_pos (by omega)] | rw [if_neg (by omega)])
    by_cases h3 : b0 < 240
    · repeat (first | rw [if_pos (by omega)] | rw [if_neg (by omega)])
    by_cases h4 : b0 < 245
    · repeat (first | rw [if_pos (by omega)] | rw [if_neg (by omega)])
    · repeat (first | rw [if_pos (by omega)] | rw [if_neg (by omega)])
end Go.Proofs.YtmcochnofkjhaaaDoor.NQ

namespace Go.Proofs.YtmcochnofkjhaaaDoor.NQ
open Go.RowKit Go.Lib Go.Proofs.YtmcochnofkjhaaaDoor.PAll Go.Proofs.YtmcochnofkjhaaaDoorW.PrintWords Go.Proofs.YtmcochnofkjhaaaDoorW.PrintLast Go.Proofs.YtmcochnofkjhaaaDoorW.PrintMore
set_option linter.unusedVariables false
set_option linter.unusedSimpArgs false
theorem ext_drop (s : ByteArray) (i : Nat) : (s.extract i s.size).data.toList = s.data.toList.drop i := ext_list s i
theorem step_le (s : ByteArray) (i : Nat) (h : i < s.size) : 1 ≤ (decodeL (s.data.toList.drop i)).2 ∧ i + (decodeL (s.data.toList.drop i)).2 ≤ s.size := by
  have h1 := decodeL_width (s.data.toList.drop i)
  have h2 := decodeL_le _ (drop_ne s i h)
  rw [List.length_drop, ← size_eq] at h2
  omega
theorem drop_end (s : ByteArray) (i : Nat) (h : ¬ i < s.size) : s.data.toList.drop i = [] := List.drop_eq_nil_of_le (by rw [← size_eq]; omega)
theorem ref_Valid_l (s : ByteArray) (hs : s.size ≤ 1099511627776) : ∀ (d i k : Nat), s.size - i ≤ d → d + 5 ≤ k → i ≤ s.size →
    caduceusref02_Valid.l0 k s (i : Int) = some (validD (s.data.toList.drop i)) := by
  intro d
  induction d with
  | zero =>
    intro i k hd hk hi
    obtain ⟨k, rfl⟩ : ∃ m, k = m + 1 := ⟨k - 1, by omega⟩
    rw [caduceusref02_Valid.l0, if_neg (by omega), drop_end s i (by omega)]
    rfl
  | succ d ih =>
    intro i k hd hk hi
    obtain ⟨k, rfl⟩ : ∃ m, k = m + 1 := ⟨k - 1, by omega⟩
    by_cases hlt : i < s.size
    · obtain ⟨w1, w2⟩ := step_le s i hlt
      rw [caduceusref02_Valid.l0, if_pos (by omega), if_pos (by omega), if_pos (by omega), Int.toNat_natCast, first_is _ (by rw [ext_drop]; exact drop_ne s i hlt) k (by omega), Option.bind_some, ext_drop, v_step _ (drop_ne s i hlt)]
      by_cases hb : bad (s.data.toList.drop i) = true
      · rw [if_pos hb, if_pos hb]
        rfl
      · rw [if_neg hb, if_neg hb]
        dsimp only
        rw [if_neg (by omega), show wrap64 ((i : Int) + ((decodeL (s.data.toList.drop i)).2 : Int)) = ((i + (decodeL (s.data.toList.drop i)).2 : Nat) : Int) by rw [wr _ (by omega) (by omega)]; omega, ih _ _ (by omega) (by omega) w2, List.drop_drop]
    · rw [caduceusref02_Valid.l0, if_neg (by omega), drop_end s i hlt]
      rfl
theorem ref_Valid_is (s : ByteArray) (hs : s.size ≤ 1099511627776) (k : Nat) (hk : s.size + 5 ≤ k) : caduceusref02_Valid.f k s = some (validD s.data.toList) :=
  ref_Valid_l s hs s.size 0 k (by omega) hk (by omega)
theorem ref_Runes_l (s : ByteArray) (hs : s.size ≤ 1099511627776) : ∀ (d i k : Nat) (acc : List Int), s.size - i ≤ d → d + 5 ≤ k → i ≤ s.size → acc.length ≤ i → validD (s.data.toList.drop i) = true →
    caduceusref02_Runes.l0 k s acc (i : Int) = some (acc ++ rD (s.data.toList.drop i)) := by
  intro d
  induction d with
  | zero =>
    intro i k acc hd hk hi ha hv
    obtain ⟨k, rfl⟩ : ∃ m, k = m + 1 := ⟨k - 1, by omega⟩
    rw [caduceusref02_Runes.l0, if_neg (by omega), drop_end s i (by omega), rD_nil, List.append_nil]
  | succ d ih =>
    intro i k acc hd hk hi ha hv
    obtain ⟨k, rfl⟩ : ∃ m, k = m + 1 := ⟨k - 1, by omega⟩
    by_cases hlt : i < s.size
    · obtain ⟨w1, w2⟩ := step_le s i hlt
      rw [v_step _ (drop_ne s i hlt)] at hv
      by_cases hb : bad (s.data.toList.drop i) = true
      · rw [if_pos hb] at hv
        cases hv
      · rw [if_neg hb] at hv
        rw [List.drop_drop] at hv
        rw [caduceusref02_Runes.l0, if_pos (by omega), if_pos (by omega), if_pos (by omega), Int.toNat_natCast, first_is _ (by rw [ext_drop]; exact drop_ne s i hlt) k (by omega), Option.bind_some, ext_drop, if_neg hb]
        dsimp only
        rw [if_neg (by omega), if_pos (by omega), show wrap64 ((i : Int) + ((decodeL (s.data.toList.drop i)).2 : Int)) = ((i + (decodeL (s.data.toList.drop i)).2 : Nat) : Int) by rw [wr _ (by omega) (by omega)]; omega, ih _ _ _ (by omega) (by omega) w2 (by simp; omega) hv, rD_step _ (drop_ne s i hlt), List.drop_drop, List.append_assoc]
        rfl
    · rw [caduceusref02_Runes.l0, if_neg (by omega), drop_end s i hlt, rD_nil, List.append_nil]
theorem ref_Runes_is (s : ByteArray) (hs : s.size ≤ 1099511627776) (k : Nat) (hk : s.size + 5 ≤ k) (hv : validD s.data.toList = true) : caduceusref02_Runes.f k s = some (rD s.data.toList) := by
  have := ref_Runes_l s hs s.size 0 k [] (by omega) hk (by omega) (by simp) hv
  rw [List.drop_zero, List.nil_append] at this
  exact this
theorem smallZ_ok (c : Int) (h : okR c) : okR (NC.smallZ c) := by
  unfold NC.smallZ
  unfold okR at *
  split <;> omega
theorem ref_Small_is (c : Int) (h : 0 ≤ c ∧ c ≤ 2147483647 ∨ c < 0) : caduceusref02_Small.f c = some (NC.smallZ c) := by
  have hw : ∀ x : Int, 0 ≤ x → x ≤ 3000000000 → wrap64 x = x := fun x a b => wr x (by omega) (by omega)
  unfold caduceusref02_Small.f NC.smallZ
  repeat' split
  all_goals first | (exfalso; omega) | rfl | (rw [hw _ (by omega) (by omega)])
theorem ref_Bytes_is (c : Int) (h : okR c) : ∃ b, caduceusref02_Bytes.f c = some b ∧ b.data.toList = encodeRune c := by
  obtain ⟨h0, h1, h2⟩ := h
  have hs : ∀ l : List Int, (strOfNums l).data.toList = l.map fun x => x.toNat.toUInt8 := by intro l; simp [strOfNums]
  have d1 : Int.tdiv c 64 = c / 64 := Int.tdiv_eq_ediv_of_nonneg h0
  have d2 : Int.tdiv c 4096 = c / 4096 := Int.tdiv_eq_ediv_of_nonneg h0
  have d3 : Int.tdiv c 262144 = c / 262144 := Int.tdiv_eq_ediv_of_nonneg h0
  have m0 : Int.tmod c 64 = c % 64 := Int.tmod_eq_emod_of_nonneg h0
  have m1 : Int.tmod (c / 64) 64 = c / 64 % 64 := Int.tmod_eq_emod_of_nonneg (by omega)
  have m2 : Int.tmod (c / 4096) 64 = c / 4096 % 64 := Int.tmod_eq_emod_of_nonneg (by omega)
  have w1 : wrap64 (c / 64) = c / 64 := wr _ (by omega) (by omega)
  have w2 : wrap64 (c / 4096) = c / 4096 := wr _ (by omega) (by omega)
  have w3 : wrap64 (c / 262144) = c / 262144 := wr _ (by omega) (by omega)
  unfold caduceusref02_Bytes.f
  simp only [d1, d2, d3, m0, w1, w2, w3, m1, m2]
  unfold encodeRune
  by_cases a : c ≤ 127
  · rw [if_pos (by omega), encodeRuneZ_one h0 a]
    refine ⟨_, rfl, ?_⟩
    rw [hs, show c % 256 = c by omega]
  by_cases b : c ≤ 2047
  · rw [if_neg (by omega), if_pos (by omega), encodeRuneZ_two (by omega) b]
    refine ⟨_, rfl, ?_⟩
    rw [hs, wr (192 + c / 64) (by omega) (by omega), wr (128 + c % 64) (by omega) (by omega), show (192 + c / 64) % 256 = 192 + c / 64 by omega, show (128 + c % 64) % 256 = 128 + c % 64 by omega]
  by_cases d : c ≤ 65535
  · rw [if_neg (by omega), if_neg (by omega), if_pos (by omega), encodeRuneZ_three (by omega)]
    refine ⟨_, rfl, ?_⟩
    rw [hs, wr (224 + c / 4096) (by omega) (by omega), wr (128 + c / 64 % 64) (by omega) (by omega), wr (128 + c % 64) (by omega) (by omega), show (224 + c / 4096) % 256 = 224 + c / 4096 by omega, show (128 + c / 64 % 64) % 256 = 128 + c / 64 % 64 by omega, show (128 + c % 64) % 256 = 128 + c % 64 by omega]
  · rw [if_neg (by omega), if_neg (by omega), if_neg (by omega), encodeRuneZ_four (by omega) (by omega)]
    refine ⟨_, rfl, ?_⟩
    rw [hs, wr (240 + c / 262144) (by omega) (by omega), wr (128 + c / 4096 % 64) (by omega) (by omega), wr (128 + c / 64 % 64) (by omega) (by omega), wr (128 + c % 64) (by omega) (by omega), show (240 + c / 262144) % 256 = 240 + c / 262144 by omega, show (128 + c / 4096 % 64) % 256 = 128 + c / 4096 % 64 by omega, show (128 + c / 64 % 64) % 256 = 128 + c / 64 % 64 by omega, show (128 + c % 64) % 256 = 128 + c % 64 by omega]
theorem enc_len4 (c : Int) : (encodeRune c).length ≤ 4 := by
  unfold encodeRune
  rw [List.length_map]
  exact (encodeRuneZ_length c).2
theorem ref_Fold_l (L : List Int) (hL : ∀ c ∈ L, okR c) (hl : L.length ≤ 1099511627776) : ∀ (d i k : Nat) (out : ByteArray), L.length - i ≤ d → d + 1 ≤ k → i ≤ L.length → out.size ≤ 4 * i →
    ∃ r, caduceusref02_Fold.l0 k L out (i : Int) = some r ∧ r.data.toList = out.data.toList ++ encL ((L.drop i).map NC.smallZ) := by
  intro d
  induction d with
  | zero =>
    intro i k out hd hk hi ho
    obtain ⟨k, rfl⟩ : ∃ m, k = m + 1 := ⟨k - 1, by omega⟩
    rw [caduceusref02_Fold.l0, if_neg (by omega)]
    exact ⟨_, rfl, by rw [List.drop_eq_nil_of_le (by omega)]; simp [encL]⟩
  | succ d ih =>
    intro i k out hd hk hi ho
    obtain ⟨k, rfl⟩ : ∃ m, k = m + 1 := ⟨k - 1, by omega⟩
    by_cases hlt : i < L.length
    · have hc := hL _ (List.getElem_mem hlt)
      have hr : rd L (i : Int) = L[i] := by simp [rd, List.getD_eq_getElem?_getD, hlt]
      obtain ⟨b, hb, hbl⟩ := ref_Bytes_is _ (smallZ_ok _ hc)
      have hbs : b.size ≤ 4 := by rw [size_eq, hbl]; exact enc_len4 _
      have hos : (out ++ b).size = out.size + b.size := by simp
      rw [caduceusref02_Fold.l0, if_pos (by omega), if_pos (by omega), hr, ref_Small_is _ (by unfold okR at hc; omega), Option.bind_some, hb, Option.bind_some, if_pos (by omega), show wrap64 ((i : Int) + 1) = ((i + 1 : Nat) : Int) by rw [wr _ (by omega) (by omega)]; omega]
      obtain ⟨r, h1, h2⟩ := ih (i + 1) k (out ++ b) (by omega) (by omega) (by omega) (by omega)
      refine ⟨r, h1, ?_⟩
      rw [h2, List.drop_eq_getElem_cons hlt, List.map_cons, encL_cons, show (out ++ b).data.toList = out.data.toList ++ b.data.toList by simp, hbl, List.append_assoc]
    · rw [caduceusref02_Fold.l0, if_neg (by omega)]
      exact ⟨_, rfl, by rw [List.drop_eq_nil_of_le (by omega)]; simp [encL]⟩
theorem rD_len (s : ByteArray) : (rD s.data.toList).length ≤ s.size := by rw [← runes_rD]; exact NC.runes_len s
theorem fold_list (s : ByteArray) : (NC.foldB s).data.toList = if validD s.data.toList = true then encL ((rD s.data.toList).map NC.smallZ) else s.data.toList := by
  unfold NC.foldB
  split
  · rw [runesBytes_list, runes_rD]
  · rfl
theorem ref_Fold_is (s : ByteArray) (hs : s.size ≤ 1099511627776) (k : Nat) (hk : s.size + 5 ≤ k) : caduceusref02_Fold.f k s = some (NC.foldB s) := by
  unfold caduceusref02_Fold.f
  rw [ref_Valid_is s hs k hk, Option.bind_some]
  have hf := fold_list s
  by_cases hv : validD s.data.toList = true
  · rw [if_pos hv] at hf ⊢
    rw [ref_Runes_is s hs k hk hv, Option.bind_some]
    have hl := rD_len s
    obtain ⟨r, h1, h2⟩ := ref_Fold_l (rD s.data.toList) (rD_ok _ hv) (by omega) (rD s.data.toList).length 0 k ⟨#[]⟩ (by omega) (by omega) (by omega) (by decide)
    refine (show caduceusref02_Fold.l0 k (rD s.data.toList) ⟨#[]⟩ 0 = some r from h1).trans ?_
    congr 1
    apply ba_ext
    rw [h2, hf]
    simp
  · rw [if_neg hv] at hf ⊢
    congr 1
    exact ba_ext hf.symm
/-! ### FNV-1a -/
/-! ### the program's -/
theorem fold_size (s : ByteArray) : (NC.foldB s).size ≤ 4 * s.size := name_Compare.size s
theorem name_Valid_is (s : ByteArray) (hs : s.size ≤ 1099511627776) : utf8_ValidString.f s = some (validD s.data.toList) := by unfold utf8_ValidString.f; rw [if_pos (by omega)]
/-! ### the worked example -/
end Go.Proofs.YtmcochnofkjhaaaDoor.NQ

namespace Go.Proofs.YtmcochnofkjhaaaDoor.NQ
open Go.RowKit Go.Lib Go.Proofs.YtmcochnofkjhaaaDoor.PAll Go.Proofs.YtmcochnofkjhaaaDoorW.PrintWords Go.Proofs.YtmcochnofkjhaaaDoorW.PrintLast Go.Proofs.YtmcochnofkjhaaaDoorW.PrintMore
set_option linter.unusedVariables false
set_option linter.unusedSimpArgs false
theorem ref_Letter_is (k : Nat) (c : Int) (hk : 2 ≤ k) : caduceusref02_Letter.f k c = some (NC.letterZ c) := by
  obtain ⟨k, rfl⟩ : ∃ m, k = m + 2 := ⟨k - 2, by omega⟩
  unfold caduceusref02_Letter.f
  simp only [caduceusref02_Letter.j0, caduceusref02_Letter.j1, decide_eq_true_eq, Bool.false_eq_true, if_false, if_true]
  have e : ∀ b : Bool, b = NC.letterZ c → (some b : Option Bool) = some (NC.letterZ c) := fun b h => by rw [h]
  have t : ((65 ≤ c ∧ c ≤ 90) ∨ (97 ≤ c ∧ c ≤ 122) ∨ (192 ≤ c ∧ c ≤ 591 ∧ c ≠ 215 ∧ c ≠ 247) ∨ (913 ≤ c ∧ c ≤ 937 ∧ c ≠ 930) ∨ (945 ≤ c ∧ c ≤ 969) ∨ (1040 ≤ c ∧ c ≤ 1103) ∨ (19968 ≤ c ∧ c ≤ 40959)) → true = NC.letterZ c := fun h => (decide_eq_true h).symm
  have f : ¬ ((65 ≤ c ∧ c ≤ 90) ∨ (97 ≤ c ∧ c ≤ 122) ∨ (192 ≤ c ∧ c ≤ 591 ∧ c ≠ 215 ∧ c ≠ 247) ∨ (913 ≤ c ∧ c ≤ 937 ∧ c ≠ 930) ∨ (945 ≤ c ∧ c ≤ 969) ∨ (1040 ≤ c ∧ c ≤ 1103) ∨ (19968 ≤ c ∧ c ≤ 40959)) → false = NC.letterZ c := fun h => (decide_eq_false h).symm
  by_cases a1 : 65 ≤ c ∧ c ≤ 90
  · repeat (first | rw [if_pos (by omega)] | rw [if_neg (by omega)])
    exact e _ (t (by omega))
  by_cases a2 : 97 ≤ c ∧ c ≤ 122
  · repeat (first | rw [if_pos (by omega)] | rw [if_neg (by omega)])
    exact e _ (t (by omega))
  by_cases a3 : 192 ≤ c ∧ c ≤ 591
  · by_cases b1 : c = 215
    · subst b1; rfl
    by_cases b2 : c = 247
    · subst b2; rfl
    repeat (first | rw [if_pos (by omega)] | rw [if_neg (by omega)])
    exact e _ ((by simp [b2] : (c != 247) = true).trans (t (by omega)))
  by_cases a4 : 913 ≤ c ∧ c ≤ 937
  · by_cases b1 : c = 930
    · subst b1; rfl
    repeat (first | rw [if_pos (by omega)] | rw [if_neg (by omega)])
    exact e _ ((by simp [b1] : (c != 930) = true).trans (t (by omega)))
  by_cases a5 : 945 ≤ c ∧ c ≤ 969
  · repeat (first | rw [if_pos (by omega)] | rw [if_neg (by omega)])
    exact e _ (t (by omega))
  by_cases a6 : 1040 ≤ c ∧ c ≤ 1103
  · repeat (first | rw [if_pos (by omega)] | rw [if_neg (by omega)])
    exact e _ (t (by omega))
  by_cases a7 : 19968 ≤ c ∧ c ≤ 40959
  · repeat (first | rw [if_pos (by omega)] | rw [if_neg (by omega)])
    exact e _ ((decide_eq_true a7.2).trans (t (by omega)))
  by_cases g1 : c < 65
  · repeat (first | rw [if_pos (by omega)] | rw [if_neg (by omega)])
    exact e _ (f (by omega))
  by_cases g2 : c < 97
  · repeat (first | rw [if_pos (by omega)] | rw [if_neg (by omega)])
    exact e _ (f (by omega))
  by_cases g3 : c < 192
  · repeat (first | rw [if_pos (by omega)] | rw [if_neg (by omega)])
    exact e _ (f (by omega))
  by_cases g4 : c < 913
  · repeat (first | rw [if_pos (by omega)] | rw [if_neg (by omega)])
    exact e _ (f (by omega))
  by_cases g5 : c < 945
  · repeat (first | rw [if_pos (by omega)] | rw [if_neg (by omega)])
    exact e _ (f (by omega))
  by_cases g6 : c < 1040
  · repeat (first | rw [if_pos (by omega)] | rw [if_neg (by omega)])
    exact e _ (f (by omega))
  by_cases g7 : c < 19968
  · repeat (first | rw [if_pos (by omega)] | rw [if_neg (by omega)])
    exact e _ (f (by omega))
  · repeat (first | rw [if_pos (by omega)] | rw [if_neg (by omega)])
    exact e _ ((decide_eq_false (by omega)).trans (f (by omega)))
theorem count_from (s : ByteArray) : ∀ f i, runeCountFrom s f i = (NC.runesL s f i).length := by
  intro f
  induction f with
  | zero => intro i; rfl
  | succ f ih =>
    intro i
    simp only [runeCountFrom, NC.runesL]
    split
    · rw [ih]; simp; omega
    · rfl
theorem runeCount_is (s : ByteArray) : runeCount s = (rD s.data.toList).length := by rw [← runes_rD]; exact count_from s s.size 0
/-! ### forms -/
def chk (l : List UInt8) : Int := if (!l.isEmpty && validD l && NC.formL true (rD l)) = true then (if 40 < (rD l).length ∨ 5 ≤ (rD l).count 46 then 2 else 0) else 3
theorem enc46 (c : Int) (h : okR c) (hc : c ≠ 46) : (46 : UInt8) ∉ encodeRune c := by
  obtain ⟨h0, h1, h2⟩ := h
  have key : ∀ z : Int, z ∈ encodeRuneZ c → z ≠ 46 := by
    intro z hz
    by_cases a : c ≤ 127
    · rw [encodeRuneZ_one h0 a] at hz; simp at hz; omega
    by_cases b : c ≤ 2047
    · rw [encodeRuneZ_two (by omega) b] at hz; simp at hz; omega
    by_cases d : c ≤ 65535
    · rw [encodeRuneZ_three (by omega)] at hz; simp at hz; omega
    · rw [encodeRuneZ_four (by omega) (by omega)] at hz; simp at hz; omega
  intro hm
  unfold encodeRune at hm
  obtain ⟨z, hz, he⟩ := List.mem_map.1 hm
  have hb := encodeRuneZ_byte c z hz
  have := congrArg UInt8.toNat he
  rw [u8natN z hb.1 hb.2] at this
  exact key z hz (by have h46 : (46 : UInt8).toNat = 46 := rfl; omega)
theorem enc_46 : encodeRune 46 = [46] := by decide
theorem count_enc (ns : List Int) (h : ∀ c ∈ ns, okR c) : (encL ns).count (46 : UInt8) = ns.count 46 := by
  induction ns with
  | nil => rfl
  | cons c ns ih =>
    have ih := ih fun x hx => h x (List.mem_cons_of_mem _ hx)
    rw [encL_cons, List.count_append, ih]
    by_cases hc : c = 46
    · subst hc
      rw [enc_46, List.count_cons_self]
      simp
      omega
    · rw [List.count_eq_zero_of_not_mem (enc46 c (h c List.mem_cons_self) hc), List.count_cons_of_ne (by simpa using hc)]
      omega
theorem name_Check_is (s : ByteArray) (hs : s.size ≤ 1099511627776) : name_Check.f s = some (chk s.data.toList) := by
  unfold name_Check.f name_formed.f NC.formB chk
  rw [if_pos (by omega), Option.bind_some, toList_data, runes_rD]
  by_cases hf : (!s.data.toList.isEmpty && validD s.data.toList && NC.formL true (rD s.data.toList)) = true
  · rw [if_pos hf, if_pos hf]
    have hv : validD s.data.toList = true := by simp only [Bool.and_eq_true] at hf; exact hf.1.2
    unfold utf8_RuneCountInString.f strings_Count.f
    rw [if_pos (by omega), Option.bind_some, runeCount_is, if_pos rfl, Option.bind_some]
    have hc : countByte s.data.toList 46 = (rD s.data.toList).count 46 := by
      unfold countByte
      conv => lhs; rw [← dec_enc_all _ hv]
      exact count_enc _ (rD_ok _ hv)
    rw [hc]
    by_cases h1 : 40 < (rD s.data.toList).length
    · rw [if_pos (by omega), if_pos (Or.inl h1)]
    · rw [if_neg (by omega)]
      by_cases h2 : 5 ≤ (rD s.data.toList).count 46
      · rw [if_pos (by omega), if_pos (Or.inr h2)]
      · rw [if_neg (by omega), if_neg (by omega)]
  · rw [if_neg hf, if_neg hf]
/-- A text cut at its points. -/
def prep {α : Type} (c : List α) : List (List α) → List (List α)
  | [] => []
  | h :: t => (c ++ h) :: t
def splitQ : List Int → List (List Int)
  | [] => [[]]
  | c :: r => if c = 46 then [] :: splitQ r else prep [c] (splitQ r)
theorem prep_nil {α : Type} : ∀ l : List (List α), prep [] l = l
  | [] => rfl
  | _ :: _ => rfl
theorem prep_prep {α : Type} (a b : List α) : ∀ l, prep a (prep b l) = prep (a ++ b) l
  | [] => rfl
  | _ :: _ => by simp [prep]
theorem prep_len {α : Type} (a : List α) : ∀ l, (prep a l).length = l.length
  | [] => rfl
  | _ :: _ => rfl
theorem splitQ_ne (l : List Int) : splitQ l ≠ [] := by
  induction l with
  | nil => simp [splitQ]
  | cons c r ih =>
    unfold splitQ
    split
    · simp
    · intro h
      apply ih
      have := congrArg List.length h
      rw [prep_len] at this
      exact List.eq_nil_of_length_eq_zero this
theorem splitQ_len (l : List Int) : (splitQ l).length = l.count 46 + 1 := by
  induction l with
  | nil => rfl
  | cons c r ih =>
    unfold splitQ
    split
    · rename_i h
      subst h
      rw [List.length_cons, ih, List.count_cons_self]
    · rename_i h
      rw [prep_len, ih, List.count_cons_of_ne (by simpa using h)]
theorem ref_Split_l (L : List Int) (hl : L.length ≤ 1000000000) : ∀ (d i k : Nat) (out : List (List Int)) (cur : List Int), L.length - i ≤ d → d + 1 ≤ k → i ≤ L.length → out.length ≤ i → cur.length ≤ i →
    caduceusref02_Split.l0 k L out cur (i : Int) = some (out ++ prep cur (splitQ (L.drop i))) := by
  intro d
  induction d with
  | zero =>
    intro i k out cur hd hk hi ho hc
    obtain ⟨k, rfl⟩ : ∃ m, k = m + 1 := ⟨k - 1, by omega⟩
    rw [caduceusref02_Split.l0, if_neg (by omega), if_pos (by omega), List.drop_eq_nil_of_le (by omega)]
    simp [splitQ, prep]
  | succ d ih =>
    intro i k out cur hd hk hi ho hc
    obtain ⟨k, rfl⟩ : ∃ m, k = m + 1 := ⟨k - 1, by omega⟩
    by_cases hlt : i < L.length
    · have hr : rd L (i : Int) = L[i] := by simp [rd, List.getD_eq_getElem?_getD, hlt]
      have hw : wrap64 ((i : Int) + 1) = ((i + 1 : Nat) : Int) := by rw [wr _ (by omega) (by omega)]; omega
      rw [caduceusref02_Split.l0, if_pos (by omega), if_pos (by omega), hr, List.drop_eq_getElem_cons hlt]
      unfold splitQ
      by_cases h46 : L[i] = 46
      · rw [if_pos h46, if_pos (by omega), if_pos h46, hw, ih _ _ _ _ (by omega) (by omega) (by omega) (by simp; omega) (by simp), prep_nil]
        simp [prep]
      · rw [if_neg h46, if_pos (by omega), if_neg h46, hw, ih _ _ _ _ (by omega) (by omega) (by omega) (by omega) (by simp; omega), prep_prep]
    · rw [caduceusref02_Split.l0, if_neg (by omega), if_pos (by omega), List.drop_eq_nil_of_le (by omega)]
      simp [splitQ, prep]
theorem ref_Split_is (L : List Int) (hl : L.length ≤ 1000000000) (k : Nat) (hk : L.length + 1 ≤ k) : caduceusref02_Split.f k L = some (splitQ L) := by
  have := ref_Split_l L hl L.length 0 k [] [] (by omega) hk (by omega) (by simp) (by simp)
  rw [List.nil_append, prep_nil, List.drop_zero] at this
  exact this
/-- Is this a part ('first': at its first rune)? -/
def okC (first : Bool) (c : Int) : Bool := NC.letterZ c || c == 95 || (!first && (NC.digitZ c || c == 45))
def partR : Bool → List Int → Bool
  | first, [] => !first
  | first, c :: r => okC first c && partR false r
theorem partR_nil (first : Bool) : partR first [] = !first := rfl
theorem partR_cons (first : Bool) (c : Int) (r : List Int) : partR first (c :: r) = (okC first c && partR false r) := rfl
theorem ref_part_l (L : List Int) (hl : L.length ≤ 1000000000) : ∀ (d i k : Nat), L.length - i ≤ d → d + 3 ≤ k → i ≤ L.length →
    caduceusref02_part.l0 k L (i : Int) = some (partR (decide (i = 0)) (L.drop i)) := by
  intro d
  induction d with
  | zero =>
    intro i k hd hk hi
    obtain ⟨k, rfl⟩ : ∃ m, k = m + 1 := ⟨k - 1, by omega⟩
    rw [caduceusref02_part.l0, if_neg (by omega), List.drop_eq_nil_of_le (by omega)]
    rw [partR_nil]
    congr 1
    by_cases h : i = 0
    · simp only [h, decide_true, Bool.not_true]; exact decide_eq_false (by omega)
    · simp only [h, decide_false, Bool.not_false]; exact decide_eq_true (by omega)
  | succ d ih =>
    intro i k hd hk hi
    obtain ⟨k, rfl⟩ : ∃ m, k = m + 1 := ⟨k - 1, by omega⟩
    by_cases hlt : i < L.length
    · have hr : rd L (i : Int) = L[i] := by simp [rd, List.getD_eq_getElem?_getD, hlt]
      have hw : wrap64 ((i : Int) + 1) = ((i + 1 : Nat) : Int) := by rw [wr _ (by omega) (by omega)]; omega
      have hih := ih (i + 1) k (by omega) (by omega) (by omega)
      rw [show decide (i + 1 = 0) = false from decide_eq_false (by omega)] at hih
      rw [caduceusref02_part.l0, if_pos (by omega), if_pos (by omega), hr, ref_Letter_is k _ (by omega), Option.bind_some, hw, hih, List.drop_eq_getElem_cons hlt]
      rw [partR_cons]
      generalize partR false (L.drop (i + 1)) = q
      unfold okC
      by_cases h1 : NC.letterZ L[i] = true
      · rw [if_pos h1, h1]; simp
      · have h1' : NC.letterZ L[i] = false := by simpa using h1
        rw [if_neg h1, h1']
        by_cases h2 : L[i] = 95
        · rw [if_pos h2]; simp [h2]
        · rw [if_neg h2]
          by_cases h3 : i = 0
          · subst h3; simp [h2]
          · have h3' : ¬ (i : Int) = 0 := by omega
            rw [if_neg h3']
            by_cases h4 : L[i] = 45
            · rw [if_pos h4]; simp [h4, h3]
            · rw [if_neg h4]
              unfold NC.digitZ
              by_cases h5 : L[i] < 48
              · rw [if_pos h5]; simp [h2, h3, h4]; omega
              · rw [if_neg h5]
                by_cases h6 : L[i] > 57
                · rw [if_pos h6]; simp [h2, h3, h4]; omega
                · rw [if_neg h6]
                  have : (decide (48 ≤ L[i]) && decide (L[i] ≤ 57)) = true := by simp; omega
                  simp [h2, h3, h4, show 48 ≤ L[i] by omega, show L[i] ≤ 57 by omega]
    · rw [caduceusref02_part.l0, if_neg (by omega), List.drop_eq_nil_of_le (by omega)]
      rw [partR_nil]
      congr 1
      by_cases h : i = 0
      · simp only [h, decide_true, Bool.not_true]; exact decide_eq_false (by omega)
      · simp only [h, decide_false, Bool.not_false]; exact decide_eq_true (by omega)
theorem ref_part_is (L : List Int) (hl : L.length ≤ 1000000000) (k : Nat) (hk : L.length + 3 ≤ k) : caduceusref02_part.f k L = some (partR true L) := by
  have := ref_part_l L hl L.length 0 k (by omega) hk (by omega)
  rw [List.drop_zero] at this
  exact this
theorem partR_app (a b : List Int) : ∀ first, partR first (a ++ b) = if a = [] then partR first b else (a.head?.elim true (okC first) && a.tail.all (okC false) && partR false b) := by
  induction a with
  | nil => intro first; simp
  | cons c r ih =>
    intro first
    rw [List.cons_append, partR_cons, ih false]
    cases r with
    | nil => simp
    | cons d r => simp [Bool.and_assoc]
theorem partR_snoc (cur : List Int) (c : Int) (h : cur ≠ [] → partR true cur = true) : partR true (cur ++ [c]) = okC cur.isEmpty c := by
  rw [partR_app]
  by_cases hn : cur = []
  · subst hn; simp [partR]
  · have h1 := h hn
    have h2 := partR_app cur [] true
    rw [List.append_nil, if_neg hn, h1] at h2
    rw [if_neg hn]
    simp only [partR, Bool.not_false, Bool.and_true] at h2 ⊢
    have he : cur.isEmpty = false := by cases cur with | nil => exact absurd rfl hn | cons a b => rfl
    rw [he]
    cases cur with
    | nil => exact absurd rfl hn
    | cons a b =>
      simp only [List.cons_append, List.head?_cons, List.tail_cons, List.all_append, List.all_cons, List.all_nil, Bool.and_true, Option.elim_some] at h2 ⊢
      rw [← h2, Bool.true_and]
theorem partR_stuck (cur : List Int) (c : Int) (x : List Int) (h : partR true (cur ++ [c]) = false) : partR true (cur ++ [c] ++ x) = false := by
  rw [partR_app, if_neg (by simp)]
  have h2 := partR_app (cur ++ [c]) [] true
  rw [List.append_nil, if_neg (by simp), h] at h2
  simp only [partR, Bool.not_false, Bool.and_true] at h2
  rw [← h2]
  simp
theorem splitQ_head (l : List Int) : ∃ h t, splitQ l = h :: t := by
  cases hs : splitQ l with
  | nil => exact absurd hs (splitQ_ne l)
  | cons h t => exact ⟨h, t, rfl⟩
theorem form_parts (ns : List Int) : ∀ cur : List Int, (cur ≠ [] → partR true cur = true) → NC.formL cur.isEmpty ns = (prep cur (splitQ ns)).all (partR true) := by
  induction ns with
  | nil =>
    intro cur h
    by_cases hn : cur = []
    · subst hn; rfl
    · have h1 := h hn
      simp [NC.formL, splitQ, prep, h1, hn]
  | cons c r ih =>
    intro cur h
    unfold splitQ NC.formL
    by_cases h46 : c = 46
    · rw [if_pos h46, if_pos h46]
      have hi := ih [] (fun h => absurd rfl h)
      rw [prep_nil] at hi
      by_cases hn : cur = []
      · subst hn
        simp [prep, partR]
      · have h1 := h hn
        have : cur.isEmpty = false := by simp [hn]
        rw [this]
        simp only [Bool.false_eq_true, if_false, prep, List.all_cons, List.append_nil, h1, Bool.true_and]
        exact hi
    · rw [if_neg h46, if_neg h46, prep_prep]
      have hs := partR_snoc cur c h
      by_cases hok : okC cur.isEmpty c = true
      · have hi := ih (cur ++ [c]) (fun _ => hs.trans hok)
        have hne : (cur ++ [c]).isEmpty = false := by simp
        rw [hne] at hi
        rw [← hi]
        unfold okC at hok
        by_cases hl : (NC.letterZ c || c == 95) = true
        · rw [if_pos hl]
        · rw [if_neg hl]
          have hl' : (NC.letterZ c || c == 95) = false := by simpa using hl
          rw [hl', Bool.false_or] at hok
          rw [if_pos hok]
          simp only [Bool.and_eq_true] at hok
          have : cur.isEmpty = false := by simpa using hok.1
          rw [this]
      · have hok' : okC cur.isEmpty c = false := by simpa using hok
        rw [hok'] at hs
        obtain ⟨h', t', e⟩ := splitQ_head r
        rw [e]
        simp only [prep, List.all_cons]
        rw [partR_stuck cur c h' hs]
        unfold okC at hok'
        simp only [Bool.or_eq_false_iff] at hok'
        rw [if_neg (by simp [hok'.1.1, hok'.1.2]), if_neg (by rw [hok'.2]; simp)]
        simp
theorem form_all (ns : List Int) : NC.formL true ns = (splitQ ns).all (partR true) := by
  have := form_parts ns [] (fun h => absurd rfl h)
  rw [prep_nil] at this
  exact this
theorem splitQ_sub (l : List Int) : ∀ p ∈ splitQ l, p.length ≤ l.length := by
  induction l with
  | nil => intro p hp; simp [splitQ] at hp; simp [hp]
  | cons c r ih =>
    intro p hp
    unfold splitQ at hp
    split at hp
    · rcases List.mem_cons.1 hp with rfl | hp
      · simp
      · have := ih p hp; simp; omega
    · obtain ⟨h, t, e⟩ := splitQ_head r
      rw [e] at hp
      simp only [prep] at hp
      rcases List.mem_cons.1 hp with rfl | hp
      · have := ih h (by rw [e]; exact List.mem_cons_self)
        simp; omega
      · have := ih p (by rw [e]; exact List.mem_cons_of_mem _ hp)
        simp; omega
theorem ref_Check_l (L : List Int) (P : List (List Int)) (hP : ∀ p ∈ P, p.length ≤ 40000) (hl : P.length ≤ 1000000000) : ∀ (d i k : Nat), P.length - i ≤ d → d + 40005 ≤ k → i ≤ P.length →
    caduceusref02_Check.l0 k L P (i : Int) = some (if (P.drop i).all (partR true) = true then (if 40 < L.length ∨ 5 < P.length then 2 else 0) else 3) := by
  have fin : ∀ k : Nat, (if (L.length : Int) > 40 then (some 2) else (if (P.length : Int) > 5 then (some 2) else (some 0)) : Option Int) = some (if 40 < L.length ∨ 5 < P.length then 2 else 0) := by
    intro k
    by_cases h1 : 40 < L.length
    · rw [if_pos (by omega), if_pos (Or.inl h1)]
    · rw [if_neg (by omega)]
      by_cases h2 : 5 < P.length
      · rw [if_pos (by omega), if_pos (Or.inr h2)]
      · rw [if_neg (by omega), if_neg (by omega)]
  intro d
  induction d with
  | zero =>
    intro i k hd hk hi
    obtain ⟨k, rfl⟩ : ∃ m, k = m + 1 := ⟨k - 1, by omega⟩
    rw [caduceusref02_Check.l0, if_neg (by omega), List.drop_eq_nil_of_le (by omega), fin 0]
    simp
  | succ d ih =>
    intro i k hd hk hi
    obtain ⟨k, rfl⟩ : ∃ m, k = m + 1 := ⟨k - 1, by omega⟩
    by_cases hlt : i < P.length
    · have hr : rd_L8 P (i : Int) = P[i] := by simp [rd_L8, List.getD_eq_getElem?_getD, hlt]
      have hw : wrap64 ((i : Int) + 1) = ((i + 1 : Nat) : Int) := by rw [wr _ (by omega) (by omega)]; omega
      have hp := hP _ (List.getElem_mem hlt)
      rw [caduceusref02_Check.l0, if_pos (by omega), if_pos (by omega), hr, ref_part_is _ (by omega) k (by omega), Option.bind_some, List.drop_eq_getElem_cons hlt]
      rw [List.all_cons]
      by_cases hb : partR true P[i] = true
      · rw [if_pos hb, hw, ih _ _ (by omega) (by omega) (by omega), hb, Bool.true_and]
      · have hb' : partR true P[i] = false := by simpa using hb
        rw [if_neg hb, hb', Bool.false_and, if_neg (by decide)]
    · rw [caduceusref02_Check.l0, if_neg (by omega), List.drop_eq_nil_of_le (by omega), fin 0]
      simp
theorem ref_Check_is (s : ByteArray) (hs : s.size ≤ 40000) (k : Nat) (hk : 130000 ≤ k) : caduceusref02_Check.f k s = some (chk s.data.toList) := by
  obtain ⟨k, rfl⟩ : ∃ m, k = m + 1 := ⟨k - 1, by omega⟩
  unfold caduceusref02_Check.f chk
  rw [toList_data]
  by_cases he : s.data.toList = []
  · rw [if_pos he, he, caduceusref02_Check.j0, if_pos rfl]
    rfl
  · rw [if_neg he, ref_Valid_is s (by omega) _ (by omega), Option.bind_some, caduceusref02_Check.j0]
    have he2 : s.data.toList.isEmpty = false := by cases hq : s.data.toList with | nil => exact absurd hq he | cons a b => rfl
    rw [he2]
    by_cases hv : validD s.data.toList = true
    · rw [hv, Bool.not_true, if_neg (by decide), ref_Runes_is s (by omega) _ (by omega) hv, Option.bind_some]
      have hl := rD_len s
      rw [ref_Split_is _ (by omega) _ (by omega), Option.bind_some]
      have hsl := splitQ_len (rD s.data.toList)
      have hcl := List.count_le_length (a := (46 : Int)) (l := rD s.data.toList)
      have := ref_Check_l (rD s.data.toList) (splitQ (rD s.data.toList)) (fun p hp => by have := splitQ_sub _ p hp; omega) (by omega) (splitQ (rD s.data.toList)).length 0 k (by omega) (by omega) (by omega)
      rw [List.drop_zero] at this
      refine (show caduceusref02_Check.l0 k (rD s.data.toList) (splitQ (rD s.data.toList)) 0 = _ from this).trans ?_
      rw [form_all, hsl]
      simp only [Bool.not_false, Bool.true_and]
      congr 1
      by_cases hf : (splitQ (rD s.data.toList)).all (partR true) = true
      · rw [if_pos hf, if_pos hf]
        by_cases h1 : 40 < (rD s.data.toList).length ∨ 5 < (rD s.data.toList).count 46 + 1
        · rw [if_pos h1, if_pos (by omega)]
        · rw [if_neg h1, if_neg (by omega)]
      · rw [if_neg hf, if_neg hf]
    · have hv' : validD s.data.toList = false := by simpa using hv
      rw [hv', Bool.not_false, if_pos rfl]
      simp
end Go.Proofs.YtmcochnofkjhaaaDoor.NQ

namespace Go.Proofs.YtmcochnofkjhaaaDoor.NQ
open Go.RowKit Go.Lib Go.Proofs.YtmcochnofkjhaaaDoor.PAll Go.Proofs.YtmcochnofkjhaaaDoorW.PrintWords Go.Proofs.YtmcochnofkjhaaaDoorW.PrintLast Go.Proofs.YtmcochnofkjhaaaDoorW.PrintMore
set_option linter.unusedVariables false
set_option linter.unusedSimpArgs false
/-! ### folding -/
/-- The folded bytes. -/
def foldL (l : List UInt8) : List UInt8 := if validD l = true then encL ((rD l).map NC.smallZ) else l
theorem fold_data (s : ByteArray) : (NC.foldB s).data.toList = foldL s.data.toList := fold_list s
/-! ### orders -/
/-- How two lists of bytes stand, folded. -/
def cmpV (x y : List UInt8) : Int :=
  if validD x = true ∧ validD y = true then NC.cmpL (rD x) (rD y) else NC.cmpL (x.map fun b => (b.toNat : Int)) (y.map fun b => (b.toNat : Int))
theorem cmpRune_is (a b : Int) : cmp_Compare_rune.f a b = some (if a < b then -1 else if a > b then 1 else 0) := by
  unfold cmp_Compare_rune.f cmp_isNaN_rune.f
  simp
  repeat' split
  all_goals first | rfl | omega
theorem slices_Compare_l (l m : List Int) (hl : l.length ≤ 1000000000) (hm : m.length ≤ 1000000000) : ∀ (d i k : Nat), l.length - i ≤ d → d + 1 ≤ k → i ≤ l.length → i ≤ m.length →
    slices_Compare_rune_rune.l0 k l m l (l.length : Int) (i : Int) = some (NC.cmpL (l.drop i) (m.drop i)) := by
  intro d
  induction d with
  | zero =>
    intro i k hd hk hi him
    obtain ⟨k, rfl⟩ : ∃ m, k = m + 1 := ⟨k - 1, by omega⟩
    rw [slices_Compare_rune_rune.l0, if_neg (by omega), NC.cmpL_lens l m i (Or.inl (by omega)) hi him]
    by_cases h : l.length < m.length
    · rw [if_pos (by omega), if_pos h]
    · rw [if_neg (by omega), if_neg h, if_neg (by omega)]
  | succ d ih =>
    intro i k hd hk hi him
    obtain ⟨k, rfl⟩ : ∃ m, k = m + 1 := ⟨k - 1, by omega⟩
    by_cases hlt : i < l.length
    · have hw : wrap64 ((i : Int) + 1) = ((i + 1 : Nat) : Int) := by rw [wr _ (by omega) (by omega)]; omega
      rw [slices_Compare_rune_rune.l0, if_pos (by omega), if_pos (by omega), if_pos (by omega)]
      by_cases hme : i < m.length
      · have hr : rd l (i : Int) = l.getD i 0 := by simp [rd]
        have hr2 : rd m (i : Int) = m.getD i 0 := by simp [rd]
        rw [if_neg (by omega), if_pos (by omega), cmpRune_is, Option.bind_some, hr, hr2, NC.cmpL_step l m i hlt hme]
        by_cases c1 : l.getD i 0 < m.getD i 0
        · rw [if_pos c1, if_pos c1, if_neg (by decide)]
        · rw [if_neg c1, if_neg c1]
          by_cases c2 : l.getD i 0 > m.getD i 0
          · rw [if_pos c2, if_pos c2, if_neg (by decide)]
          · rw [if_neg c2, if_neg c2, if_pos rfl, hw, ih _ _ (by omega) (by omega) (by omega) (by omega)]
      · rw [if_pos (by omega), NC.cmpL_lens l m i (Or.inr (by omega)) hi him, if_neg (by omega), if_pos (by omega)]
    · rw [slices_Compare_rune_rune.l0, if_neg (by omega), NC.cmpL_lens l m i (Or.inl (by omega)) hi him]
      by_cases h : l.length < m.length
      · rw [if_pos (by omega), if_pos h]
      · rw [if_neg (by omega), if_neg h, if_neg (by omega)]
theorem slices_Compare_is (l m : List Int) (hl : l.length ≤ 1000000000) (hm : m.length ≤ 1000000000) (k : Nat) (hk : l.length + 1 ≤ k) : slices_Compare_rune_rune.f k l m = some (NC.cmpL l m) := by
  have := slices_Compare_l l m hl hm l.length 0 k (by omega) hk (by omega) (by omega)
  rw [List.drop_zero, List.drop_zero] at this
  exact this
theorem bytesLess_cmp : ∀ x y : List UInt8, (if Op.bytesLess x y = true then (-1 : Int) else if (x == y) = true then 0 else 1) = NC.cmpL (x.map fun b => (b.toNat : Int)) (y.map fun b => (b.toNat : Int)) := by
  intro x
  induction x with
  | nil => intro y; cases y <;> simp [Op.bytesLess, NC.cmpL]
  | cons a r ih =>
    intro y
    cases y with
    | nil => simp [Op.bytesLess, NC.cmpL]
    | cons b q =>
      rw [List.map_cons, List.map_cons, NC.cmpL, ← ih q, Op.bytesLess]
      by_cases h1 : a < b
      · have : (a.toNat : Int) < (b.toNat : Int) := by have := UInt8.lt_iff_toNat_lt.1 h1; omega
        rw [if_pos this]
        simp [h1]
      · have n1 : ¬ (a.toNat : Int) < (b.toNat : Int) := fun h => h1 (UInt8.lt_iff_toNat_lt.2 (by omega))
        rw [if_neg n1]
        by_cases h2 : a = b
        · subst h2
          rw [if_neg (show ¬ ((a.toNat : Int) > (a.toNat : Int)) from Int.lt_irrefl _)]
          have e1 : (decide (a < a) || (a == a && Op.bytesLess r q)) = Op.bytesLess r q := by simp [h1]
          have e2 : ((a :: r) == (a :: q)) = (r == q) := by rw [Bool.eq_iff_iff]; simp
          rw [e1, e2]
        · have h3 : (a.toNat : Int) > (b.toNat : Int) := by
            have : a.toNat ≠ b.toNat := fun e => h2 (UInt8.toNat_inj.1 e)
            omega
          rw [if_pos h3]
          simp [h1, h2]
theorem name_Compare_is (a b : ByteArray) (ha : a.size ≤ 100000000) (hb : b.size ≤ 100000000) (k : Nat) (hk : 4 * a.size + 1 ≤ k) : name_Compare.f k a b = some (cmpV (foldL a.data.toList) (foldL b.data.toList)) := by
  unfold name_Compare.f cmpV
  have za := fold_size a
  have zb := fold_size b
  have la := rD_len (NC.foldB a)
  have lb := rD_len (NC.foldB b)
  rw [if_pos (by omega), if_pos (by omega), runes_rD, runes_rD, ← fold_data, ← fold_data]
  have hc : ∀ x y : ByteArray, cmp_Compare_string.f x y = some (NC.cmpL (x.data.toList.map fun b => (b.toNat : Int)) (y.data.toList.map fun b => (b.toNat : Int))) := by
    intro x y
    unfold cmp_Compare_string.f
    rw [toList_data, toList_data, ← bytesLess_cmp]
    split
    · rfl
    · split <;> rfl
  by_cases h1 : validD (NC.foldB a).data.toList = true
  · rw [if_pos h1]
    by_cases h2 : validD (NC.foldB b).data.toList = true
    · rw [if_pos h2, if_pos ⟨h1, h2⟩, slices_Compare_is _ _ (by omega) (by omega) k (by omega)]
    · rw [if_neg h2, if_neg (fun h => h2 h.2), hc]
  · rw [if_neg h1, if_neg (fun h => h1 h.1), hc]
theorem ref_Compare_is (a b : ByteArray) (ha : a.size ≤ 100000000) (hb : b.size ≤ 100000000) (k : Nat) (hk : 4 * a.size + 5 ≤ k) (hk2 : 4 * b.size + 5 ≤ k) : caduceusref02_Compare.f k a b = some (cmpV (foldL a.data.toList) (foldL b.data.toList)) := by
  unfold caduceusref02_Compare.f cmpV
  have za := fold_size a
  have zb := fold_size b
  rw [ref_Fold_is a (by omega) k (by omega), Option.bind_some, ref_Fold_is b (by omega) k (by omega), Option.bind_some, if_pos (by omega), if_pos (by omega), ref_Valid_is _ (by omega) k (by omega), Option.bind_some, ← fold_data, ← fold_data]
  have hb' : ∀ x : ByteArray, bytesOf x = x.data.toList.map fun b => (b.toNat : Int) := fun _ => rfl
  by_cases h1 : validD (NC.foldB a).data.toList = true
  · rw [if_pos h1, ref_Valid_is _ (by omega) k (by omega), Option.bind_some]
    by_cases h2 : validD (NC.foldB b).data.toList = true
    · rw [if_pos h2, if_pos ⟨h1, h2⟩, ref_Runes_is _ (by omega) k (by omega) h1, Option.bind_some, ref_Runes_is _ (by omega) k (by omega) h2, Option.bind_some]
    · rw [if_neg h2, if_neg (fun h => h2 h.2), hb', hb']
  · rw [if_neg h1, if_neg (fun h => h1 h.1), hb', hb']
end Go.Proofs.YtmcochnofkjhaaaDoor.NQ

namespace Go.Proofs.YtmcochnofkjhaaaDoor.NQ
open Go.RowKit Go.Lib Go.Proofs.YtmcochnofkjhaaaDoor.PAll Go.Proofs.YtmcochnofkjhaaaDoorW.PrintWords Go.Proofs.YtmcochnofkjhaaaDoorW.PrintLast Go.Proofs.YtmcochnofkjhaaaDoorW.PrintMore
set_option linter.unusedVariables false
set_option linter.unusedSimpArgs false
/-- Bytes cut at each point. -/
def splitP : List UInt8 → List (List UInt8)
  | [] => [[]]
  | b :: l => if b = 46 then [] :: splitP l else prep [b] (splitP l)
theorem index_cons (b : UInt8) (l : List UInt8) : index (b :: l) [46] = if b = 46 then 0 else if index l [46] == -1 then -1 else index l [46] + 1 := by
  rw [index]
  by_cases h : b = 46
  · subst h; simp
  · have : ([46] : List UInt8).isPrefixOf (b :: l) = false := by simp [List.isPrefixOf, Ne.symm h]
    rw [this, if_neg h]
    simp
theorem index_ge : ∀ l : List UInt8, -1 ≤ index l [46] := by
  intro l
  induction l with
  | nil => decide
  | cons b l ih =>
    rw [index_cons]
    split
    · decide
    · split
      · decide
      · omega
theorem splitK_cons (b : UInt8) (hb : b ≠ 46) (l : List UInt8) : ∀ k, splitK [46] 0 k (b :: l) = prep [b] (splitK [46] 0 k l) := by
  intro k
  cases k with
  | zero => rfl
  | succ k =>
    have hg := index_ge l
    rw [splitK, splitK, index_cons, if_neg hb]
    by_cases h : (index l [46] == -1) = true
    · rw [if_pos h, if_pos h]
      rfl
    · rw [if_neg h, if_neg h]
      have h' : index l [46] ≠ -1 := by simpa using h
      obtain ⟨n, hn⟩ : ∃ n : Nat, index l [46] = n := ⟨(index l [46]).toNat, by omega⟩
      rw [hn]
      have h1 : ((n : Int) + 1 == -1) = false := by simp; omega
      rw [h1, if_neg (by decide)]
      have e1 : ((n : Int) + 1).toNat = n + 1 := by omega
      rw [e1, Int.toNat_natCast]
      simp [prep, List.take_succ_cons, Nat.add_right_comm]
theorem splitK_P : ∀ l : List UInt8, splitK [46] 0 (l.count 46) l = splitP l := by
  intro l
  induction l with
  | nil => rfl
  | cons b l ih =>
    unfold splitP
    by_cases h : b = 46
    · subst h
      rw [if_pos rfl, List.count_cons_self, splitK, index_cons, if_pos rfl, if_neg (by decide)]
      simp only [Int.toNat_zero, Nat.zero_add, List.take_zero, List.length_cons, List.length_nil, Nat.reduceAdd, List.drop_one, List.tail_cons]
      rw [ih]
    · rw [if_neg h, List.count_cons_of_ne (by simpa using h), splitK_cons b h, ih]
theorem splitP_app (bs l : List UInt8) (h : (46 : UInt8) ∉ bs) : splitP (bs ++ l) = prep bs (splitP l) := by
  induction bs with
  | nil => rw [List.nil_append, prep_nil]
  | cons b bs ih =>
    have hb : b ≠ 46 := fun e => h (by rw [e]; exact List.mem_cons_self)
    rw [List.cons_append, splitP, if_neg hb, ih (fun e => h (List.mem_cons_of_mem _ e)), prep_prep]
    rfl
theorem splitP_enc (ns : List Int) (h : ∀ c ∈ ns, okR c) : splitP (encL ns) = (splitQ ns).map encL := by
  induction ns with
  | nil => rfl
  | cons c r ih =>
    have ih := ih fun x hx => h x (List.mem_cons_of_mem _ hx)
    have hc := h c List.mem_cons_self
    rw [encL_cons]
    unfold splitQ
    by_cases h46 : c = 46
    · subst h46
      rw [enc_46, if_pos rfl, List.cons_append, List.nil_append, splitP, if_pos rfl, ih]
      rfl
    · rw [if_neg h46, splitP_app _ _ (enc46 c hc h46), ih]
      obtain ⟨a, t, e⟩ := splitQ_head r
      rw [e]
      simp [prep, encL]
/-- A name's parts. -/
def partsB (s : ByteArray) : List ByteArray := if chk s.data.toList = 0 then Lib.splitB ⟨#[46]⟩ 0 (Lib.countB s ⟨#[46]⟩) s else []
theorem name_Parts_is (s : ByteArray) (hs : s.size ≤ 1000000) : name_Parts.f s = some (partsB s) := by
  unfold name_Parts.f partsB strings_Split.f
  rw [name_Check_is s (by omega), Option.bind_some]
  by_cases h : chk s.data.toList = 0
  · rw [if_pos h, if_pos h, if_pos rfl, if_pos (by omega), Option.bind_some]
  · rw [if_neg h, if_neg h]
theorem chk_valid' (l : List UInt8) (h : chk l = 0) : l ≠ [] ∧ validD l = true ∧ NC.formL true (rD l) = true ∧ (rD l).length ≤ 40 ∧ (rD l).count 46 ≤ 4 := by
  unfold chk at h
  by_cases hf : (!l.isEmpty && validD l && NC.formL true (rD l)) = true
  · rw [if_pos hf] at h
    simp only [Bool.and_eq_true] at hf
    refine ⟨?_, hf.1.2, hf.2, ?_, ?_⟩
    · have := hf.1.1
      cases l with
      | nil => simp at this
      | cons a b => simp
    · by_cases h1 : 40 < (rD l).length ∨ 5 ≤ (rD l).count 46
      · rw [if_pos h1] at h; cases h
      · omega
    · by_cases h1 : 40 < (rD l).length ∨ 5 ≤ (rD l).count 46
      · rw [if_pos h1] at h; cases h
      · omega
  · rw [if_neg hf] at h
    cases h
theorem partsB_data (s : ByteArray) (h : chk s.data.toList = 0) : (partsB s).map (·.data.toList) = (splitQ (rD s.data.toList)).map encL := by
  obtain ⟨_, hv, _, _, _⟩ := chk_valid' _ h
  unfold partsB
  rw [if_pos h, splitB_data]
  have hc : Lib.countB s ⟨#[46]⟩ = s.data.toList.count 46 := count_one 46 s.data.toList
  rw [hc]
  show splitK [46] 0 _ _ = _
  rw [splitK_P, ← splitP_enc _ (rD_ok _ hv), dec_enc_all _ hv]
theorem ba_map : ∀ a b : List ByteArray, a.map (·.data.toList) = b.map (·.data.toList) → a = b := by
  intro a
  induction a with
  | nil => intro b h; cases b with | nil => rfl | cons x y => simp at h
  | cons x r ih =>
    intro b h
    cases b with
    | nil => simp at h
    | cons y q =>
      simp only [List.map_cons, List.cons.injEq] at h
      rw [ba_ext h.1, ih q h.2]
end Go.Proofs.YtmcochnofkjhaaaDoor.NQ

namespace Go.Proofs.YtmcochnofkjhaaaDoor.NQ
open Go.RowKit Go.Lib Go.Proofs.YtmcochnofkjhaaaDoor.PAll Go.Proofs.YtmcochnofkjhaaaDoorW.PrintWords Go.Proofs.YtmcochnofkjhaaaDoorW.PrintLast Go.Proofs.YtmcochnofkjhaaaDoorW.PrintMore
set_option linter.unusedVariables false
set_option linter.unusedSimpArgs false
theorem ref_Parts_l1 (P : List (List Int)) (hl : P.length ≤ 100) (hP : ∀ p ∈ P, p.length ≤ 100 ∧ ∀ c ∈ p, okR c) (out : List ByteArray) (ho : out.length ≤ 200) (i : Nat) (hi : i < P.length) : ∀ (d j k : Nat) (t : ByteArray), P[i].length - j ≤ d → d + 2 ≤ k → j ≤ P[i].length → t.size ≤ 4 * j →
    ∃ b : ByteArray, b.data.toList = t.data.toList ++ encL (P[i].drop j) ∧ ∀ (m : Nat) (r : List ByteArray), m + d + 1 ≤ k → caduceusref02_Parts.l0 m P (out ++ [b]) ((i + 1 : Nat) : Int) = some r → caduceusref02_Parts.l1 k P out (i : Int) t (j : Int) = some r := by
  have hw : wrap64 ((i : Int) + 1) = ((i + 1 : Nat) : Int) := by rw [wr _ (by omega) (by omega)]; omega
  have hr : rd_L8 P (i : Int) = P[i] := by simp [rd_L8, List.getD_eq_getElem?_getD, hi]
  have hp := hP _ (List.getElem_mem hi)
  intro d
  induction d with
  | zero =>
    intro j k t hd hk hj ht
    obtain ⟨k, rfl⟩ : ∃ m, k = m + 1 := ⟨k - 1, by omega⟩
    refine ⟨t, by rw [List.drop_eq_nil_of_le (by omega)]; simp [encL], fun m r hm h => ?_⟩
    rw [caduceusref02_Parts.l1, if_pos (by omega), if_pos (by omega), hr, if_neg (by omega), if_pos (by omega), hw]
    exact at_rounds (g := fun k => caduceusref02_Parts.l0 k P (out ++ [t]) ((i + 1 : Nat) : Int)) (fun k => (caduceusref02_Parts.mono_l k).1 P (out ++ [t]) _) (by omega) h
  | succ d ih =>
    intro j k t hd hk hj ht
    obtain ⟨k, rfl⟩ : ∃ m, k = m + 1 := ⟨k - 1, by omega⟩
    by_cases hlt : j < P[i].length
    · have hc := hp.2 _ (List.getElem_mem hlt)
      obtain ⟨x, hx, hxl⟩ := ref_Bytes_is _ hc
      have hxs : x.size ≤ 4 := by rw [size_eq, hxl]; exact enc_len4 _
      have hos : (t ++ x).size = t.size + x.size := ByteArray.size_append
      have hsz : (t ++ x).size ≤ 4 * (j + 1) := by rw [hos]; clear ih hx hxl hos hc hp; omega
      have hk1 : d + 2 ≤ k := by clear ih hx hxl hos hsz hc hp; omega
      have hd1 : P[i].length - (j + 1) ≤ d := by clear ih hx hxl hos hsz hc hp; omega
      have q1 : (0 : Int) ≤ (i : Int) := Int.natCast_nonneg _
      have q2 : (i : Int) < (P.length : Int) := Int.ofNat_lt.2 hi
      have q3 : (j : Int) < (P[i].length : Int) := Int.ofNat_lt.2 hlt
      have q4 : (0 : Int) ≤ (j : Int) := Int.natCast_nonneg _
      have q5 : t.size + x.size ≤ 9223372036854775807 := by clear ih hx hxl hos hsz hc; have := hp.1; clear hp; omega
      have q6 : ∀ m, m + (d + 1) + 1 ≤ k + 1 → m + d + 1 ≤ k := fun m h => by clear ih hx hxl hos hsz hc hp; omega
      have htx : (t ++ x).data.toList = t.data.toList ++ x.data.toList := by simp
      obtain ⟨b, hb, h2⟩ := ih (j + 1) k (t ++ x) hd1 hk1 hlt hsz
      clear hos hsz ih
      have hwj : wrap64 ((j : Int) + 1) = ((j + 1 : Nat) : Int) := by rw [wr _ (by omega) (by omega)]; omega
      have hrj : rd P[i] (j : Int) = P[i][j] := by simp [rd, List.getD_eq_getElem?_getD, hlt]
      refine ⟨b, ?_, fun m r hm h => ?_⟩
      · rw [hb, List.drop_eq_getElem_cons hlt, encL_cons, htx, hxl, List.append_assoc]
      · rw [caduceusref02_Parts.l1, if_pos q1, if_pos q2, hr, if_pos q3, if_pos q4, hrj, hx, Option.bind_some, if_pos q5, hwj]
        exact h2 m r (q6 m hm) h
    · refine ⟨t, by rw [List.drop_eq_nil_of_le (by omega)]; simp [encL], fun m r hm h => ?_⟩
      rw [caduceusref02_Parts.l1, if_pos (by omega), if_pos (by omega), hr, if_neg (by omega), if_pos (by omega), hw]
      exact at_rounds (g := fun k => caduceusref02_Parts.l0 k P (out ++ [t]) ((i + 1 : Nat) : Int)) (fun k => (caduceusref02_Parts.mono_l k).1 P (out ++ [t]) _) (by omega) h
theorem ref_Parts_l0 (P : List (List Int)) (hl : P.length ≤ 100) (hP : ∀ p ∈ P, p.length ≤ 100 ∧ ∀ c ∈ p, okR c) : ∀ (d i k : Nat) (out : List ByteArray), P.length - i ≤ d → 200 * d + 200 ≤ k → i ≤ P.length → out.length = i →
    ∃ r, caduceusref02_Parts.l0 k P out (i : Int) = some r ∧ r.map (·.data.toList) = out.map (·.data.toList) ++ (P.drop i).map encL := by
  intro d
  induction d with
  | zero =>
    intro i k out hd hk hi ho
    obtain ⟨k, rfl⟩ : ∃ m, k = m + 1 := ⟨k - 1, by omega⟩
    rw [caduceusref02_Parts.l0, if_neg (by omega)]
    exact ⟨_, rfl, by rw [List.drop_eq_nil_of_le (by omega)]; simp⟩
  | succ d ih =>
    intro i k out hd hk hi ho
    obtain ⟨k, rfl⟩ : ∃ m, k = m + 1 := ⟨k - 1, by omega⟩
    by_cases hlt : i < P.length
    · have hp := (hP _ (List.getElem_mem hlt)).1
      obtain ⟨b, hb, h2⟩ := ref_Parts_l1 P hl hP out (by omega) i hlt P[i].length 0 k ⟨#[]⟩ (by omega) (by omega) (by omega) (by decide)
      obtain ⟨r, h3, h4⟩ := ih (i + 1) (k - P[i].length - 1) (out ++ [b]) (by omega) (by omega) (by omega) (by simp; omega)
      refine ⟨r, ?_, ?_⟩
      · rw [caduceusref02_Parts.l0, if_pos (by omega)]
        exact h2 _ r (by omega) h3
      · rw [h4, List.drop_eq_getElem_cons hlt, List.map_append, List.append_assoc, List.map_cons, List.map_cons, List.map_nil, hb]
        rfl
    · rw [caduceusref02_Parts.l0, if_neg (by omega)]
      exact ⟨_, rfl, by rw [List.drop_eq_nil_of_le (by omega)]; simp⟩
theorem splitQ_mem (l : List Int) : ∀ p ∈ splitQ l, ∀ c ∈ p, c ∈ l := by
  induction l with
  | nil => intro p hp; simp [splitQ] at hp; simp [hp]
  | cons a r ih =>
    intro p hp c hc
    unfold splitQ at hp
    split at hp
    · rcases List.mem_cons.1 hp with rfl | hp
      · cases hc
      · exact List.mem_cons_of_mem _ (ih p hp c hc)
    · obtain ⟨h, t, e⟩ := splitQ_head r
      rw [e] at hp
      simp only [prep] at hp
      rcases List.mem_cons.1 hp with rfl | hp
      · rcases List.mem_cons.1 hc with rfl | hc
        · exact List.mem_cons_self
        · exact List.mem_cons_of_mem _ (ih h (by rw [e]; exact List.mem_cons_self) c hc)
      · exact List.mem_cons_of_mem _ (ih p (by rw [e]; exact List.mem_cons_of_mem _ hp) c hc)
theorem ref_Parts_is (s : ByteArray) (hs : s.size ≤ 40000) (k : Nat) (hk : 130000 ≤ k) : caduceusref02_Parts.f k s = some (partsB s) := by
  unfold caduceusref02_Parts.f
  rw [ref_Check_is s hs k (by omega), Option.bind_some]
  by_cases h : chk s.data.toList = 0
  · obtain ⟨_, hv, _, h40, h4⟩ := chk_valid' _ h
    have hl := rD_len s
    have hsl := splitQ_len (rD s.data.toList)
    rw [if_pos h, ref_Runes_is s (by omega) k (by omega) hv, Option.bind_some, ref_Split_is _ (by omega) k (by omega), Option.bind_some]
    obtain ⟨r, h1, h2⟩ := ref_Parts_l0 (splitQ (rD s.data.toList)) (by omega) (fun p hp => ⟨by have := splitQ_sub _ p hp; omega, fun c hc => rD_ok _ hv c (splitQ_mem _ p hp c hc)⟩) (splitQ (rD s.data.toList)).length 0 k [] (by omega) (by omega) (by omega) rfl
    refine (show caduceusref02_Parts.l0 k _ [] 0 = some r from h1).trans ?_
    congr 1
    apply ba_map
    rw [h2, partsB_data s h]
    simp
  · rw [if_neg h]
    unfold partsB
    rw [if_neg h]
end Go.Proofs.YtmcochnofkjhaaaDoor.NQ
