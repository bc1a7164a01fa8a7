/- The plain words on texts of the layer 'name': runes and bytes, there and back. -/
import Derived.Test.YtfmjhklejjohcaaDoorPAllx16
import Derived.Lib.MapLaws
import Derived.Lib.ValidAsc
import Derived.Lib.SplitLaws
namespace Go.Proofs.YtfmjhklejjohcaaDoor.NQ
open Go.RowKit Go.Lib Go.Proofs.YtfmjhklejjohcaaDoor.PAll Go.Proofs.YtfmjhklejjohcaaDoorW.PrintWords Go.Proofs.YtfmjhklejjohcaaDoorW.PrintLast Go.Proofs.YtfmjhklejjohcaaDoorW.PrintMore
set_option linter.unusedVariables false
set_option linter.unusedSimpArgs false
/-! ### the runes of a list of bytes -/
def rL : Nat → List UInt8 → List Int
  | 0, _ => []
  | f + 1, l => if l = [] then [] else ((decodeL l).1 : Int) :: rL f (l.drop (decodeL l).2)
def rD (l : List UInt8) : List Int := rL l.length l
theorem rL_nil : ∀ n, rL n [] = []
  | 0 => rfl
  | _ + 1 => by simp [rL]
theorem rL_fuel : ∀ (n m : Nat) (l : List UInt8), l.length ≤ n → l.length ≤ m → rL n l = rL m l
  | 0, m, l, hn, _ => by
    have : l = [] := List.eq_nil_of_length_eq_zero (by omega)
    subst this
    rw [rL_nil, rL_nil]
  | n + 1, 0, l, _, hm => by
    have : l = [] := List.eq_nil_of_length_eq_zero (by omega)
    subst this
    rw [rL_nil, rL_nil]
  | n + 1, m + 1, l, hn, hm => by
    by_cases hne : l = []
    · subst hne
      rw [rL_nil, rL_nil]
    · have hw := decodeL_width l
      have hl : 0 < l.length := List.length_pos_iff.2 hne
      simp only [rL, if_neg hne]
      rw [rL_fuel n m _ (by rw [List.length_drop]; omega) (by rw [List.length_drop]; omega)]
theorem rD_nil : rD [] = [] := rfl
theorem rD_step (l : List UInt8) (hne : l ≠ []) : rD l = ((decodeL l).1 : Int) :: rD (l.drop (decodeL l).2) := by
  have hw := decodeL_width l
  have hl : 0 < l.length := List.length_pos_iff.2 hne
  unfold rD
  obtain ⟨n, hn⟩ : ∃ n, l.length = n + 1 := ⟨l.length - 1, by omega⟩
  rw [hn]
  simp only [rL, if_neg hne]
  rw [rL_fuel n _ _ (by rw [List.length_drop]; omega) (Nat.le_refl _)]
theorem drop_ne (s : ByteArray) (i : Nat) (h : i < s.size) : s.data.toList.drop i ≠ [] := by
  intro h0
  have := congrArg List.length h0
  rw [List.length_drop, ← size_eq] at this
  simp at this
  omega
theorem runesL_rL (s : ByteArray) : ∀ f i, NC.runesL s f i = rL f (s.data.toList.drop i)
  | 0, _ => rfl
  | f + 1, i => by
    by_cases hi : i < s.size
    · simp only [NC.runesL, rL, if_pos hi, if_neg (drop_ne s i hi)]
      rw [runesL_rL s f, decodeL_drop, List.drop_drop]
    · have : s.data.toList.drop i = [] := List.drop_eq_nil_of_le (by rw [← size_eq]; omega)
      rw [this, NC.runesL_end s _ i hi, rL_nil]
theorem runes_rD (s : ByteArray) : NC.runes s = rD s.data.toList := by
  unfold NC.runes rD
  rw [runesL_rL, List.drop_zero, size_eq]
/-! ### what is UTF-8 -/
def bad (l : List UInt8) : Bool := decide ((decodeL l).1 = 65533 ∧ (decodeL l).2 = 1)
theorem bad_iff (l : List UInt8) : bad l = true ↔ (decodeL l).1 = 65533 ∧ (decodeL l).2 = 1 := by unfold bad; rw [decide_eq_true_iff]
theorem vG_nil : ∀ n, validGoD n [] = true
  | 0 => rfl
  | _ + 1 => by simp [validGoD]
theorem vG_fuel : ∀ (n m : Nat) (l : List UInt8), l.length ≤ n → l.length ≤ m → validGoD n l = validGoD m l
  | 0, m, l, hn, _ => by
    have : l = [] := List.eq_nil_of_length_eq_zero (by omega)
    subst this
    rw [vG_nil, vG_nil]
  | n + 1, 0, l, _, hm => by
    have : l = [] := List.eq_nil_of_length_eq_zero (by omega)
    subst this
    rw [vG_nil, vG_nil]
  | n + 1, m + 1, l, hn, hm => by
    by_cases hne : l = []
    · subst hne
      rw [vG_nil, vG_nil]
    · have hw := decodeL_width l
      have hl : 0 < l.length := List.length_pos_iff.2 hne
      simp only [validGoD, if_neg hne]
      rw [vG_fuel n m _ (by rw [List.length_drop]; omega) (by rw [List.length_drop]; omega)]
theorem v_nil : validD [] = true := rfl
theorem v_step (l : List UInt8) (hne : l ≠ []) : validD l = if bad l = true then false else validD (l.drop (decodeL l).2) := by
  have hw := decodeL_width l
  have hl : 0 < l.length := List.length_pos_iff.2 hne
  unfold validD
  simp only [bad_iff]
  obtain ⟨n, hn⟩ : ∃ n, l.length = n + 1 := ⟨l.length - 1, by omega⟩
  rw [hn]
  simp only [validGoD, if_neg hne]
  rw [vG_fuel n _ _ (by rw [List.length_drop]; omega) (Nat.le_refl _)]
/-- What a rune may be. -/
def okR (c : Int) : Prop := 0 ≤ c ∧ (c < 55296 ∨ 57344 ≤ c) ∧ c ≤ 1114111
theorem dec_ok (l : List UInt8) (hne : l ≠ []) (hb : ¬ bad l = true) : okR ((decodeL l).1 : Int) := by
  rw [bad_iff] at hb
  unfold okR
  rw [decodeL_N] at hb ⊢
  have k0 := (l.getD 0 0).toNat_lt
  have k1 := (l.getD 1 0).toNat_lt
  have k2 := (l.getD 2 0).toNat_lt
  have k3 := (l.getD 3 0).toNat_lt
  rcases decodeN_shape l.length (l.getD 0 0).toNat (l.getD 1 0).toNat (l.getD 2 0).toNat (l.getD 3 0).toNat with ⟨c, e⟩ | ⟨c1, c2, c3, cv, e⟩ | ⟨c1, c2, c3, c4, cv, cs, e⟩ | ⟨c1, c2, c3, c4, c5, cv, cw, e⟩ | e
  all_goals (rw [e] at hb ⊢; dsimp only at hb ⊢)
  · omega
  · omega
  · omega
  · omega
  · exact absurd ⟨rfl, rfl⟩ hb
/-- The bytes of runes. -/
def encL (ns : List Int) : List UInt8 := ns.flatMap encodeRune
theorem encL_cons (c : Int) (ns : List Int) : encL (c :: ns) = encodeRune c ++ encL ns := rfl
theorem encL_append (a b : List Int) : encL (a ++ b) = encL a ++ encL b := by simp [encL]
theorem enc_len (c : Int) : 1 ≤ (encodeRune c).length := by
  unfold encodeRune
  rw [List.length_map]
  exact (encodeRuneZ_length c).1
theorem u8nat (z : Int) (h0 : 0 ≤ z) (h1 : z < 256) : (z.toNat.toUInt8.toNat : Int) = z := by
  simp
  omega
theorem u8natN (z : Int) (h0 : 0 ≤ z) (h1 : z < 256) : z.toNat.toUInt8.toNat = z.toNat := by
  simp
  omega
theorem dec_enc (c : Int) (h : okR c) (rest : List UInt8) : decodeL (encodeRune c ++ rest) = (c.toNat, (encodeRune c).length) := by
  obtain ⟨h0, h1, h2⟩ := h
  rw [decodeL_N]
  by_cases a : c ≤ 127
  · have e : encodeRune c = [c.toNat.toUInt8] := by unfold encodeRune; rw [encodeRuneZ_one h0 a]; rfl
    rw [e]
    simp only [List.cons_append, List.nil_append, List.getD_cons_zero, List.length_cons, u8natN c h0 (by omega)]
    unfold decodeN
    rw [if_pos (by omega)]
    rfl
  · by_cases b : c ≤ 2047
    · have e : encodeRune c = [(192 + c / 64).toNat.toUInt8, (128 + c % 64).toNat.toUInt8] := by unfold encodeRune; rw [encodeRuneZ_two (by omega) b]; rfl
      rw [e]
      simp only [List.cons_append, List.nil_append, List.getD_cons_zero, List.getD_cons_succ, List.length_cons, List.length_nil, u8natN (192 + c / 64) (by omega) (by omega), u8natN (128 + c % 64) (by omega) (by omega)]
      unfold decodeN
      rw [if_neg (by omega), if_pos (by omega), if_pos (by omega)]
      apply Prod.ext
      · simp only; omega
      · rfl
    · by_cases d : c ≤ 65535
      · have e : encodeRune c = [(224 + c / 4096).toNat.toUInt8, (128 + c / 64 % 64).toNat.toUInt8, (128 + c % 64).toNat.toUInt8] := by unfold encodeRune; rw [encodeRuneZ_three (by omega)]; rfl
        rw [e]
        simp only [List.cons_append, List.nil_append, List.getD_cons_zero, List.getD_cons_succ, List.length_cons, List.length_nil, u8natN (224 + c / 4096) (by omega) (by omega), u8natN (128 + c / 64 % 64) (by omega) (by omega), u8natN (128 + c % 64) (by omega) (by omega)]
        unfold decodeN
        rw [if_neg (by omega), if_neg (by omega), if_pos (by omega), if_pos (by omega)]
        apply Prod.ext
        · simp only; omega
        · rfl
      · have e : encodeRune c = [(240 + c / 262144).toNat.toUInt8, (128 + c / 4096 % 64).toNat.toUInt8, (128 + c / 64 % 64).toNat.toUInt8, (128 + c % 64).toNat.toUInt8] := by unfold encodeRune; rw [encodeRuneZ_four (by omega) (by omega)]; rfl
        rw [e]
        simp only [List.cons_append, List.nil_append, List.getD_cons_zero, List.getD_cons_succ, List.length_cons, List.length_nil, u8natN (240 + c / 262144) (by omega) (by omega), u8natN (128 + c / 4096 % 64) (by omega) (by omega), u8natN (128 + c / 64 % 64) (by omega) (by omega), u8natN (128 + c % 64) (by omega) (by omega)]
        unfold decodeN
        rw [if_neg (by omega), if_neg (by omega), if_neg (by omega), if_pos (by omega), if_pos (by omega)]
        apply Prod.ext
        · simp only; omega
        · rfl
theorem enc_bad (c : Int) (h : okR c) (rest : List UInt8) : ¬ bad (encodeRune c ++ rest) = true := by
  rw [bad_iff, dec_enc c h rest]
  rintro ⟨h1, h2⟩
  have hc : c = 65533 := by have := h.1; omega
  subst hc
  revert h2
  decide
theorem enc_ne (c : Int) (rest : List UInt8) : encodeRune c ++ rest ≠ [] := by
  intro h
  have := congrArg List.length h
  have h1 := enc_len c
  simp at this
  rw [this.1] at h1
  simp at h1
theorem enc_all (ns : List Int) (h : ∀ c ∈ ns, okR c) : validD (encL ns) = true ∧ rD (encL ns) = ns := by
  induction ns with
  | nil => exact ⟨rfl, rfl⟩
  | cons c ns ih =>
    have hc := h c List.mem_cons_self
    have ih := ih fun x hx => h x (List.mem_cons_of_mem _ hx)
    rw [encL_cons]
    constructor
    · rw [v_step _ (enc_ne c _), if_neg (enc_bad c hc _), dec_enc c hc]
      simp only [List.drop_left]
      exact ih.1
    · rw [rD_step _ (enc_ne c _), dec_enc c hc]
      simp only [List.drop_left]
      rw [ih.2]
      have := hc.1
      congr 1
      omega
theorem dec_all : ∀ (n : Nat) (l : List UInt8), l.length ≤ n → validD l = true → encL (rD l) = l ∧ ∀ c ∈ rD l, okR c := by
  intro n
  induction n with
  | zero =>
    intro l hl _
    obtain rfl : l = [] := List.eq_nil_of_length_eq_zero (by omega)
    exact ⟨rfl, by simp [rD_nil]⟩
  | succ n ih =>
    intro l hl hv
    by_cases hne : l = []
    · subst hne
      exact ⟨rfl, by simp [rD_nil]⟩
    · rw [v_step l hne] at hv
      by_cases hb : bad l = true
      · rw [if_pos hb] at hv; cases hv
      · rw [if_neg hb] at hv
        have hw := decodeL_width l
        have hp : 0 < l.length := List.length_pos_iff.2 hne
        obtain ⟨h1, h2⟩ := ih (l.drop (decodeL l).2) (by rw [List.length_drop]; omega) hv
        rw [rD_step l hne]
        constructor
        · rw [encL_cons, h1, encode_decode l hne (fun h => hb ((bad_iff l).2 h)), List.take_append_drop]
        · intro c hc
          rcases List.mem_cons.1 hc with rfl | hc
          · exact dec_ok l hne hb
          · exact h2 c hc
theorem dec_enc_all (l : List UInt8) (hv : validD l = true) : encL (rD l) = l := (dec_all _ l (Nat.le_refl _) hv).1
theorem rD_ok (l : List UInt8) (hv : validD l = true) : ∀ c ∈ rD l, okR c := (dec_all _ l (Nat.le_refl _) hv).2
theorem encode_list (n : Int) : (Utf8.encode n).data.toList = encodeRune n := by
  have hb : ∀ m : Nat, UInt8.ofNat m = m.toUInt8 := fun _ => rfl
  unfold Utf8.encode Utf8.valid Utf8.runeError
  by_cases h : 0 ≤ n ∧ (n < 55296 ∨ 57344 ≤ n) ∧ n ≤ 1114111
  · obtain ⟨h0, h1, h2⟩ := h
    have hv : ((decide (0 ≤ n) && decide (n < 0xD800)) || (decide (0xE000 ≤ n) && decide (n ≤ 0x10FFFF))) = true := by
      simp only [Bool.or_eq_true, Bool.and_eq_true, decide_eq_true_eq]
      omega
    simp only [hv, if_true]
    unfold encodeRune
    by_cases a : n ≤ 127
    · rw [if_pos (by omega), encodeRuneZ_one h0 a]; rfl
    · by_cases b : n ≤ 2047
      · rw [if_neg (by omega), if_pos (by omega), encodeRuneZ_two (by omega) b]
        simp only [List.map_cons, List.map_nil, hb]
        rw [show (192 + n / 64).toNat = 192 + n.toNat / 64 by omega, show (128 + n % 64).toNat = 128 + n.toNat % 64 by omega]
      · by_cases d : n ≤ 65535
        · rw [if_neg (by omega), if_neg (by omega), if_pos (by omega), encodeRuneZ_three (by omega)]
          simp only [List.map_cons, List.map_nil, hb]
          rw [show (224 + n / 4096).toNat = 224 + n.toNat / 4096 by omega, show (128 + n / 64 % 64).toNat = 128 + n.toNat / 64 % 64 by omega, show (128 + n % 64).toNat = 128 + n.toNat % 64 by omega]
        · rw [if_neg (by omega), if_neg (by omega), if_neg (by omega), encodeRuneZ_four (by omega) (by omega)]
          simp only [List.map_cons, List.map_nil, hb]
          rw [show (240 + n / 262144).toNat = 240 + n.toNat / 262144 by omega, show (128 + n / 4096 % 64).toNat = 128 + n.toNat / 4096 % 64 by omega, show (128 + n / 64 % 64).toNat = 128 + n.toNat / 64 % 64 by omega, show (128 + n % 64).toNat = 128 + n.toNat % 64 by omega]
  · have hv : ((decide (0 ≤ n) && decide (n < 0xD800)) || (decide (0xE000 ≤ n) && decide (n ≤ 0x10FFFF))) = false := by
      rw [Bool.eq_false_iff]
      intro hc
      simp only [Bool.or_eq_true, Bool.and_eq_true, decide_eq_true_eq] at hc
      omega
    simp only [hv, Bool.false_eq_true, if_false]
    unfold encodeRune
    rw [encodeRuneZ_bad (by omega)]
    rfl
theorem foldl_enc (ns : List Int) : ∀ s : ByteArray, (ns.foldl (fun r n => r ++ Utf8.encode n) s).data.toList = s.data.toList ++ encL ns := by
  induction ns with
  | nil => intro s; simp [encL]
  | cons n ns ih =>
    intro s
    rw [List.foldl_cons, ih, encL_cons]
    have : (s ++ Utf8.encode n).data.toList = s.data.toList ++ encodeRune n := by simp [encode_list]
    rw [this, List.append_assoc]
theorem runesBytes_list (ns : List Int) : (runesBytes ns).data.toList = encL ns := by
  unfold runesBytes
  rw [foldl_enc]
  simp
theorem ba_ext {a b : ByteArray} (h : a.data.toList = b.data.toList) : a = b := by
  cases a
  cases b
  simp at h
  simp [h]
/-! ### the document's runes -/
theorem toList_data (t : ByteArray) : t.toList = t.data.toList := by
  have h := extract_toList t 0 t.size
  rw [List.drop_zero, List.take_of_length_le (by rw [← size_eq]; omega)] at h
  rwa [show t.extract 0 t.size = t by apply ba_ext; rw [extract_data, List.drop_zero, List.take_of_length_le (by rw [← size_eq]; omega)]] at h
theorem wr (x : Int) (h0 : -9223372036854775808 ≤ x) (h1 : x ≤ 9223372036854775807) : wrap64 x = x := by unfold wrap64; omega
theorem bt_getD (t : ByteArray) (j : Nat) : bt t (j : Int) = ((t.data.toList.getD j 0).toNat : Int) := by
  unfold bt
  rw [Int.toNat_natCast]
  by_cases h : j < t.size
  · have h' : j < t.data.toList.length := by rw [← size_eq]; exact h
    rw [dif_pos h]
    simp [List.getD_eq_getElem?_getD, List.getElem?_eq_getElem h']
    rfl
  · have h' : t.data.toList.length ≤ j := by rw [← size_eq]; omega
    rw [dif_neg h]
    simp [List.getD_eq_getElem?_getD, List.getElem?_eq_none h']
theorem tail_is (t : ByteArray) (j : Nat) : caduceusref02_tail.f t (j : Int) = some (decide (j < t.size ∧ 128 ≤ (t.data.toList.getD j 0).toNat ∧ (t.data.toList.getD j 0).toNat < 192)) := by
  unfold caduceusref02_tail.f
  rw [bt_getD]
  by_cases h : j < t.size
  · rw [if_pos (by omega), if_pos (by omega)]
    by_cases h2 : 128 ≤ (t.data.toList.getD j 0).toNat
    · rw [if_pos (by omega)]
      exact congrArg some (decide_eq_decide.2 (by omega))
    · rw [if_neg (by omega)]
      exact congrArg some (decide_eq_false (by omega)).symm
  · rw [if_neg (by omega)]
    exact congrArg some (decide_eq_false (by omega)).symm
theorem e2 (a b : Int) (ha : 0 ≤ a ∧ a < 256) (hb : 0 ≤ b ∧ b < 256) : wrap64 ((wrap64 ((wrap64 (64 * (wrap64 (a - 192)))) + (wrap64 b))) - 128) = 64 * (a - 192) + b - 128 := by
  rw [wr (a - 192) (by omega) (by omega), wr (64 * (a - 192)) (by omega) (by omega), wr b (by omega) (by omega), wr (64 * (a - 192) + b) (by omega) (by omega), wr _ (by omega) (by omega)]
theorem e3 (a b c : Int) (ha : 0 ≤ a ∧ a < 256) (hb : 0 ≤ b ∧ b < 256) (hc : 0 ≤ c ∧ c < 256) : wrap64 ((wrap64 ((wrap64 ((wrap64 (4096 * (wrap64 (a - 224)))) + (wrap64 (64 * (wrap64 ((wrap64 b) - 128)))))) + (wrap64 c))) - 128) = 4096 * (a - 224) + 64 * (b - 128) + c - 128 := by
  rw [wr (a - 224) (by omega) (by omega), wr (4096 * (a - 224)) (by omega) (by omega), wr b (by omega) (by omega), wr (b - 128) (by omega) (by omega), wr (64 * (b - 128)) (by omega) (by omega), wr (4096 * (a - 224) + 64 * (b - 128)) (by omega) (by omega), wr c (by omega) (by omega), wr (4096 * (a - 224) + 64 * (b - 128) + c) (by omega) (by omega), wr _ (by omega) (by omega)]
theorem e4 (a b c d : Int) (ha : 0 ≤ a ∧ a < 256) (hb : 0 ≤ b ∧ b < 256) (hc : 0 ≤ c ∧ c < 256) (hd : 0 ≤ d ∧ d < 256) :
    wrap64 ((wrap64 ((wrap64 ((wrap64 ((wrap64 (262144 * (wrap64 (a - 240)))) + (wrap64 (4096 * (wrap64 ((wrap64 b) - 128)))))) + (wrap64 (64 * (wrap64 ((wrap64 c) - 128)))))) + (wrap64 d))) - 128) = 262144 * (a - 240) + 4096 * (b - 128) + 64 * (c - 128) + d - 128 := by
  rw [wr (a - 240) (by omega) (by omega), wr (262144 * (a - 240)) (by omega) (by omega), wr b (by omega) (by omega), wr (b - 128) (by omega) (by omega), wr (4096 * (b - 128)) (by omega) (by omega), wr (262144 * (a - 240) + 4096 * (b - 128)) (by omega) (by omega), wr c (by omega) (by omega), wr (c - 128) (by omega) (by omega), wr (64 * (c - 128)) (by omega) (by omega), wr (262144 * (a - 240) + 4096 * (b - 128) + 64 * (c - 128)) (by omega) (by omega), wr d (by omega) (by omega), wr (262144 * (a - 240) + 4096 * (b - 128) + 64 * (c - 128) + d) (by omega) (by omega), wr _ (by omega) (by omega)]
set_option maxHeartbeats 4000000 in
set_option maxRecDepth 100000 in
theorem first_is (t : ByteArray) (hne : t.data.toList ≠ []) (k : Nat) (hk : 4 ≤ k) :
    caduceusref02_First.f k t = some (if bad t.data.toList = true then (0, 0) else (((decodeL t.data.toList).1 : Int), ((decodeL t.data.toList).2 : Int))) := by
  obtain ⟨k, rfl⟩ : ∃ m, k = m + 4 := ⟨k - 4, by omega⟩
  have hn : 0 < t.data.toList.length := List.length_pos_iff.2 hne
  have hsz : t.size = t.data.toList.length := size_eq t
  have hT : t.toList ≠ [] := by
    rw [toList_data]
    exact hne
  unfold caduceusref02_First.f
  simp only [bad_iff]
  rw [decodeL_N, if_neg hT, if_pos (by omega)]
  simp only [caduceusref02_First.j0, caduceusref02_First.j1, caduceusref02_First.j2, caduceusref02_First.j3]
  have t1 := tail_is t 1
  have t2 := tail_is t 2
  have t3 := tail_is t 3
  have g0 := bt_getD t 0
  have g1 := bt_getD t 1
  have g2 := bt_getD t 2
  have g3 := bt_getD t 3
  have k0 := (t.data.toList.getD 0 0).toNat_lt
  have k1 := (t.data.toList.getD 1 0).toNat_lt
  have k2 := (t.data.toList.getD 2 0).toNat_lt
  have k3 := (t.data.toList.getD 3 0).toNat_lt
  simp only [Int.natCast_zero, Int.cast_ofNat_Int, Int.natCast_one] at t1 t2 t3 g0 g1 g2 g3
  rw [hsz] at t1 t2 t3
  simp only [g0, g1, g2, g3, t1, t2, t3, hsz, Option.bind_some]
  generalize (t.data.toList.getD 0 0).toNat = b0 at *
  generalize (t.data.toList.getD 1 0).toNat = b1 at *
  generalize (t.data.toList.getD 2 0).toNat = b2 at *
  generalize (t.data.toList.getD 3 0).toNat = b3 at *
  generalize t.data.toList.length = n at *
  rw [wr (b0 : Int) (by omega) (by omega)]
  simp only [e2 (b0 : Int) (b1 : Int) ⟨by omega, by omega⟩ ⟨by omega, by omega⟩, e3 (b0 : Int) (b1 : Int) (b2 : Int) ⟨by omega, by omega⟩ ⟨by omega, by omega⟩ ⟨by omega, by omega⟩, e4 (b0 : Int) (b1 : Int) (b2 : Int) (b3 : Int) ⟨by omega, by omega⟩ ⟨by omega, by omega⟩ ⟨by omega, by omega⟩ ⟨by omega, by omega⟩]
  simp only [decide_eq_true_eq, Bool.false_eq_true, if_false]
  clear t1 t2 t3 g0 g1 g2 g3 hT hne hsz hk
  have fin : ∀ {a b c d : Int}, a = c → b = d → (some (a, b) : Option (Int × Int)) = some (c, d) := by intro a b c d h1 h2; rw [h1, h2]
  by_cases h0 : b0 < 128
  · have hD : decodeN n b0 b1 b2 b3 = (b0, 1) := by unfold decodeN; repeat (first | rw [if_pos (by omega)] | rw [if_neg (by omega)])
    rw [hD]
    dsimp only
    repeat (first | rw [if_pos (by omega)] | rw [if_neg (by omega)])
    exact fin (by omega) rfl
  by_cases h1 : b0 < 194
  · by_cases h6 : b0 / 32 = 6 ∧ 1 < n ∧ b1 / 64 = 2
    · have hD : decodeN n b0 b1 b2 b3 = (65533, 1) := by unfold decodeN; repeat (first | rw [if_pos (by omega)] | rw [if_neg (by omega)])
      rw [hD]
      dsimp only
      rw [if_pos (show (65533 : Nat) = 65533 ∧ 1 = 1 from ⟨rfl, rfl⟩)]
      repeat (first | rw [if_pos (by omega)] | rw [if_neg (by omega)])
      all_goals ((repeat' split) <;> first | rfl | (exfalso; omega))
    · have hD : decodeN n b0 b1 b2 b3 = (65533, 1) := by unfold decodeN; repeat (first | rw [if_pos (by omega)] | rw [if_neg (by omega)])
      rw [hD]
      dsimp only
      rw [if_pos (show (65533 : Nat) = 65533 ∧ 1 = 1 from ⟨rfl, rfl⟩)]
      repeat (first | rw [if_pos (by omega)] | rw [if_neg (by omega)])
      all_goals ((repeat' split) <;> first | rfl | (exfalso; omega))
  by_cases c1 : 1 < n ∧ 128 ≤ b1 ∧ b1 < 192
  · by_cases h2 : b0 < 224
    · have hD : decodeN n b0 b1 b2 b3 = (b0 % 32 * 64 + b1 % 64, 2) := by unfold decodeN; repeat (first | rw [if_pos (by omega)] | rw [if_neg (by omega)])
      rw [hD]
      dsimp only
      repeat (first | rw [if_pos (by omega)] | rw [if_neg (by omega)])
      exact fin (by omega) rfl
    by_cases c2 : 2 < n ∧ 128 ≤ b2 ∧ b2 < 192
    · by_cases h3 : b0 < 240
      · by_cases v1 : 2048 ≤ b0 % 16 * 4096 + b1 % 64 * 64 + b2 % 64
        · by_cases v2 : b0 % 16 * 4096 + b1 % 64 * 64 + b2 % 64 < 55296
          · have hD : decodeN n b0 b1 b2 b3 = (b0 % 16 * 4096 + b1 % 64 * 64 + b2 % 64, 3) := by unfold decodeN; repeat (first | rw [if_pos (by omega)] | rw [if_neg (by omega)])
            rw [hD]
            dsimp only
            repeat (first | rw [if_pos (by omega)] | rw [if_neg (by omega)])
            exact fin (by omega) rfl
          · by_cases v3 : 57344 ≤ b0 % 16 * 4096 + b1 % 64 * 64 + b2 % 64
            · have hD : decodeN n b0 b1 b2 b3 = (b0 % 16 * 4096 + b1 % 64 * 64 + b2 % 64, 3) := by unfold decodeN; repeat (first | rw [if_pos (by omega)] | rw [if_neg (by omega)])
              rw [hD]
              dsimp only
              repeat (first | rw [if_pos (by omega)] | rw [if_neg (by omega)])
              exact fin (by omega) rfl
            · have hD : decodeN n b0 b1 b2 b3 = (65533, 1) := by unfold decodeN; repeat (first | rw [if_pos (by omega)] | rw [if_neg (by omega)])
              rw [hD]
              dsimp only
              rw [if_pos (show (65533 : Nat) = 65533 ∧ 1 = 1 from ⟨rfl, rfl⟩)]
              repeat (first | rw [if_pos (by omega)] | rw [if_neg (by omega)])
              all_goals ((repeat' split) <;> first | rfl | (exfalso; omega))
        · have hD : decodeN n b0 b1 b2 b3 = (65533, 1) := by unfold decodeN; repeat (first | rw [if_pos (by omega)] | rw [if_neg (by omega)])
          rw [hD]
          dsimp only
          rw [if_pos (show (65533 : Nat) = 65533 ∧ 1 = 1 from ⟨rfl, rfl⟩)]
          repeat (first | rw [if_pos (by omega)] | rw [if_neg (by omega)])
          all_goals ((repeat' split) <;> first | rfl | (exfalso; omega))
      by_cases c3 : 3 < n ∧ 128 ≤ b3 ∧ b3 < 192
      · by_cases h4 : b0 < 245
        · by_cases v1 : 65536 ≤ b0 % 8 * 262144 + b1 % 64 * 4096 + b2 % 64 * 64 + b3 % 64
          · by_cases v2 : b0 % 8 * 262144 + b1 % 64 * 4096 + b2 % 64 * 64 + b3 % 64 ≤ 1114111
            · have hD : decodeN n b0 b1 b2 b3 = (b0 % 8 * 262144 + b1 % 64 * 4096 + b2 % 64 * 64 + b3 % 64, 4) := by unfold decodeN; repeat (first | rw [if_pos (by omega)] | rw [if_neg (by omega)])
              rw [hD]
              dsimp only
              repeat (first | rw [if_pos (by omega)] | rw [if_neg (by omega)])
              exact fin (by omega) rfl
            · have hD : decodeN n b0 b1 b2 b3 = (65533, 1) := by unfold decodeN; repeat (first | rw [if_pos (by omega)] | rw [if_neg (by omega)])
              rw [hD]
              dsimp only
              rw [if_pos (show (65533 : Nat) = 65533 ∧ 1 = 1 from ⟨rfl, rfl⟩)]
              repeat (first | rw [if_pos (by omega)] | rw [if_neg (by omega)])
              all_goals ((repeat' split) <;> first | rfl | (exfalso; omega))
          · have hD : decodeN n b0 b1 b2 b3 = (65533, 1) := by unfold decodeN; repeat (first | rw [if_pos (by omega)] | rw [if_neg (by omega)])
            rw [hD]
            dsimp only
            rw [if_pos (show (65533 : Nat) = 65533 ∧ 1 = 1 from ⟨rfl, rfl⟩)]
            repeat (first | rw [if_pos (by omega)] | rw [if_neg (by omega)])
            all_goals ((repeat' split) <;> first | rfl | (exfalso; omega))
        · by_cases h8 : b0 / 8 = 30
          · have hD : decodeN n b0 b1 b2 b3 = (65533, 1) := by unfold decodeN; repeat (first | rw [if_pos (by omega)] | rw [if_neg (by omega)])
            rw [hD]
            dsimp only
            rw [if_pos (show (65533 : Nat) = 65533 ∧ 1 = 1 from ⟨rfl, rfl⟩)]
            repeat (first | rw [if_pos (by omega)] | rw [if_neg (by omega)])
            all_goals ((repeat' split) <;> first | rfl | (exfalso; omega))
          · have hD : decodeN n b0 b1 b2 b3 = (65533, 1) := by unfold decodeN; repeat (first | rw [if_pos (by omega)] | rw [if_neg (by omega)])
            rw [hD]
            dsimp only
            rw [if_pos (show (65533 : Nat) = 65533 ∧ 1 = 1 from ⟨rfl, rfl⟩)]
            repeat (first | rw [if_pos (by omega)] | rw [if_neg (by omega)])
            all_goals ((repeat' split) <;> first | rfl | (exfalso; omega))
      · have hD : decodeN n b0 b1 b2 b3 = (65533, 1) := by unfold decodeN; repeat (first | rw [if_pos (by omega)] | rw [if_neg (by omega)])
        rw [hD]
        dsimp only
        rw [if_pos (show (65533 : Nat) = 65533 ∧ 1 = 1 from ⟨rfl, rfl⟩)]
        repeat (first | rw [if_pos (by omega)] | rw [if_neg (by omega)])
        all_goals ((repeat' split) <;> first | rfl | (exfalso; omega))
    · have hD : decodeN n b0 b1 b2 b3 = (65533, 1) := by unfold decodeN; repeat (first | rw [if_pos (by omega)] | rw [if_neg (by omega)])
      rw [hD]
      dsimp only
      rw [if_pos (show (65533 : Nat) = 65533 ∧ 1 = 1 from ⟨rfl, rfl⟩)]
      repeat (first | rw [if_pos (by omega)] | rw [if_neg (by omega)])
      all_goals ((repeat' split) <;> first | rfl | (exfalso; omega))
  · have hD : decodeN n b0 b1 b2 b3 = (65533, 1) := by unfold decodeN; repeat (first | rw [if_pos (by omega)] | rw [if_neg (by omega)])
    rw [hD]
    dsimp only
    rw [if_pos (show (65533 : Nat) = 65533 ∧ 1 = 1 from ⟨rfl, rfl⟩)]
    by_cases h2 : b0 < 224
    · repeat (first | rw [if_pos (by omega)] | rw [if_neg (by omega)])
    by_cases h3 : b0 < 240
    · repeat (first | rw [if_pos (by omega)] | rw [if_neg (by omega)])
    by_cases h4 : b0 < 245
    · repeat (first | rw [if_pos (by omega)] | rw [if_neg (by omega)])
    · repeat (first | rw [if_pos (by omega)] | rw [if_neg (by omega)])
end Go.Proofs.YtfmjhklejjohcaaDoor.NQ
