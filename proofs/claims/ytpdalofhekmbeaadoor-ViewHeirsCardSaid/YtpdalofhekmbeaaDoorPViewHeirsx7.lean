-- Written by a program of this session over the kit's printer (with contracts of the session's own).
import Derived.Test.YtpdalofhekmbeaaDoorPViewHeirsx0
import Derived.Test.YtpdalofhekmbeaaDoorPViewHeirsx1
import Derived.Test.YtpdalofhekmbeaaDoorPViewHeirsx6
namespace Go.Proofs.YtpdalofhekmbeaaDoor.PViewHeirs
open Go.RowKit Go.Proofs.YtpdalofhekmbeaaDoorW.PrintWords Go.Proofs.YtpdalofhekmbeaaDoorW.PrintLast Go.Proofs.YtpdalofhekmbeaaDoorW.PrintMore
attribute [local go_sem] max2_int min2_int max_two min_two max_three min_three max_four min_four   -- for this text's walks alone
set_option linter.unusedVariables false
set_option linter.unusedSimpArgs false

/-! ### strconv_Itoa: function 66 (a contract of this session's own) -/
def strconv_Itoa.f (a0 : Int) : Option ByteArray := if 0 ≤ a0 ∧ a0 < 100 then some ⟨(Lib.decDigits a0.toNat).toArray⟩ else none
theorem strconv_Itoa.calls (a0 : Int) (r : ByteArray) (w : World) (h : strconv_Itoa.f a0 = some r) :
    Calls Tryd.prog 66 #[.int .i64 a0] w fun e w' => e = .returned (.string r) ∧ Drawn0 w w' := by
  unfold strconv_Itoa.f at h
  by_cases hs : 0 ≤ a0 ∧ a0 < 100
  · rw [if_pos hs] at h
    obtain rfl := Option.some.inj h
    have h2 := Tryd.strconv_Itoa_small a0.toNat (by omega) w
    rw [Int.toNat_of_nonneg hs.1] at h2
    refine h2.mono ?_
    rintro e w' ⟨rfl, rfl⟩
    exact ⟨rfl, Drawn0.refl _⟩
  · rw [if_neg hs] at h
    cases h

/-! ### ring_Point: function 51 -/
def ring_Point.f (k : Nat) (a0 : Int) : Option (Int) := (ring_node.f a0).bind fun t213 => (if t213 = true then ((strconv_Itoa.f a0).bind fun t214 => (if 5 + t214.size ≤ 9223372036854775807 then ((name_Hash.f k ((⟨#[110, 111, 100, 101, 32]⟩ : ByteArray) ++ t214)).bind fun t215 => (some t215)) else (none))) else (some 0))
theorem ring_Point.mono : ∀ a0 k, LeO (ring_Point.f k a0) (ring_Point.f (k + 1) a0) := by
  intro a0 k
  unfold ring_Point.f
  repeat' first
      | (with_reducible exact name_Hash.mono _ _)
      | (with_reducible exact LeO.refl _)
      | (with_reducible exact LeO.none _)
      | (with_reducible refine LeO.ite ?_ ?_)
      | (with_reducible refine LeO.bind ?_ (fun _ => ?_))
      | exact name_Hash.mono _ _
      | exact LeO.none _
      | refine LeO.ite ?_ ?_
      | refine LeO.bind ?_ (fun _ => ?_)
set_option maxHeartbeats 8000000 in
set_option maxRecDepth 100000 in
theorem ring_Point.calls (k : Nat) (a0 : Int) (r : Int) (w : World) (h : ring_Point.f k a0 = some r) :
    Calls Tryd.prog 51 #[.int .i64 a0] w fun e w' => e = .returned (.int .u64 r) ∧ Drawn0 w w' := by
  have H : ((ring_node.f a0).bind fun t213 => (if t213 = true then ((strconv_Itoa.f a0).bind fun t214 => (if 5 + t214.size ≤ 9223372036854775807 then ((name_Hash.f k ((⟨#[110, 111, 100, 101, 32]⟩ : ByteArray) ++ t214)).bind fun t215 => (some t215)) else (none))) else (some 0))) = some r := h
  clear h
  replace H := Option.bind_eq_some_iff.mp H
  obtain ⟨t213, A20, H⟩ := H
  replace H : (if t213 = true then ((strconv_Itoa.f a0).bind fun t214 => (if 5 + t214.size ≤ 9223372036854775807 then ((name_Hash.f k ((⟨#[110, 111, 100, 101, 32]⟩ : ByteArray) ++ t214)).bind fun t215 => (some t215)) else (none))) else (some 0)) = some r := H
  have A2 := Aside0.mk A20
  clear A20
  by_cases c3 : t213 = true
  · subst c3
    have H1 : ((strconv_Itoa.f a0).bind fun t214 => (if 5 + t214.size ≤ 9223372036854775807 then ((name_Hash.f k ((⟨#[110, 111, 100, 101, 32]⟩ : ByteArray) ++ t214)).bind fun t215 => (some t215)) else (none))) = some r := by rw [if_pos rfl] at H; exact H
    clear H
    have H := H1
    clear H1
    replace H := Option.bind_eq_some_iff.mp H
    obtain ⟨t214, A40, H⟩ := H
    replace H : (if 5 + t214.size ≤ 9223372036854775807 then ((name_Hash.f k ((⟨#[110, 111, 100, 101, 32]⟩ : ByteArray) ++ t214)).bind fun t215 => (some t215)) else (none)) = some r := H
    have A4 := Aside0.mk A40
    clear A40
    by_cases c5 : 5 + t214.size ≤ 9223372036854775807
    · rw [if_pos c5] at H
      have c5b0 := eq_true c5
      have c5b1 : decide (5 + t214.size ≤ 9223372036854775807) = true := decide_eq_true c5
      try have c5b2 : (9223372036854775807 < 5 + t214.size) = False := eq_false (Nat.not_lt.2 c5)
      replace H := Option.bind_eq_some_iff.mp H
      obtain ⟨t215, A60, H⟩ := H
      replace H : (some t215) = some r := H
      have A6 := Aside0.mk A60
      clear A60
      obtain rfl := Option.some.inj H
      go_enter Tryd.func51, Tryd.ntmps51
      go_wp2_with (first | ((with_reducible refine gate_callee (f := 29) rfl ?_); refine goesL_ (some 4) rfl rfl Tryd.func29 (by kernel_rfl) rfl #[.int .i64 a0] rfl (by (try simp only [List.map_toArray, List.map_cons, List.map_nil]); first | done | rfl | (simp only [List.length_drop, List.length_take]; rfl)) ?_; (with_reducible refine (ring_node.calls a0 true _ A2.out).mono ?_); rintro e w' ⟨rfl, ⟨nd, rfl⟩⟩; refine ⟨_, rfl, ?_⟩) | ((with_reducible refine gate_callee (f := 66) rfl ?_); refine goesL_ (some 7) rfl rfl Tryd.func66 (by kernel_rfl) rfl #[.int .i64 a0] rfl (by (try simp only [List.map_toArray, List.map_cons, List.map_nil]); first | done | rfl | (simp only [List.length_drop, List.length_take]; rfl)) ?_; (with_reducible refine (strconv_Itoa.calls a0 t214 _ A4.out).mono ?_); rintro e w' ⟨rfl, ⟨nd, rfl⟩⟩; refine ⟨_, rfl, ?_⟩) | ((with_reducible refine gate_callee (f := 36) rfl ?_); refine goesL_ (some 9) rfl rfl Tryd.func36 (by kernel_rfl) rfl #[.string ((⟨#[110, 111, 100, 101, 32]⟩ : ByteArray) ++ t214)] rfl (by (try simp only [List.map_toArray, List.map_cons, List.map_nil]); first | done | rfl | (simp only [List.length_drop, List.length_take]; rfl)) ?_; (with_reducible refine (name_Hash.calls k ((⟨#[110, 111, 100, 101, 32]⟩ : ByteArray) ++ t214) t215 _ A6.out).mono ?_); rintro e w' ⟨rfl, ⟨nd, rfl⟩⟩; refine ⟨_, rfl, ?_⟩))
      go_ret
      exact ⟨by first | rfl | (simp; done) | (simp [*]; done), by repeat (first | exact Drawn0.refl _ | apply Drawn0.step)⟩
    · rw [if_neg c5] at H
      exact absurd H (by simp)
  · replace c3 := Bool.eq_false_iff.mpr c3
    subst c3
    have H1 : (some 0) = some r := by rw [if_neg (show ¬ (false = true) by decide)] at H; exact H
    clear H
    have H := H1
    clear H1
    obtain rfl := Option.some.inj H
    go_enter Tryd.func51, Tryd.ntmps51
    go_wp2_with (first | ((with_reducible refine gate_callee (f := 29) rfl ?_); refine goesL_ (some 4) rfl rfl Tryd.func29 (by kernel_rfl) rfl #[.int .i64 a0] rfl (by (try simp only [List.map_toArray, List.map_cons, List.map_nil]); first | done | rfl | (simp only [List.length_drop, List.length_take]; rfl)) ?_; (with_reducible refine (ring_node.calls a0 false _ A2.out).mono ?_); rintro e w' ⟨rfl, ⟨nd, rfl⟩⟩; refine ⟨_, rfl, ?_⟩))
    go_ret
    exact ⟨by first | rfl | (simp; done) | (simp [*]; done), by repeat (first | exact Drawn0.refl _ | apply Drawn0.step)⟩

/-! ### ring_Ring_1: function 48 (a contract of this session's own) -/
/-- A node's point. -/
def pointZ (n : Int) : Int := (ring_Point.f 40 n).getD 0
theorem point_some (n : Int) : ring_Point.f 40 n = some (pointZ n) := by
  have key : (ring_Point.f 40 n).isSome = true := by
    by_cases h : 1 ≤ n ∧ n ≤ 15
    · obtain ⟨h1, h2⟩ := h
      have : n = 1 ∨ n = 2 ∨ n = 3 ∨ n = 4 ∨ n = 5 ∨ n = 6 ∨ n = 7 ∨ n = 8 ∨ n = 9 ∨ n = 10 ∨ n = 11 ∨ n = 12 ∨ n = 13 ∨ n = 14 ∨ n = 15 := by omega
      rcases this with rfl | rfl | rfl | rfl | rfl | rfl | rfl | rfl | rfl | rfl | rfl | rfl | rfl | rfl | rfl <;> exact Eq.trans (b := true) (by kernel_rfl) rfl
    · have : ring_node.f n = some false := by
        unfold ring_node.f
        by_cases h1 : n ≥ 1
        · rw [if_pos h1, decide_eq_false (by omega)]
        · rw [if_neg h1]
      unfold ring_Point.f
      rw [this]
      rfl
  unfold pointZ
  cases hq : ring_Point.f 40 n with
  | none => rw [hq] at key; cases key
  | some r => rfl
/-- The first place of an element for which p holds, or -1. -/
def idxFR (p : Int → Bool) : List Int → Int → Int
  | [], _ => -1
  | x :: l, i => if p x then i else idxFR p l (i + 1)
/-- How two nodes stand on the ring. -/
def cmpZ (a b : Int) : Int := if pointZ a < pointZ b then -1 else if pointZ b < pointZ a then 1 else Lib.compareInt a b

def sortZ (l : List Int) : List Int := l.mergeSort fun x y => !(ltOf cmpZ y x)
set_option maxHeartbeats 1000000 in
theorem isNaN_u64 (x : Int) (w : World) : Calls Tryd.prog 65 #[.int .u64 x] w fun e w' => e = .returned (.bool false) ∧ w' = w := by
  go_enter Tryd.func65, Tryd.ntmps65
  go_wp2
  go_ret
  exact ⟨by first | rfl | (simp; done), rfl⟩
set_option maxHeartbeats 1000000 in
theorem compare_u64 (x y : Int) (w : World) : Calls Tryd.prog 50 #[.int .u64 x, .int .u64 y] w fun e w' => e = .returned (.int .i64 (Lib.compareInt x y)) ∧ w' = w := by
  go_enter Tryd.func50, Tryd.ntmps50
  go_wp2_with (go_at_call 65; refine (isNaN_u64 _ _).mono ?_; rintro e w' ⟨rfl, hw⟩; rw [hw])
  all_goals (go_ret; refine ⟨?_, rfl⟩; unfold Lib.compareInt; (repeat' split) <;> first | rfl | (exfalso; omega))
theorem or_cmp (a b : Int) : cmp_Or_int.f 3 [Lib.compareInt (pointZ a) (pointZ b), Lib.compareInt a b] = some (cmpZ a b) := by
  unfold cmp_Or_int.f cmpZ Lib.compareInt
  simp only [cmp_Or_int.l0]
  by_cases h1 : pointZ a < pointZ b
  · simp [h1, rd]
  · by_cases h2 : pointZ b < pointZ a
    · simp [h1, h2, rd]
    · simp only [h1, h2, rd]
      by_cases h3 : a < b
      · simp [h3, wrap64]
      · by_cases h4 : b < a
        · simp [h3, h4, wrap64]
        · simp [h3, h4, wrap64]
theorem pair_C (w : World) (x y : Int) (n : Nat) : (Kd.int .i64).C ((w.drewN n).alloc (.cells #[.int .i64 x, .int .i64 y] 3)) (some ⟨w.heap.size, 0, none⟩) 2 [x, y] := by
  refine Kd.C_of_reads (d := (0 : Int)) ⟨rfl, by decide, fun _ => ⟨_, rfl, fun j hj => ?_⟩⟩
  rw [Addr.add_lit, Nat.zero_add]
  have : j = 0 ∨ j = 1 := by omega
  rcases this with rfl | rfl
  · refine (cell_of_row _ w.heap.size 0 _ _ (0, 0) (heap_alloc_new (w.drewN n) _)).trans ?_
    simp
  · refine (cell_of_row _ w.heap.size 1 _ _ (0, 0) (heap_alloc_new (w.drewN n) _)).trans ?_
    simp
set_option maxHeartbeats 4000000 in
set_option maxRecDepth 100000 in
theorem ring_Ring_1.calls (a b : Int) (w : World) :
    Calls Tryd.prog 48 #[.int .i64 a, .int .i64 b] w fun e w' => e = .returned (.int .i64 (cmpZ a b)) ∧ ∃ q os', w' = Sort.grow (w.drewN q) os' := by
  have HO := Aside0.mk (or_cmp a b)
  generalize hx : Lib.compareInt (pointZ a) (pointZ b) = x at HO
  generalize hy : Lib.compareInt a b = y at HO
  have HX := Aside0.mk hx
  have HY := Aside0.mk hy
  have HPA := Aside0.mk (point_some a)
  have HPB := Aside0.mk (point_some b)
  clear hx hy
  have HOR := Aside0.mk (fun (W : World) (hr : Kd.C (Kd.int .i64) W (some ⟨w.heap.size, 0, none⟩) 2 [x, y]) => (show Calls Tryd.prog 49 #[.slice (some ⟨w.heap.size, 0, none⟩) 2 2] W _ from cmp_Or_int.calls 3 (some ⟨w.heap.size, 0, none⟩) 2 [x, y] (cmpZ a b) W hr (Nat.le_refl 2) HO.out))
  go_enter Tryd.func48, Tryd.ntmps48
  go_wp2_with (first
    | ((with_reducible refine gate_callee (f := 51) rfl ?_); refine goesL_ (some 6) rfl rfl Tryd.func51 (by kernel_rfl) rfl #[.int .i64 a] rfl (by (try simp only [List.map_toArray, List.map_cons, List.map_nil]); first | done | rfl) ?_; (with_reducible refine (ring_Point.calls 40 a _ _ HPA.out).mono ?_); rintro e w1 ⟨rfl, ⟨n1, rfl⟩⟩; refine ⟨_, rfl, ?_⟩)
    | ((with_reducible refine gate_callee (f := 51) rfl ?_); refine goesL_ (some 8) rfl rfl Tryd.func51 (by kernel_rfl) rfl #[.int .i64 b] rfl (by (try simp only [List.map_toArray, List.map_cons, List.map_nil]); first | done | rfl) ?_; (with_reducible refine (ring_Point.calls 40 b _ _ HPB.out).mono ?_); rintro e w2 ⟨rfl, ⟨n2, rfl⟩⟩; refine ⟨_, rfl, ?_⟩)
    | ((with_reducible refine gate_callee (f := 50) rfl ?_); refine goesL_ (some 9) rfl rfl Tryd.func50 (by kernel_rfl) rfl #[.int .u64 (pointZ a), .int .u64 (pointZ b)] rfl (by (try simp only [List.map_toArray, List.map_cons, List.map_nil]); first | done | rfl) ?_; (with_reducible refine (compare_u64 (pointZ a) (pointZ b) _).mono ?_); rintro e w3 ⟨rfl, rfl⟩; rw [HX.out]; refine ⟨_, rfl, ?_⟩)
    | ((with_reducible refine gate_callee (f := 52) rfl ?_); refine goesL_ (some 12) rfl rfl Tryd.func52 (by kernel_rfl) rfl #[.int .i64 a, .int .i64 b] rfl (by (try simp only [List.map_toArray, List.map_cons, List.map_nil]); first | done | rfl) ?_; (with_reducible refine (Tryd.cmp_Compare_int a b _).mono ?_); rintro e w4 ⟨rfl, rfl⟩; rw [HY.out]; refine ⟨_, rfl, ?_⟩)
    | ((with_reducible refine gate_callee (f := 49) rfl ?_); refine goesL_ (some 14) rfl rfl Tryd.func49 (by kernel_rfl) rfl #[.slice (some ⟨w.heap.size, 0, none⟩) 2 2] rfl (by (try simp only [List.map_toArray, List.map_cons, List.map_nil]); first | done | rfl) ?_; (with_reducible refine (HOR.out _ ?hC).mono ?_); (case hC => exact pair_C w x y _); rintro e w5 ⟨rfl, ⟨n5, rfl⟩⟩; refine ⟨_, rfl, ?_⟩))
  go_ret
  exact ⟨rfl, n1 + n2 + n5, _, by rw [Sort.alloc_eq_grow]; show Sort.grow ((w.drewN (n1 + n2)).drewN n5) _ = _; rw [World.drewN_drewN]⟩

/-! ### ring_Ring: function 33 (a contract of this session's own) -/
theorem own_le' {w : World} {base : Nat} {v : Value} {n : Nat} {xs : List Value} (h : w.ownsRow base 3 1 v n xs) : (v = .slice none 0 0 ∧ n = 0) ∨ ∃ g cap cur, v = .slice (some ⟨g, 0, none⟩) n cap ∧ base ≤ g ∧ g < w.heap.size ∧ w.heap[g]? = some (.cells cur 3 (0, 0)) ∧ n ≤ cap ∧ cap ≤ maxLen ∧ cur.size = cap ∧ cur.toList.take n = xs := by
  obtain ⟨_, h | ⟨g, cap, cur, rfl, hb, hh, h1, h2, h3, h4⟩⟩ := h
  · exact .inl h
  · exact .inr ⟨g, cap, cur, rfl, hb, (Array.getElem?_eq_some_iff.1 hh).1, hh, h1, h2, by omega, by rw [Nat.mul_one] at h4; exact h4⟩
theorem own_sorted {w : World} {base g n cap : Nat} {cur : Array Value} (hb : base ≤ g) (hh : w.heap[g]? = some (.cells cur 3 (0, 0))) (h1 : n ≤ cap) (h2 : cap ≤ maxLen) (h3 : cur.size = cap) (ys : List Int) (hy : ys.length = n) (m : Nat) (os : Array Obj) :
    (sortWorld (Value.int .i64) w g 0 m ys.toArray os).ownsRow base 3 1 (.slice (some ⟨g, 0, none⟩) n cap) n (ys.map (Value.int .i64)) := by
  have hlt := (Array.getElem?_eq_some_iff.1 hh).1
  refine ⟨by simp [hy], .inr ⟨g, cap, Sort.putCells (Value.int .i64) 0 ys.toArray cur, rfl, hb, ?_, h1, h2, ?_, ?_⟩⟩
  · unfold sortWorld
    rw [Sort.heap_grow_old _ _ (by rw [Sort.size_putRow]; exact hlt)]
    show (w.heap.modify g _)[g]? = _
    rw [Array.getElem?_modify, if_pos rfl, hh]
    rfl
  · simp [Sort.putCells, h3]
  · apply List.ext_getElem?
    intro j
    rw [Nat.mul_one, List.getElem?_take]
    by_cases hj : j < n
    · have hjc : j < cur.size := by omega
      have hjy : j < ys.length := by omega
      rw [if_pos hj]
      simp [Sort.putCells, Array.getElem?_mapIdx, hjc, hjy]
    · rw [if_neg hj, List.getElem?_eq_none (by simp; omega)]
theorem below_sorted {w : World} {B g m : Nat} {ys : Array Int} {os : Array Obj} (hB : B ≤ g) (hlt : g < w.heap.size) : Below B w (sortWorld (Value.int .i64) w g 0 m ys os) := by
  refine ⟨rfl, rfl, rfl, ?_, fun k hk => ?_⟩
  · show w.heap.size ≤ (_ ++ os).size
    rw [Array.size_append]
    have : (Sort.putRow (Value.int .i64) (Sort.ahead w m) g 0 ys).heap.size = w.heap.size := Sort.size_putRow _ _ _ _ _
    omega
  · unfold sortWorld
    rw [Sort.heap_grow_old _ _ (by rw [Sort.size_putRow]; show k < w.heap.size; omega)]
    show (w.heap.modify g _)[k]? = _
    rw [Array.getElem?_modify, if_neg (by omega)]
theorem holds_own {w : World} {g n : Nat} {cur : Array Value} (hh : w.heap[g]? = some (.cells cur 3 (0, 0))) (xs : List Int) (hx : cur.toList.take n = xs.map (Value.int .i64)) : Sort.Holds (Value.int .i64) w g 0 xs.toArray := by
  intro j hj
  have hj' : j < xs.length := by simpa using hj
  have hg : cur[j]? = some (Value.int .i64 xs[j]) := by
    have := congrArg (fun l => l[j]?) hx
    simp only [List.getElem?_take, List.getElem?_map, List.getElem?_eq_getElem hj', Option.map_some] at this
    split at this
    · simpa using this
    · cases this
  refine ⟨?_, ?_⟩
  · unfold World.cell?
    simp only [hh, Nat.zero_add]
    simp [hg, hj']
  · unfold World.frozen?
    simp only [hh]
    simp
def ring_Ring.f (k : Nat) (l0 : List Int) : Option (List Int) := (ring_Nodes.f k l0).bind fun t => if t = true then (if l0.length * 8 ≤ 140737488355328 then some (sortZ l0) else none) else some []
theorem ring_Ring.mono : ∀ a0 k, LeO (ring_Ring.f k a0) (ring_Ring.f (k + 1) a0) := by
  intro a0 k
  unfold ring_Ring.f
  exact LeO.bind (ring_Nodes.mono _ _) fun _ => LeO.refl _
theorem lt_iff (a b : Int) : ltOf cmpZ a b = true ↔ pointZ a < pointZ b ∨ (pointZ a = pointZ b ∧ a < b) := by
  unfold ltOf cmpZ Lib.compareInt
  rw [decide_eq_true_eq]
  repeat' split
  all_goals omega
theorem lt_niff (a b : Int) : ltOf cmpZ a b = false ↔ ¬ (pointZ a < pointZ b ∨ (pointZ a = pointZ b ∧ a < b)) := by
  rw [← lt_iff, Bool.not_eq_true]
theorem swo_cmp : Sort.SWO (ltOf cmpZ) where
  irrefl x := by rw [lt_niff]; omega
  trans x y z h1 h2 := by rw [lt_iff] at *; omega
  ntrans x y z h1 h2 := by rw [lt_niff] at *; omega
theorem tot_cmp (x y : Int) (h1 : ltOf cmpZ x y = false) (h2 : ltOf cmpZ y x = false) : x = y := by rw [lt_niff] at *; omega
theorem sortZ_len (l : List Int) : (sortZ l).length = l.length := by unfold sortZ; exact List.length_mergeSort l
theorem sort_calls (w : World) (base : Nat) (ok : Nat → Prop) (v : Value) (xs : List Int) (hok : ∀ k, ok k) (h : (Kd.int .i64).R 3 w base ok v xs) (B : Nat) (hB : B ≤ base) (hl : xs.length < 4611686018427387904) :
    Calls Tryd.prog 47 #[v, .func (.func 48) #[] #[]] w fun e w' => e = .returned (.tuple #[]) ∧ (Kd.int .i64).R 3 w' base (fun _ => True) v (sortZ xs) ∧ Below B w w' := by
  have ho := own_of_R h
  rcases own_le' ho with ⟨rfl, h0⟩ | ⟨g, cap, cur, rfl, hb, hlt, hh, h1, h2, h3, h4⟩
  · obtain rfl := List.eq_nil_of_length_eq_zero h0
    refine (Tryd.slices_SortFunc_none (α := Int) none 0 _ w).mono ?_
    rintro e w' ⟨rfl, rfl⟩
    refine ⟨rfl, ?_, Below.refl _ _⟩
    have : sortZ [] = [] := by simp [sortZ]
    rw [this]
    exact Kd.R_nil _ _ _ _ _
  · have eg : ∀ args w, (callFunc 48 args).run Tryd.prog w = .ok (.enter 48 args) w := enters_of Tryd.func48 (by kernel_rfl) rfl
    have hc : CmpLays1 Tryd.prog 48 #[] (Value.int .i64) cmpZ g 0 xs.toArray.size w := fun m os dk _ x y => ring_Ring_1.calls x y _
    have := Tryd.slices_SortFunc_total (Value.int .i64) (fun _ => rfl) cmpZ swo_cmp 48 #[] g 0 cap xs.toArray w eg hc (holds_own hh xs h4) hlt (by simpa using hl) tot_cmp
    refine (show Calls Tryd.prog 47 #[.slice (some ⟨g, 0, none⟩) xs.length cap, .func (.func 48) #[] #[]] w _ from this).mono ?_
    rintro e w' ⟨rfl, n, os, rfl⟩
    refine ⟨rfl, R_of_own _ ?_, below_sorted (by omega) hlt⟩
    have := own_sorted (w := w) hb hh h1 h2 h3 (sortZ xs) (sortZ_len xs) n os
    rw [sortZ_len]
    exact this
set_option maxHeartbeats 4000000 in
set_option maxRecDepth 100000 in
theorem ring_Ring.calls (k : Nat) (A0 : Option Addr) (c0 : Nat) (l0 : List Int) (r : List Int) (w : World) (hr0 : Kd.C (Kd.int .i64) w A0 l0.length l0) (hc0 : l0.length ≤ c0) (h : ring_Ring.f k l0 = some r) :
    Calls Tryd.prog 33 #[.slice A0 l0.length c0] w fun e w' => ∃ v0_ : Value, e = .returned (v0_) ∧ Kd.R (Kd.int .i64) 3 w' w.heap.size (fun _ => True) v0_ r ∧ Below w.heap.size w w' := by
  obtain ⟨t, hN, h⟩ := Option.bind_eq_some_iff.1 h
  have HN := Aside0.mk hN
  have HR := Aside0.mk hr0
  have HC := Aside0.mk hc0
  have HB := Aside0.mk (Below.refl w.heap.size w)
  cases t with
  | false =>
    obtain rfl := Option.some.inj h
    clear h hN hr0 hc0
    go_enter Tryd.func33, Tryd.ntmps33
    go_wp2_with (first
      | ((with_reducible refine gate_callee (f := 15) rfl ?_); refine goesL_ (some 5) rfl rfl Tryd.func15 (by kernel_rfl) rfl #[.slice A0 l0.length c0] rfl (by (try simp only [List.map_toArray, List.map_cons, List.map_nil]); first | done | rfl) ?_; (with_reducible refine (ring_Nodes.calls k A0 c0 l0 false _ HR.out HC.out HN.out).mono ?_); rintro e w1 ⟨rfl, ⟨n1, rfl⟩⟩; refine ⟨_, rfl, ?_⟩))
    go_ret
    exact ⟨_, rfl, Kd.R_nil _ _ _ _ _, pw_below_drewN HB.out _⟩
  | true =>
    have h : (if l0.length * 8 ≤ 140737488355328 then some (sortZ l0) else none) = some r := h
    by_cases hl : l0.length * 8 ≤ 140737488355328
    · rw [if_pos hl] at h
      obtain rfl := Option.some.inj h
      have HL := Aside0.mk hl
      clear h hN hr0 hc0 hl
      go_enter Tryd.func33, Tryd.ntmps33
      go_wp2_with (first
        | ((with_reducible refine gate_callee (f := 15) rfl ?_); refine goesL_ (some 5) rfl rfl Tryd.func15 (by kernel_rfl) rfl #[.slice A0 l0.length c0] rfl (by (try simp only [List.map_toArray, List.map_cons, List.map_nil]); first | done | rfl) ?_; (with_reducible refine (ring_Nodes.calls k A0 c0 l0 true _ HR.out HC.out HN.out).mono ?_); rintro e w1 ⟨rfl, ⟨n1, rfl⟩⟩; refine ⟨_, rfl, ?_⟩)
        | ((with_reducible refine gate_callee (f := 46) rfl ?_); refine goesL_ (some 8) rfl rfl Tryd.func46 (by kernel_rfl) rfl #[.slice A0 l0.length c0] rfl (by (try simp only [List.map_toArray, List.map_cons, List.map_nil]); first | done | rfl) ?_; (with_reducible refine (slices_Clone_is A0 c0 l0 _ (Kd.C_below HR.out (pw_below_drewN HB.out _)) HL.out).mono ?_); rintro e w2 ⟨v2, rfl, hv2, hb2⟩; refine ⟨_, rfl, ?_⟩; have HV := Aside0.mk hv2; have HB2 := Aside0.mk hb2; clear hv2 hb2)
        | ((with_reducible refine gate_callee (f := 47) rfl ?_); refine goesL_ (some 10) rfl rfl Tryd.func47 (by kernel_rfl) rfl #[v2, .func (.func 48) #[] #[]] rfl (by (try simp only [List.map_toArray, List.map_cons, List.map_nil]); first | done | rfl) ?_; (with_reducible refine (sort_calls _ _ _ v2 l0 (fun _ => trivial) HV.out w.heap.size (Nat.le_refl _) (by have := HL.out; omega)).mono ?_); rintro e w3 ⟨rfl, hv3, hb3⟩; refine ⟨_, rfl, ?_⟩; have HV3 := Aside0.mk hv3; have HB3 := Aside0.mk hb3; clear hv3 hb3))
      go_ret
      exact ⟨_, rfl, HV3.out, (pw_below_drewN HB.out _).trans (Below.trans HB2.out HB3.out)⟩
    · rw [if_neg hl] at h
      cases h

/-! ### ring_first_1: function 54 (a contract of this session's own) -/
set_option maxHeartbeats 4000000 in
set_option maxRecDepth 100000 in
theorem ring_first_1.calls (x : Int) (b : Nat) (key : Int) (w : World) (hc : w.cell? ⟨b, 0, none⟩ = some (.int .u64 key)) :
    Calls Tryd.prog 54 #[.int .i64 x, .pointer (some ⟨b, 0, none⟩)] w fun e w' => e = .returned (.bool (decide (key ≤ pointZ x))) ∧ Drawn0 w w' := by
  have HP := Aside0.mk (point_some x)
  have HCN := fun n => (World.cell?_drewN w n ⟨b, 0, none⟩).trans hc
  go_enter Tryd.func54, Tryd.ntmps54
  go_wp2
  repeat (go_quiet (first | (go_at_call 51; (with_reducible refine (ring_Point.calls 40 x _ _ HP.out).mono ?_); rintro e w' ⟨rfl, ⟨nd, rfl⟩⟩; (try first | exact ⟨rfl, _, World.drewN_drewN _ _ _⟩ | exact ⟨rfl, _, rfl⟩))); try go_wp2)
  go_ret
  exact ⟨by first | rfl | (simp; done), by repeat (first | exact Drawn0.refl _ | apply Drawn0.step)⟩

/-! ### ring_first: function 34 (a contract of this session's own) -/
theorem rdR_drop {l : List Int} {i : Nat} {x : Int} {r : List Int} (h : l.drop i = x :: r) : rd l (i : Int) = x ∧ i < l.length ∧ l.drop (i + 1) = r := by
  have hi : i < l.length := by
    rcases Nat.lt_or_ge i l.length with g | g
    · exact g
    · rw [List.drop_eq_nil_of_le g] at h; cases h
  rw [List.drop_eq_getElem_cons hi] at h
  injection h with h1 h2
  refine ⟨?_, hi, h2⟩
  unfold rd
  rw [Int.toNat_natCast, List.getD_eq_getElem?_getD, List.getElem?_eq_getElem hi]
  exact h1

section
variable {P : Program} {ops : Array Oper} {Q : Exit → Act → World → Prop}
/-- The operation is a call of the function value in this slot (a cheap look ahead of a dear step). -/
theorem gate_valueR {rest : List Oper} {o : Oper} {a : Act} {W : World} {s : Tmp} {ars : Array Operand} {ts : Array TypeId} (_ho : o.op = .call { callee := .value (.tmp s), args := ars, argTypes := ts }) (h : wpList P ops Q (o :: rest) a W) : wpList P ops Q (o :: rest) a W := h
/-- A call of a function value that a slot holds, as an arm of go_wp2_with. -/
theorem goesVR_ {rest : List Oper} {oi : Oper} {a : Act} {w : World} (N : Option Tmp) (hd : oi.dst = N) (hg : oi.guard = none) {f : FuncId} {fn : Func} {ars : Array Operand} {ts : Array TypeId} (hf : P.funcs[f]? = some fn) (hname : (fn.name == "runtime.NumGoroutine") = false) (hb : fn.body.isSome = true) {s : Tmp} {caps : Array Value} (args : Array Value)
    (hop : oi.op = .call { callee := .value (.tmp s), args := ars, argTypes := ts }) (hs : a.eval (.tmp s) = .func (.func f) #[] caps) (hargs : ars.map a.eval = args)
    (h : Calls P f (args ++ caps) w fun e w' => ∃ v, e = .returned v ∧ wpList P ops Q rest (a.put N v) w') : wpList P ops Q (oi :: rest) a w := by
  refine wpList_plain hg fun K hK => ?_
  have he := enters_ hf hname hb (args ++ caps) w
  have hrun : (execOp a.eval oi).run P w = .ok (.enter f (args ++ caps)) w := by
    unfold execOp
    simp [hop, resolve, Deferred.ofValue, invoke, hs, hargs, he]
  unfold Oper.wp
  rw [hrun, Oper.upon_enter]
  refine h.mono fun e w'' hh => ?_
  obtain ⟨v, rfl, hk⟩ := hh
  subst hd
  exact hK _ _ hk
end

set_option maxHeartbeats 4000000 in
set_option maxRecDepth 100000 in
theorem indexFuncR_plain (fid : Nat) (caps : Array Value) (fn : Func) (hfn : Tryd.prog.funcs[fid]? = some fn) (hname : (fn.name == "runtime.NumGoroutine") = false) (hbody : fn.body.isSome = true) (p : Int → Bool) (A0 : Option Addr) (c0 : Nat) (l0 : List Int) (w : World) (hr0 : Kd.C (Kd.int .i64) w A0 l0.length l0) (hc0 : l0.length ≤ c0)
    (hf : ∀ (W : World) (x : Int), Below w.heap.size w W → Calls Tryd.prog fid (#[.int .i64 x] ++ caps) W fun e W' => e = .returned (.bool (p x)) ∧ Below W.heap.size W W') :
    Calls Tryd.prog 53 #[.slice A0 l0.length c0, .func (.func fid) #[] caps] w fun e w' => e = .returned (.int .i64 (idxFR p l0 0)) ∧ Below w.heap.size w w' := by
  have HR0 := Aside0.mk hr0
  have HC0 := Aside0.mk hc0
  have HF := Aside0.mk hf
  have HFN := Aside0.mk (And.intro hfn (And.intro hname hbody))
  clear hr0 hc0 hf hfn hname hbody
  have HB := Aside0.mk (Below.refl w.heap.size w)
  have HM := Aside0.mk (Kd.C_max HR0.out)
  go_enter Tryd.func53, Tryd.ntmps53
  go_wp2
  go_loopg [8] l0.length (fun kq v8 w' => ∃ (i : Nat) (r : List Int), v8 = .int .i64 i ∧ Aside0 (l0.drop i = r ∧ i + kq = l0.length) ∧ Aside0 (idxFR p r i = idxFR p l0 0) ∧ Aside0 (Below w.heap.size w w'))
  case atStart => exact ⟨0, l0, rfl, ⟨rfl, by omega⟩, ⟨rfl⟩, HB⟩
  case round =>
    obtain ⟨i, r, rfl, HD, HI, HB⟩ := hrel
    have hd := HD.out.1
    have hk := HD.out.2
    clear HD
    cases r with
    | nil =>
      have hle : l0.length ≤ i := List.drop_eq_nil_iff.1 hd
      have c1 : decide ((i : Int) < (l0.length : Int)) = false := decide_eq_false (by omega)
      have c2 : decide (i < l0.length) = false := decide_eq_false (by omega)
      have HI2 : idxFR p l0 0 = -1 := HI.out.symm
      clear hd hk hle HI
      have HI := Aside0.mk HI2
      clear HI2
      go_wp2
      go_ret
      exact ⟨by rw [HI.out]; rfl, HB.out⟩
    | cons x r =>
      obtain ⟨hx, hi, hd2⟩ := rdR_drop hd
      obtain ⟨k1, rfl⟩ : ∃ m, gk = m + 1 := ⟨gk - 1, by omega⟩
      have c1 : decide ((i : Int) < (l0.length : Int)) = true := decide_eq_true (by omega)
      have c2 : decide (i < l0.length) = true := decide_eq_true (by omega)
      have q0 : 0 ≤ (i : Int) := by omega
      have q1 : (i : Int) < (l0.length : Int) := by omega
      obtain ⟨ad155, e155, hx155_0⟩ := Kd.at_int HR0.out (i : Int) q0 q1
      cases e155
      rw [hx, Int.toNat_natCast] at hx155_0
      replace hx155_0 := (HB.out.cell (World.block_lt_of_cell? w _ hx155_0)).trans hx155_0
      have hm := HM.out
      have hsum : wrap64 ((i : Int) + 1) = ((i + 1 : Nat) : Int) := by unfold wrap64; omega
      have HS := Aside0.mk hsum
      have HD2 := Aside0.mk hd2
      have HK := Aside0.mk hk
      have HIL := Aside0.mk hi
      clear hd hd2 hk hx hsum hm
      by_cases hp : p x = true
      · have HI2 : idxFR p l0 0 = (i : Int) := by rw [← HI.out]; simp [idxFR, hp]
        have HC := Aside0.mk (HF.out wr x HB.out)
        rw [hp] at HC
        clear hp HI
        have HI := Aside0.mk HI2
        clear HI2
        go_wp2_with (first | ((with_reducible refine gate_valueR (s := 11) rfl ?_); refine goesVR_ (some 16) rfl rfl HFN.out.1 HFN.out.2.1 HFN.out.2.2 #[.int .i64 x] rfl rfl (by (try simp only [List.map_toArray, List.map_cons, List.map_nil]); first | done | rfl) ?_; refine HC.out.mono ?_; rintro e w7 ⟨rfl, hb⟩; refine ⟨_, rfl, ?_⟩; have n0_ := Aside0.mk (below_step HB.out hb); clear HB; have HB := n0_; clear n0_ hb))
        go_ret
        exact ⟨by rw [HI.out]; rfl, HB.out⟩
      · have hp2 : p x = false := by simpa using hp
        have HI2 : idxFR p r (((i + 1 : Nat) : Int)) = idxFR p l0 0 := by rw [← HI.out]; simp only [idxFR, hp2]; simp
        have HC := Aside0.mk (HF.out wr x HB.out)
        rw [hp2] at HC
        clear hp hp2 HI
        have HI := Aside0.mk HI2
        clear HI2
        go_wp2_with (first | ((with_reducible refine gate_valueR (s := 11) rfl ?_); refine goesVR_ (some 16) rfl rfl HFN.out.1 HFN.out.2.1 HFN.out.2.2 #[.int .i64 x] rfl rfl (by (try simp only [List.map_toArray, List.map_cons, List.map_nil]); first | done | rfl) ?_; refine HC.out.mono ?_; rintro e w7 ⟨rfl, hb⟩; refine ⟨_, rfl, ?_⟩; have n0_ := Aside0.mk (below_step HB.out hb); clear HB; have HB := n0_; clear n0_ hb))
        go_roundg k1
        case measure => omega
        case rel => exact ⟨i + 1, r, by rw [← HS.out], ⟨HD2.out, by have := HK.out; have := HIL.out; omega⟩, HI, HB⟩
def ring_first.f (a0 : Int) (l1 : List Int) : Option Int := some (max (idxFR (fun x => decide (a0 ≤ pointZ x)) l1 0) 0)
set_option maxHeartbeats 4000000 in
set_option maxRecDepth 100000 in
theorem ring_first.calls' (a0 : Int) (A1 : Option Addr) (c1 : Nat) (l1 : List Int) (w : World) (hr1 : Kd.C (Kd.int .i64) w A1 l1.length l1) (hc1 : l1.length ≤ c1) :
    Calls Tryd.prog 34 #[.int .u64 a0, .slice A1 l1.length c1] w fun e w' => e = .returned (.int .i64 (max (idxFR (fun x => decide (a0 ≤ pointZ x)) l1 0) 0)) ∧ Below w.heap.size w w' := by
  have HR := Aside0.mk hr1
  have HC := Aside0.mk hc1
  clear hr1 hc1
  have HB := Aside0.mk (Below.refl w.heap.size w)
  have HB1 := Aside0.mk (below_alloc HB.out (.cells #[.int .u64 a0] 49))
  have HN := Aside0.mk (show (w.alloc (.cells #[.int .u64 a0] 49)).cell? ⟨w.heap.size, 0, none⟩ = some (.int .u64 a0) by simp)
  have HF := Aside0.mk (indexFuncR_plain 54 #[.pointer (some ⟨w.heap.size, 0, none⟩)] Tryd.f54 Tryd.func54 (by kernel_rfl) rfl (fun x => decide (a0 ≤ pointZ x)) A1 c1 l1 _ (Kd.C_below HR.out HB1.out) HC.out (fun W x hW => (ring_first_1.calls x w.heap.size a0 W ((hW.cell (p := ⟨w.heap.size, 0, none⟩) (by simp)).trans HN.out)).mono fun _ _ h => ⟨h.1, h.2.below⟩))
  go_enter Tryd.func34, Tryd.ntmps34
  go_wp2_with ((with_reducible refine gate_callee (f := 53) rfl ?_); refine goesL_ (some 8) rfl rfl Tryd.func53 (by kernel_rfl) rfl #[.slice A1 l1.length c1, .func (.func 54) #[] #[.pointer (some ⟨w.heap.size, 0, none⟩)]] rfl (by (try simp only [List.map_toArray, List.map_cons, List.map_nil]); first | done | rfl) ?_; (with_reducible refine (HF.out).mono ?_); rintro e w8 ⟨rfl, hb⟩; refine ⟨_, rfl, ?_⟩; have n0_ := Aside0.mk (below_step HB1.out hb); clear HB; have HB := n0_; clear n0_ hb)
  all_goals (go_ret; exact ⟨by first | rfl | exact NC.ret_int (by omega), HB.out⟩)
theorem ring_first.calls (a0 : Int) (A1 : Option Addr) (c1 : Nat) (l1 : List Int) (r : Int) (w : World) (hr1 : Kd.C (Kd.int .i64) w A1 l1.length l1) (hc1 : l1.length ≤ c1) (h : ring_first.f a0 l1 = some r) :
    Calls Tryd.prog 34 #[.int .u64 a0, .slice A1 l1.length c1] w fun e w' => e = .returned (.int .i64 r) ∧ Below w.heap.size w w' := by
  obtain rfl := Option.some.inj h
  exact ring_first.calls' a0 A1 c1 l1 w hr1 hc1

/-! ### ring_Heirs: function 22 (a contract of this session's own) -/
theorem info_int : (Tryd.prog.info? 3).map (fun i => (i.zero, i.size, i.bytes)) = some (some (.int .i64 0), 1, 8) := by kernel_rfl
theorem grow_nil (n : Nat) (hn : n * 8 ≤ 140737488355328) (w : World) :
    Calls Tryd.prog 55 #[.slice none 0 0, .int .i64 n] w fun e w' => ∃ v, e = .returned v ∧ (Kd.int .i64).R 3 w' w.heap.size (fun _ => True) v [] ∧ Below w.heap.size w w' := by
  rcases Nat.eq_zero_or_pos n with rfl | h0
  · refine (Any8.slices_Grow_room Tryd.growI none 0 0 0 w (Nat.le_refl _) (by decide) (by decide) (Nat.le_refl _)).mono ?_
    rintro e w' ⟨rfl, rfl⟩
    exact ⟨_, rfl, Kd.R_nil _ _ _ _ _, Below.refl _ _⟩
  · have hi := info_int
    cases hq : Tryd.prog.info? 3 with
    | none => rw [hq] at hi; cases hi
    | some i0 =>
      rw [hq] at hi
      simp only [Option.map_some, Option.some.injEq, Prod.mk.injEq] at hi
      obtain ⟨hz, hs, hb⟩ := hi
      refine (Any8.slices_Grow_grow Tryd.growI i0 (.int .i64 0) hq hz (by omega) none 0 0 n [] w (Nat.le_refl _) (by omega) (by rw [hb]; omega) (by omega) (by simp) (fun _ => rfl) (fun a h => by cases h)).mono ?_
      rintro e w' ⟨rfl, rfl⟩
      have hg := grownCap_ge w n 0 3
      have hm := grownCap_le_maxLen w (0 + n) 0 3 (by unfold maxLen; omega)
      refine ⟨_, rfl, R_of_own [] ⟨by simp, .inr ⟨w.heap.size, _, _, rfl, Nat.le_refl _, heap_alloc_new w.drew _, Nat.zero_le _, hm, ?_, by simp⟩⟩, below_alloc (below_drew (Below.refl _ w)) _⟩
      show (_ ++ _ ++ _ : Array Value).size = grownCap w (0 + n) 0 3 * 1
      rw [Array.size_append, Array.size_append, size_zeroCells, size_zeroCells]
      show ([] : List Value).toArray.size + (0 + n - 0) * 1 + (grownCap w (0 + n) 0 3 - (0 + n)) * 1 = _
      simp
      omega
set_option maxHeartbeats 4000000 in
set_option maxRecDepth 100000 in
theorem concat_two (p : Nat) (A1 A2 : Option Addr) (c1 c2 : Nat) (xs ys : List Int) (w : World) (h0 : w.cell? ⟨p, 0, none⟩ = some (.slice A1 xs.length c1)) (h1 : w.cell? ⟨p, 1, none⟩ = some (.slice A2 ys.length c2))
    (hx : Kd.C (Kd.int .i64) w A1 xs.length xs) (hy : Kd.C (Kd.int .i64) w A2 ys.length ys) (hl : (xs.length + ys.length) * 8 ≤ 140737488355328) :
    Calls Tryd.prog 35 #[.slice (some ⟨p, 0, none⟩) 2 2] w fun e w' => ∃ v, e = .returned v ∧ (Kd.int .i64).R 3 w' w.heap.size (fun _ => True) v (xs ++ ys) ∧ Below w.heap.size w w' := by
  have HX := Aside0.mk hx
  have HY := Aside0.mk hy
  have HL := Aside0.mk hl
  have HB0 := Aside0.mk (Below.refl w.heap.size w)
  have hp := World.block_lt_of_cell? w _ h0
  have H0 := Aside0.mk h0
  have H1 := Aside0.mk h1
  have HP := Aside0.mk hp
  have s1 : wrap64 (xs.length : Int) = (xs.length : Int) := by unfold wrap64; omega
  have s2 : wrap64 ((xs.length : Int) + (ys.length : Int)) = (xs.length : Int) + (ys.length : Int) := by unfold wrap64; omega
  have d1 : decide ((xs.length : Int) < 0) = false := decide_eq_false (by omega)
  have d2 : decide ((xs.length : Int) + (ys.length : Int) < 0) = false := decide_eq_false (by omega)
  have hg := grow_nil (xs.length + ys.length) hl w
  rw [Int.natCast_add] at hg
  have HG := Aside0.mk hg
  clear hx hy hl hp hg
  go_enter Tryd.func35, Tryd.ntmps35
  go_wp2
  go_loopg [3, 11] 2 (fun kq v3 v11 w' => w = w' ∧ ((kq = 2 ∧ v3 = .int .i64 0 ∧ v11 = .int .i64 0) ∨ (kq = 1 ∧ v3 = .int .i64 xs.length ∧ v11 = .int .i64 1) ∨ (kq = 0 ∧ v3 = .int .i64 ((xs.length : Int) + (ys.length : Int)) ∧ v11 = .int .i64 2)))
  case atStart => exact ⟨rfl, .inl ⟨rfl, rfl, rfl⟩⟩
  case round =>
    obtain ⟨rfl, h | h | h⟩ := hrel
    · obtain ⟨rfl, rfl, rfl⟩ := h
      go_wp2
      go_roundg 1
      case measure => omega
      case rel => exact ⟨rfl, .inr (.inl ⟨rfl, by rw [s1], rfl⟩)⟩
    · obtain ⟨rfl, rfl, rfl⟩ := h
      go_wp2
      go_roundg 0
      case measure => omega
      case rel => exact ⟨rfl, .inr (.inr ⟨rfl, by rw [s2], rfl⟩)⟩
    · obtain ⟨rfl, rfl, rfl⟩ := h
      clear s1 s2 d1 d2 h0 h1
      go_wp2_with (first | ((with_reducible refine gate_callee (f := 55) rfl ?_); refine goesL_ (some 24) rfl rfl Tryd.func55 (by kernel_rfl) rfl #[.slice none 0 0, .int .i64 ((xs.length : Int) + (ys.length : Int))] rfl (by (try simp only [List.map_toArray, List.map_cons, List.map_nil]); first | done | rfl) ?_; (with_reducible refine HG.out.mono ?_); rintro e w1 ⟨v1, rfl, hv1, hb1⟩; refine ⟨_, rfl, ?_⟩; have HV1 := Aside0.mk hv1; have HB1 := Aside0.mk hb1; clear hv1 hb1))
      go_loopg [6, 27] 2 (fun kq v6 v27 w' => Aside0 (Below w.heap.size w w') ∧ ((kq = 2 ∧ Aside0 ((Kd.int .i64).R 3 w' w.heap.size (fun _ => True) v6 []) ∧ v27 = .int .i64 0) ∨ (kq = 1 ∧ Aside0 ((Kd.int .i64).R 3 w' w.heap.size (fun _ => True) v6 xs) ∧ v27 = .int .i64 1) ∨ (kq = 0 ∧ Aside0 ((Kd.int .i64).R 3 w' w.heap.size (fun _ => True) v6 (xs ++ ys)) ∧ v27 = .int .i64 2)))
      case atStart => exact ⟨HB1, .inl ⟨rfl, HV1, rfl⟩⟩
      case round =>
        clear HB1 HV1
        obtain ⟨HB, h | h | h⟩ := hrel
        · obtain ⟨rfl, HV, rfl⟩ := h
          have l0 := (HB.out.cell (p := ⟨p, 0, none⟩) HP.out).trans H0.out
          go_wp2_with ((with_reducible refine gate_builtin (b := .append) (xs := #[.tmp 31, .tmp 32]) rfl ?_); at_builtin; refine Kd.R_append_rows (Kd.int .i64) (w0 := w) w.heap.size rfl (.tmp 31) (.tmp 32) 27 3 (.int .i64 0) 8 rfl Tryd.underlying27 info_int rfl (by decide) (by omega) _ [] xs A1 xs.length c1 (fun _ => True) (fun _ => False) rfl rfl HV.out (Kd.C_below HX.out HB.out) (fun x cs h => h) (fun _ h => h.elim) (fun _ _ => trivial) HB.out HB.out.size (by have := HL.out; simp; omega) ?_; intro v1 w1 h1 h2 h3 h4; have HV2 := Aside0.mk h1; have HB2 := Aside0.mk h2; clear h1 h2 h3 h4)
          go_roundg 1
          case measure => omega
          case rel => exact ⟨HB2, .inr (.inl ⟨rfl, ⟨by simpa using HV2.out⟩, rfl⟩)⟩
        · obtain ⟨rfl, HV, rfl⟩ := h
          have l0 := (HB.out.cell (p := ⟨p, 1, none⟩) HP.out).trans H1.out
          go_wp2_with ((with_reducible refine gate_builtin (b := .append) (xs := #[.tmp 31, .tmp 32]) rfl ?_); at_builtin; refine Kd.R_append_rows (Kd.int .i64) (w0 := w) w.heap.size rfl (.tmp 31) (.tmp 32) 27 3 (.int .i64 0) 8 rfl Tryd.underlying27 info_int rfl (by decide) (by omega) _ xs ys A2 ys.length c2 (fun _ => True) (fun _ => False) rfl rfl HV.out (Kd.C_below HY.out HB.out) (fun x cs h => h) (fun _ h => h.elim) (fun _ _ => trivial) HB.out HB.out.size HL.out ?_; intro v1 w1 h1 h2 h3 h4; have HV2 := Aside0.mk h1; have HB2 := Aside0.mk h2; clear h1 h2 h3 h4)
          go_roundg 0
          case measure => omega
          case rel => exact ⟨HB2, .inr (.inr ⟨rfl, HV2, rfl⟩)⟩
        · obtain ⟨rfl, HV, rfl⟩ := h
          go_wp2
          go_ret
          exact ⟨_, rfl, HV.out, HB.out⟩
def ring_Heirs.f (k : Nat) (a0 : Int) (l1 : List Int) (a2 : Int) : Option (List Int) := (ring_Ring.f k l1).bind fun r => if r.length = 0 then some [] else (ring_first.f a0 r).bind fun i => some (((r.drop i.toNat) ++ (r.take i.toNat)).take (min (max a2 0) r.length).toNat)
theorem ring_Heirs.mono : ∀ a0 a1 a2 k, LeO (ring_Heirs.f k a0 a1 a2) (ring_Heirs.f (k + 1) a0 a1 a2) := by
  intro a0 a1 a2 k
  unfold ring_Heirs.f
  exact LeO.bind (ring_Ring.mono _ _) fun _ => LeO.refl _
theorem idxFR_le (p : Int → Bool) : ∀ (l : List Int) (i : Int), idxFR p l i = -1 ∨ (i ≤ idxFR p l i ∧ idxFR p l i < i + l.length)
  | [], _ => .inl rfl
  | x :: l, i => by
    unfold idxFR
    by_cases h : p x = true
    · rw [if_pos h]; right; simp; omega
    · rw [if_neg h]
      rcases idxFR_le p l (i + 1) with h | h
      · exact .inl h
      · right; simp; omega
theorem R_take {w : World} {base n c m : Nat} {ok : Nat → Prop} {A : Option Addr} {xs : List Int} (h : (Kd.int .i64).R 3 w base ok (.slice A n c) xs) (hm : m ≤ xs.length) : (Kd.int .i64).R 3 w base (fun _ => True) (.slice A m c) (xs.take m) := by
  have ho := own_of_R h
  have hn : n = xs.length := by
    rcases own_le' ho with ⟨he, h0⟩ | ⟨g, cap, cur, he, _⟩
    · injection he with _ h2 _; omega
    · injection he
  subst hn
  have h2 := own_take ho hm
  rw [Nat.mul_one, ← List.map_take] at h2
  refine R_of_own _ ?_
  rw [List.length_take, Nat.min_eq_left hm]
  exact h2
theorem ring_Ring_small {k : Nat} {l q : List Int} (h : ring_Ring.f k l = some q) : q.length * 8 ≤ 140737488355328 := by
  obtain ⟨t, _, h⟩ := Option.bind_eq_some_iff.1 h
  split at h
  · split at h
    · obtain rfl := Option.some.inj h
      rw [sortZ_len]
      assumption
    · cases h
  · obtain rfl := Option.some.inj h
    simp
set_option maxHeartbeats 4000000 in
set_option maxRecDepth 100000 in
theorem ring_Heirs.calls (k : Nat) (a0 : Int) (A1 : Option Addr) (c1 : Nat) (l1 : List Int) (a2 : Int) (r : List Int) (w : World) (hr1 : Kd.C (Kd.int .i64) w A1 l1.length l1) (hc1 : l1.length ≤ c1) (h : ring_Heirs.f k a0 l1 a2 = some r) :
    Calls Tryd.prog 22 #[.int .u64 a0, .slice A1 l1.length c1, .int .i64 a2] w fun e w' => ∃ v0_ : Value, e = .returned (v0_) ∧ Kd.R (Kd.int .i64) 3 w' w.heap.size (fun _ => True) v0_ r ∧ Below w.heap.size w w' := by
  obtain ⟨q, hQ, h⟩ := Option.bind_eq_some_iff.1 h
  have HRG := Aside0.mk (ring_Ring.calls k A1 c1 l1 q w hr1 hc1 hQ)
  have hqs := ring_Ring_small hQ
  by_cases hq : q.length = 0
  · rw [if_pos hq] at h
    obtain rfl := Option.some.inj h
    obtain rfl := List.eq_nil_of_length_eq_zero hq
    clear h hr1 hc1 hQ hq hqs
    go_enter Tryd.func22, Tryd.ntmps22
    go_wp2_with (first
      | ((with_reducible refine gate_callee (f := 33) rfl ?_); refine goesL_ (some 11) rfl rfl Tryd.func33 (by kernel_rfl) rfl #[.slice A1 l1.length c1] rfl (by (try simp only [List.map_toArray, List.map_cons, List.map_nil]); first | done | rfl) ?_; (with_reducible refine HRG.out.mono ?_); rintro e w1 ⟨v1, rfl, hv1, hb1⟩; refine ⟨_, rfl, ?_⟩; obtain ⟨A, c, rfl, hAc, hA⟩ := Kd.R_reads hv1; have HB1 := Aside0.mk hb1; clear hv1 hb1 hA hAc))
    go_ret
    exact ⟨_, rfl, Kd.R_nil _ _ _ _ _, HB1.out⟩
  · rw [if_neg hq] at h
    have h : some (((q.drop (max (idxFR (fun x => decide (a0 ≤ pointZ x)) q 0) 0).toNat) ++ (q.take (max (idxFR (fun x => decide (a0 ≤ pointZ x)) q 0) 0).toNat)).take (min (max a2 0) q.length).toNat) = some r := h
    have hid := idxFR_le (fun x => decide (a0 ≤ pointZ x)) q 0
    have hfi := fun (A : Option Addr) (c : Nat) (W : World) => ring_first.calls' a0 A c q W
    obtain ⟨i, hi⟩ : ∃ i : Nat, max (idxFR (fun x => decide (a0 ≤ pointZ x)) q 0) 0 = (i : Int) := ⟨(max (idxFR (fun x => decide (a0 ≤ pointZ x)) q 0) 0).toNat, by omega⟩
    have hil : i < q.length := by omega
    rw [hi] at h
    simp only [hi] at hfi
    rw [Int.toNat_natCast] at h
    have HFI := Aside0.mk hfi
    clear hfi hid hi
    have hq0 : decide ((q.length : Int) = 0) = false := decide_eq_false (by omega)
    have hq1 : ((q.length : Int) == 0) = false := by rw [beq_eq_false_iff_ne]; omega
    have HH := Aside0.mk h
    clear h hr1 hc1 hQ
    have hi1 : decide ((i : Int) ≤ (q.length : Int)) = true := decide_eq_true (by omega)
    go_enter Tryd.func22, Tryd.ntmps22
    go_wp2_with (first
      | ((with_reducible refine gate_callee (f := 33) rfl ?_); refine goesL_ (some 11) rfl rfl Tryd.func33 (by kernel_rfl) rfl #[.slice A1 l1.length c1] rfl (by (try simp only [List.map_toArray, List.map_cons, List.map_nil]); first | done | rfl) ?_; (with_reducible refine HRG.out.mono ?_); rintro e w1 ⟨v1, rfl, hv1, hb1⟩; refine ⟨_, rfl, ?_⟩; obtain ⟨A, c, rfl, hAc, hA⟩ := Kd.R_reads hv1; have HA := Aside0.mk hA; have HAC := Aside0.mk hAc; have HB1 := Aside0.mk hb1; clear hv1 hb1 hA hAc)
      | ((with_reducible refine gate_callee (f := 34) rfl ?_); refine goesL_ (some 17) rfl rfl Tryd.func34 (by kernel_rfl) rfl #[.int .u64 a0, .slice A q.length c] rfl (by (try simp only [List.map_toArray, List.map_cons, List.map_nil]); first | done | rfl) ?_; (with_reducible refine (HFI.out A c w1 HA.out HAC.out).mono ?_); rintro e w2 ⟨rfl, hb2⟩; refine ⟨_, rfl, ?_⟩; have HB2 := Aside0.mk hb2; clear hb2))
    obtain ⟨i0, hi0, hsz0⟩ : ∃ i0, Tryd.prog.info? 3 = some i0 ∧ i0.size = 1 := by
      have hi := info_int
      cases hq : Tryd.prog.info? 3 with
      | none => rw [hq] at hi; cases hi
      | some i0 =>
        rw [hq] at hi
        simp only [Option.map_some, Option.some.injEq, Prod.mk.injEq] at hi
        exact ⟨i0, rfl, hi.2.1⟩
    obtain ⟨A', hd1, hd2, hd3⟩ := print_drop_of (P := Tryd.prog) (Value.int .i64) (0 : Int) 27 3 .i64 Tryd.underlying27 hi0 hsz0 A c q (i : Int) (by omega) (by omega) HAC.out
    obtain ⟨ht1, ht2, ht3⟩ := print_take_of (P := Tryd.prog) (Value.int .i64) (0 : Int) 27 3 .i64 Tryd.underlying27 hi0 hsz0 A c q (i : Int) (by omega) (by omega) HAC.out
    rw [Int.toNat_natCast] at hd1 hd2 hd3 ht1 ht2 ht3
    have HD2 := Aside0.mk hd2
    have HT2 := Aside0.mk ht2
    clear hd2 ht2 hi0 hsz0 hd3 ht3
    go_still_tail 6, (by kernel_rfl)
    change wpList _ _ _ _ _ w2.drew
    have hA2 := Kd.C_below HA.out HB2.out
    have hCd : Kd.C (Kd.int .i64) w2 A' (q.drop i).length (q.drop i) := Kd.C_of_reads (HD2.out w2 (Kd.reads_of_C hA2))
    have hCt : Kd.C (Kd.int .i64) w2 A (q.take i).length (q.take i) := Kd.C_of_reads (HT2.out w2 (Kd.reads_of_C hA2))
    have hbw : Below w2.heap.size w2 ((w2.alloc (.cells #[.slice A' (q.length - i) (c - i), .slice A (min i q.length) c] 27)).drew) := below_drew (below_alloc (Below.refl _ w2) _)
    have hcc := concat_two w2.heap.size A' A (c - i) c (q.drop i) (q.take i) ((w2.alloc (.cells #[.slice A' (q.length - i) (c - i), .slice A (min i q.length) c] 27)).drew)
      (by rw [List.length_drop]; refine (cell_of_row _ w2.heap.size 0 _ _ (0, 0) (heap_alloc_new w2 _)).trans ?_; simp)
      (by rw [List.length_take]; refine (cell_of_row _ w2.heap.size 1 _ _ (0, 0) (heap_alloc_new w2 _)).trans ?_; simp)
      (Kd.C_below hCd hbw) (Kd.C_below hCt hbw) (by rw [List.length_drop, List.length_take]; omega)
    have HCC := Aside0.mk hcc
    have HBW := Aside0.mk hbw
    clear hcc hbw hCd hCt hA2
    go_wp2_with (first
      | ((with_reducible refine gate_callee (f := 35) rfl ?_); refine goesL_ (some 25) rfl rfl Tryd.func35 (by kernel_rfl) rfl #[.slice (some ⟨w2.heap.size, 0, none⟩) 2 2] rfl (by (try simp only [List.map_toArray, List.map_cons, List.map_nil]); first | done | rfl) ?_; (with_reducible refine HCC.out.mono ?_); rintro e w3 ⟨v3, rfl, hv3, hb3⟩; refine ⟨_, rfl, ?_⟩; have HV3 := Aside0.mk hv3; have HB3 := Aside0.mk hb3; clear hv3 hb3; obtain ⟨A3, c3, rfl, hc3, hr3⟩ := Kd.R_reads HV3.out; clear hr3))
    all_goals
      have hr := Option.some.inj HH.out
      have hql : (q.drop i ++ q.take i).length = q.length := by simp; omega
      have hc3' := hc3
      rw [List.length_append, List.length_drop, List.length_take] at hc3'
      first
        | (exfalso; omega)
        | (have z1 := HB1.out.size
           have z2 := HB2.out.size
           have z3 := HBW.out.size
           have hB := Below.trans HB1.out (Below.trans (HB2.out.mono z1) (Below.trans (HBW.out.mono (Nat.le_trans z1 z2)) (HB3.out.mono (Nat.le_trans (Nat.le_trans z1 z2) z3))))
           have h3 := R_take HV3.out (m := (min (max a2 0) q.length).toNat) (by rw [hql]; omega)
           rw [hr] at h3
           have h4 := Kd.R_lower h3 (Nat.le_trans (Nat.le_trans z1 z2) z3)
           have h5 : ∀ m, m = (min (max a2 0) q.length).toNat → (Kd.int .i64).R 3 w3 w.heap.size (fun _ => True) (.slice A3 m c3) r := by rintro m rfl; exact h4
           go_ret
           exact ⟨_, rfl, h5 _ (by omega), hB⟩)

/-! ### utf8_ValidString: function 56 (a contract of this session's own) -/
def utf8_ValidString.f (a0 : ByteArray) : Option Bool := if a0.size ≤ 140737488351232 then some (Lib.validD a0.data.toList) else none
theorem utf8_ValidString.calls (a0 : ByteArray) (r : Bool) (w : World) (h : utf8_ValidString.f a0 = some r) (hT : NC.TabW w) :
    Calls Tryd.prog 56 #[.string a0] w fun e w' => e = .returned (.bool r) ∧ Below w.heap.size w w' := by
  unfold utf8_ValidString.f at h
  by_cases hs : a0.size ≤ 140737488351232
  · rw [if_pos hs] at h
    obtain rfl := Option.some.inj h
    exact Any.utf8_ValidString Tryd.lays196 a0 w (by omega) hT
  · rw [if_neg hs] at h
    cases h

/-! ### name_between: function 69 -/
def name_between.f (a0 : Int) (a1 : Int) (a2 : Int) : Option (Bool) := if a0 ≥ a1 then (some (decide (a0 ≤ a2))) else (some false)
set_option maxHeartbeats 8000000 in
set_option maxRecDepth 100000 in
theorem name_between.calls (a0 : Int) (a1 : Int) (a2 : Int) (r : Bool) (w : World) (h : name_between.f a0 a1 a2 = some r) :
    Calls Tryd.prog 69 #[.int .i32 a0, .int .i32 a1, .int .i32 a2] w fun e w' => e = .returned (.bool r) ∧ Drawn0 w w' := by
  have H : (if a0 ≥ a1 then (some (decide (a0 ≤ a2))) else (some false)) = some r := h
  clear h
  by_cases c4 : a0 ≥ a1
  · rw [if_pos c4] at H
    have c4b0 : decide (a1 ≤ a0) = true := decide_eq_true c4
    clear c4
    obtain rfl := Option.some.inj H
    go_enter Tryd.func69, Tryd.ntmps69
    go_wp2
    go_ret
    exact ⟨by first | rfl | (simp; done) | (simp [*]; done), by repeat (first | exact Drawn0.refl _ | apply Drawn0.step)⟩
  · rw [if_neg c4] at H
    have c4b0 : decide (a1 ≤ a0) = false := decide_eq_false c4
    clear c4
    obtain rfl := Option.some.inj H
    go_enter Tryd.func69, Tryd.ntmps69
    go_wp2
    go_ret
    exact ⟨by first | rfl | (simp; done) | (simp [*]; done), by repeat (first | exact Drawn0.refl _ | apply Drawn0.step)⟩

/-! ### name_Small: function 57 -/
def name_Small.f (a0 : Int) : Option (Int) := (name_between.f a0 65 90).bind fun t216 => (if t216 = true then (some (wrap32 (a0 + 32))) else ((name_between.f a0 192 222).bind fun t217 => (if t217 = true then (if a0 = 215 then ((name_between.f a0 913 937).bind fun t218 => (if t218 = true then (if a0 = 930 then ((name_between.f a0 1040 1071).bind fun t219 => (if t219 = true then (some (wrap32 (a0 + 32))) else (some a0))) else (some (wrap32 (a0 + 32)))) else ((name_between.f a0 1040 1071).bind fun t220 => (if t220 = true then (some (wrap32 (a0 + 32))) else (some a0))))) else (some (wrap32 (a0 + 32)))) else ((name_between.f a0 913 937).bind fun t221 => (if t221 = true then (if a0 = 930 then ((name_between.f a0 1040 1071).bind fun t222 => (if t222 = true then (some (wrap32 (a0 + 32))) else (some a0))) else (some (wrap32 (a0 + 32)))) else ((name_between.f a0 1040 1071).bind fun t223 => (if t223 = true then (some (wrap32 (a0 + 32))) else (some a0))))))))
set_option maxHeartbeats 8000000 in
set_option maxRecDepth 100000 in
theorem name_Small.calls (a0 : Int) (r : Int) (w : World) (h : name_Small.f a0 = some r) :
    Calls Tryd.prog 57 #[.int .i32 a0] w fun e w' => e = .returned (.int .i32 r) ∧ Drawn0 w w' := by
  have H : ((name_between.f a0 65 90).bind fun t216 => (if t216 = true then (some (wrap32 (a0 + 32))) else ((name_between.f a0 192 222).bind fun t217 => (if t217 = true then (if a0 = 215 then ((name_between.f a0 913 937).bind fun t218 => (if t218 = true then (if a0 = 930 then ((name_between.f a0 1040 1071).bind fun t219 => (if t219 = true then (some (wrap32 (a0 + 32))) else (some a0))) else (some (wrap32 (a0 + 32)))) else ((name_between.f a0 1040 1071).bind fun t220 => (if t220 = true then (some (wrap32 (a0 + 32))) else (some a0))))) else (some (wrap32 (a0 + 32)))) else ((name_between.f a0 913 937).bind fun t221 => (if t221 = true then (if a0 = 930 then ((name_between.f a0 1040 1071).bind fun t222 => (if t222 = true then (some (wrap32 (a0 + 32))) else (some a0))) else (some (wrap32 (a0 + 32)))) else ((name_between.f a0 1040 1071).bind fun t223 => (if t223 = true then (some (wrap32 (a0 + 32))) else (some a0))))))))) = some r := h
  clear h
  replace H := Option.bind_eq_some_iff.mp H
  obtain ⟨t216, A20, H⟩ := H
  replace H : (if t216 = true then (some (wrap32 (a0 + 32))) else ((name_between.f a0 192 222).bind fun t217 => (if t217 = true then (if a0 = 215 then ((name_between.f a0 913 937).bind fun t218 => (if t218 = true then (if a0 = 930 then ((name_between.f a0 1040 1071).bind fun t219 => (if t219 = true then (some (wrap32 (a0 + 32))) else (some a0))) else (some (wrap32 (a0 + 32)))) else ((name_between.f a0 1040 1071).bind fun t220 => (if t220 = true then (some (wrap32 (a0 + 32))) else (some a0))))) else (some (wrap32 (a0 + 32)))) else ((name_between.f a0 913 937).bind fun t221 => (if t221 = true then (if a0 = 930 then ((name_between.f a0 1040 1071).bind fun t222 => (if t222 = true then (some (wrap32 (a0 + 32))) else (some a0))) else (some (wrap32 (a0 + 32)))) else ((name_between.f a0 1040 1071).bind fun t223 => (if t223 = true then (some (wrap32 (a0 + 32))) else (some a0)))))))) = some r := H
  have A2 := Aside0.mk A20
  clear A20
  by_cases c3 : t216 = true
  · subst c3
    have H1 : (some (wrap32 (a0 + 32))) = some r := by rw [if_pos rfl] at H; exact H
    clear H
    have H := H1
    clear H1
    obtain rfl := Option.some.inj H
    go_enter Tryd.func57, Tryd.ntmps57
    go_wp2_with (first | ((with_reducible refine gate_callee (f := 69) rfl ?_); refine goesL_ (some 4) rfl rfl Tryd.func69 (by kernel_rfl) rfl #[.int .i32 a0, .int .i32 65, .int .i32 90] rfl (by (try simp only [List.map_toArray, List.map_cons, List.map_nil]); first | done | rfl | (simp only [List.length_drop, List.length_take]; rfl)) ?_; (with_reducible refine (name_between.calls a0 65 90 true _ A2.out).mono ?_); rintro e w' ⟨rfl, ⟨nd, rfl⟩⟩; refine ⟨_, rfl, ?_⟩))
    go_ret
    exact ⟨by first | rfl | (simp; done) | (simp [*]; done), by repeat (first | exact Drawn0.refl _ | apply Drawn0.step)⟩
  · replace c3 := Bool.eq_false_iff.mpr c3
    subst c3
    have H1 : ((name_between.f a0 192 222).bind fun t217 => (if t217 = true then (if a0 = 215 then ((name_between.f a0 913 937).bind fun t218 => (if t218 = true then (if a0 = 930 then ((name_between.f a0 1040 1071).bind fun t219 => (if t219 = true then (some (wrap32 (a0 + 32))) else (some a0))) else (some (wrap32 (a0 + 32)))) else ((name_between.f a0 1040 1071).bind fun t220 => (if t220 = true then (some (wrap32 (a0 + 32))) else (some a0))))) else (some (wrap32 (a0 + 32)))) else ((name_between.f a0 913 937).bind fun t221 => (if t221 = true then (if a0 = 930 then ((name_between.f a0 1040 1071).bind fun t222 => (if t222 = true then (some (wrap32 (a0 + 32))) else (some a0))) else (some (wrap32 (a0 + 32)))) else ((name_between.f a0 1040 1071).bind fun t223 => (if t223 = true then (some (wrap32 (a0 + 32))) else (some a0))))))) = some r := by rw [if_neg (show ¬ (false = true) by decide)] at H; exact H
    clear H
    have H := H1
    clear H1
    replace H := Option.bind_eq_some_iff.mp H
    obtain ⟨t217, A40, H⟩ := H
    replace H : (if t217 = true then (if a0 = 215 then ((name_between.f a0 913 937).bind fun t218 => (if t218 = true then (if a0 = 930 then ((name_between.f a0 1040 1071).bind fun t219 => (if t219 = true then (some (wrap32 (a0 + 32))) else (some a0))) else (some (wrap32 (a0 + 32)))) else ((name_between.f a0 1040 1071).bind fun t220 => (if t220 = true then (some (wrap32 (a0 + 32))) else (some a0))))) else (some (wrap32 (a0 + 32)))) else ((name_between.f a0 913 937).bind fun t221 => (if t221 = true then (if a0 = 930 then ((name_between.f a0 1040 1071).bind fun t222 => (if t222 = true then (some (wrap32 (a0 + 32))) else (some a0))) else (some (wrap32 (a0 + 32)))) else ((name_between.f a0 1040 1071).bind fun t223 => (if t223 = true then (some (wrap32 (a0 + 32))) else (some a0)))))) = some r := H
    have A4 := Aside0.mk A40
    clear A40
    by_cases c5 : t217 = true
    · subst c5
      have H1 : (if a0 = 215 then ((name_between.f a0 913 937).bind fun t218 => (if t218 = true then (if a0 = 930 then ((name_between.f a0 1040 1071).bind fun t219 => (if t219 = true then (some (wrap32 (a0 + 32))) else (some a0))) else (some (wrap32 (a0 + 32)))) else ((name_between.f a0 1040 1071).bind fun t220 => (if t220 = true then (some (wrap32 (a0 + 32))) else (some a0))))) else (some (wrap32 (a0 + 32)))) = some r := by rw [if_pos rfl] at H; exact H
      clear H
      have H := H1
      clear H1
      by_cases c6 : a0 = 215
      · rw [if_pos c6] at H
        have c6b0 : (a0 == 215) = true := beq_iff_eq.mpr c6
        have c6b1 : (a0 != 215) = false := bne_eq_false_iff_eq.mpr c6
        clear c6
        replace H := Option.bind_eq_some_iff.mp H
        obtain ⟨t218, A70, H⟩ := H
        replace H : (if t218 = true then (if a0 = 930 then ((name_between.f a0 1040 1071).bind fun t219 => (if t219 = true then (some (wrap32 (a0 + 32))) else (some a0))) else (some (wrap32 (a0 + 32)))) else ((name_between.f a0 1040 1071).bind fun t220 => (if t220 = true then (some (wrap32 (a0 + 32))) else (some a0)))) = some r := H
        have A7 := Aside0.mk A70
        clear A70
        by_cases c8 : t218 = true
        · subst c8
          have H1 : (if a0 = 930 then ((name_between.f a0 1040 1071).bind fun t219 => (if t219 = true then (some (wrap32 (a0 + 32))) else (some a0))) else (some (wrap32 (a0 + 32)))) = some r := by rw [if_pos rfl] at H; exact H
          clear H
          have H := H1
          clear H1
          by_cases c9 : a0 = 930
          · rw [if_pos c9] at H
            have c9b0 : (a0 == 930) = true := beq_iff_eq.mpr c9
            have c9b1 : (a0 != 930) = false := bne_eq_false_iff_eq.mpr c9
            clear c9
            replace H := Option.bind_eq_some_iff.mp H
            obtain ⟨t219, A100, H⟩ := H
            replace H : (if t219 = true then (some (wrap32 (a0 + 32))) else (some a0)) = some r := H
            have A10 := Aside0.mk A100
            clear A100
            by_cases c11 : t219 = true
            · subst c11
              have H1 : (some (wrap32 (a0 + 32))) = some r := by rw [if_pos rfl] at H; exact H
              clear H
              have H := H1
              clear H1
              obtain rfl := Option.some.inj H
              go_enter Tryd.func57, Tryd.ntmps57
              go_wp2_with (first | ((with_reducible refine gate_callee (f := 69) rfl ?_); refine goesL_ (some 4) rfl rfl Tryd.func69 (by kernel_rfl) rfl #[.int .i32 a0, .int .i32 65, .int .i32 90] rfl (by (try simp only [List.map_toArray, List.map_cons, List.map_nil]); first | done | rfl | (simp only [List.length_drop, List.length_take]; rfl)) ?_; (with_reducible refine (name_between.calls a0 65 90 false _ A2.out).mono ?_); rintro e w' ⟨rfl, ⟨nd, rfl⟩⟩; refine ⟨_, rfl, ?_⟩) | (go_at_call 69; (with_reducible refine (name_between.calls a0 192 222 true _ A4.out).mono ?_); rintro e w' ⟨rfl, ⟨nd, rfl⟩⟩) | (go_at_call 69; (with_reducible refine (name_between.calls a0 913 937 true _ A7.out).mono ?_); rintro e w' ⟨rfl, ⟨nd, rfl⟩⟩) | (go_at_call 69; (with_reducible refine (name_between.calls a0 1040 1071 true _ A10.out).mono ?_); rintro e w' ⟨rfl, ⟨nd, rfl⟩⟩))
              go_ret
              exact ⟨by first | rfl | (simp; done) | (simp [*]; done), by repeat (first | exact Drawn0.refl _ | apply Drawn0.step)⟩
            · replace c11 := Bool.eq_false_iff.mpr c11
              subst c11
              have H1 : (some a0) = some r := by rw [if_neg (show ¬ (false = true) by decide)] at H; exact H
              clear H
              have H := H1
              clear H1
              obtain rfl := Option.some.inj H
              go_enter Tryd.func57, Tryd.ntmps57
              go_wp2_with (first | ((with_reducible refine gate_callee (f := 69) rfl ?_); refine goesL_ (some 4) rfl rfl Tryd.func69 (by kernel_rfl) rfl #[.int .i32 a0, .int .i32 65, .int .i32 90] rfl (by (try simp only [List.map_toArray, List.map_cons, List.map_nil]); first | done | rfl | (simp only [List.length_drop, List.length_take]; rfl)) ?_; (with_reducible refine (name_between.calls a0 65 90 false _ A2.out).mono ?_); rintro e w' ⟨rfl, ⟨nd, rfl⟩⟩; refine ⟨_, rfl, ?_⟩) | (go_at_call 69; (with_reducible refine (name_between.calls a0 192 222 true _ A4.out).mono ?_); rintro e w' ⟨rfl, ⟨nd, rfl⟩⟩) | (go_at_call 69; (with_reducible refine (name_between.calls a0 913 937 true _ A7.out).mono ?_); rintro e w' ⟨rfl, ⟨nd, rfl⟩⟩) | (go_at_call 69; (with_reducible refine (name_between.calls a0 1040 1071 false _ A10.out).mono ?_); rintro e w' ⟨rfl, ⟨nd, rfl⟩⟩))
              go_ret
              exact ⟨by first | rfl | (simp; done) | (simp [*]; done), by repeat (first | exact Drawn0.refl _ | apply Drawn0.step)⟩
          · rw [if_neg c9] at H
            have c9b0 : (a0 == 930) = false := beq_eq_false_iff_ne.mpr c9
            have c9b1 : (a0 != 930) = true := bne_iff_ne.mpr c9
            obtain rfl := Option.some.inj H
            go_enter Tryd.func57, Tryd.ntmps57
            go_wp2_with (first | ((with_reducible refine gate_callee (f := 69) rfl ?_); refine goesL_ (some 4) rfl rfl Tryd.func69 (by kernel_rfl) rfl #[.int .i32 a0, .int .i32 65, .int .i32 90] rfl (by (try simp only [List.map_toArray, List.map_cons, List.map_nil]); first | done | rfl | (simp only [List.length_drop, List.length_take]; rfl)) ?_; (with_reducible refine (name_between.calls a0 65 90 false _ A2.out).mono ?_); rintro e w' ⟨rfl, ⟨nd, rfl⟩⟩; refine ⟨_, rfl, ?_⟩) | (go_at_call 69; (with_reducible refine (name_between.calls a0 192 222 true _ A4.out).mono ?_); rintro e w' ⟨rfl, ⟨nd, rfl⟩⟩) | (go_at_call 69; (with_reducible refine (name_between.calls a0 913 937 true _ A7.out).mono ?_); rintro e w' ⟨rfl, ⟨nd, rfl⟩⟩))
            go_ret
            exact ⟨by first | rfl | (simp; done) | (simp [*]; done), by repeat (first | exact Drawn0.refl _ | apply Drawn0.step)⟩
        · replace c8 := Bool.eq_false_iff.mpr c8
          subst c8
          have H1 : ((name_between.f a0 1040 1071).bind fun t220 => (if t220 = true then (some (wrap32 (a0 + 32))) else (some a0))) = some r := by rw [if_neg (show ¬ (false = true) by decide)] at H; exact H
          clear H
          have H := H1
          clear H1
          replace H := Option.bind_eq_some_iff.mp H
          obtain ⟨t220, A120, H⟩ := H
          replace H : (if t220 = true then (some (wrap32 (a0 + 32))) else (some a0)) = some r := H
          have A12 := Aside0.mk A120
          clear A120
          by_cases c13 : t220 = true
          · subst c13
            have H1 : (some (wrap32 (a0 + 32))) = some r := by rw [if_pos rfl] at H; exact H
            clear H
            have H := H1
            clear H1
            obtain rfl := Option.some.inj H
            go_enter Tryd.func57, Tryd.ntmps57
            go_wp2_with (first | ((with_reducible refine gate_callee (f := 69) rfl ?_); refine goesL_ (some 4) rfl rfl Tryd.func69 (by kernel_rfl) rfl #[.int .i32 a0, .int .i32 65, .int .i32 90] rfl (by (try simp only [List.map_toArray, List.map_cons, List.map_nil]); first | done | rfl | (simp only [List.length_drop, List.length_take]; rfl)) ?_; (with_reducible refine (name_between.calls a0 65 90 false _ A2.out).mono ?_); rintro e w' ⟨rfl, ⟨nd, rfl⟩⟩; refine ⟨_, rfl, ?_⟩) | (go_at_call 69; (with_reducible refine (name_between.calls a0 192 222 true _ A4.out).mono ?_); rintro e w' ⟨rfl, ⟨nd, rfl⟩⟩) | (go_at_call 69; (with_reducible refine (name_between.calls a0 913 937 false _ A7.out).mono ?_); rintro e w' ⟨rfl, ⟨nd, rfl⟩⟩) | (go_at_call 69; (with_reducible refine (name_between.calls a0 1040 1071 true _ A12.out).mono ?_); rintro e w' ⟨rfl, ⟨nd, rfl⟩⟩))
            go_ret
            exact ⟨by first | rfl | (simp; done) | (simp [*]; done), by repeat (first | exact Drawn0.refl _ | apply Drawn0.step)⟩
          · replace c13 := Bool.eq_false_iff.mpr c13
            subst c13
            have H1 : (some a0) = some r := by rw [if_neg (show ¬ (false = true) by decide)] at H; exact H
            clear H
            have H := H1
            clear H1
            obtain rfl := Option.some.inj H
            go_enter Tryd.func57, Tryd.ntmps57
            go_wp2_with (first | ((with_reducible refine gate_callee (f := 69) rfl ?_); refine goesL_ (some 4) rfl rfl Tryd.func69 (by kernel_rfl) rfl #[.int .i32 a0, .int .i32 65, .int .i32 90] rfl (by (try simp only [List.map_toArray, List.map_cons, List.map_nil]); first | done | rfl | (simp only [List.length_drop, List.length_take]; rfl)) ?_; (with_reducible refine (name_between.calls a0 65 90 false _ A2.out).mono ?_); rintro e w' ⟨rfl, ⟨nd, rfl⟩⟩; refine ⟨_, rfl, ?_⟩) | (go_at_call 69; (with_reducible refine (name_between.calls a0 192 222 true _ A4.out).mono ?_); rintro e w' ⟨rfl, ⟨nd, rfl⟩⟩) | (go_at_call 69; (with_reducible refine (name_between.calls a0 913 937 false _ A7.out).mono ?_); rintro e w' ⟨rfl, ⟨nd, rfl⟩⟩) | (go_at_call 69; (with_reducible refine (name_between.calls a0 1040 1071 false _ A12.out).mono ?_); rintro e w' ⟨rfl, ⟨nd, rfl⟩⟩))
            go_ret
            exact ⟨by first | rfl | (simp; done) | (simp [*]; done), by repeat (first | exact Drawn0.refl _ | apply Drawn0.step)⟩
      · rw [if_neg c6] at H
        have c6b0 : (a0 == 215) = false := beq_eq_false_iff_ne.mpr c6
        have c6b1 : (a0 != 215) = true := bne_iff_ne.mpr c6
        obtain rfl := Option.some.inj H
        go_enter Tryd.func57, Tryd.ntmps57
        go_wp2_with (first | ((with_reducible refine gate_callee (f := 69) rfl ?_); refine goesL_ (some 4) rfl rfl Tryd.func69 (by kernel_rfl) rfl #[.int .i32 a0, .int .i32 65, .int .i32 90] rfl (by (try simp only [List.map_toArray, List.map_cons, List.map_nil]); first | done | rfl | (simp only [List.length_drop, List.length_take]; rfl)) ?_; (with_reducible refine (name_between.calls a0 65 90 false _ A2.out).mono ?_); rintro e w' ⟨rfl, ⟨nd, rfl⟩⟩; refine ⟨_, rfl, ?_⟩) | (go_at_call 69; (with_reducible refine (name_between.calls a0 192 222 true _ A4.out).mono ?_); rintro e w' ⟨rfl, ⟨nd, rfl⟩⟩))
        go_ret
        exact ⟨by first | rfl | (simp; done) | (simp [*]; done), by repeat (first | exact Drawn0.refl _ | apply Drawn0.step)⟩
    · replace c5 := Bool.eq_false_iff.mpr c5
      subst c5
      have H1 : ((name_between.f a0 913 937).bind fun t221 => (if t221 = true then (if a0 = 930 then ((name_between.f a0 1040 1071).bind fun t222 => (if t222 = true then (some (wrap32 (a0 + 32))) else (some a0))) else (some (wrap32 (a0 + 32)))) else ((name_between.f a0 1040 1071).bind fun t223 => (if t223 = true then (some (wrap32 (a0 + 32))) else (some a0))))) = some r := by rw [if_neg (show ¬ (false = true) by decide)] at H; exact H
      clear H
      have H := H1
      clear H1
      replace H := Option.bind_eq_some_iff.mp H
      obtain ⟨t221, A140, H⟩ := H
      replace H : (if t221 = true then (if a0 = 930 then ((name_between.f a0 1040 1071).bind fun t222 => (if t222 = true then (some (wrap32 (a0 + 32))) else (some a0))) else (some (wrap32 (a0 + 32)))) else ((name_between.f a0 1040 1071).bind fun t223 => (if t223 = true then (some (wrap32 (a0 + 32))) else (some a0)))) = some r := H
      have A14 := Aside0.mk A140
      clear A140
      by_cases c15 : t221 = true
      · subst c15
        have H1 : (if a0 = 930 then ((name_between.f a0 1040 1071).bind fun t222 => (if t222 = true then (some (wrap32 (a0 + 32))) else (some a0))) else (some (wrap32 (a0 + 32)))) = some r := by rw [if_pos rfl] at H; exact H
        clear H
        have H := H1
        clear H1
        by_cases c16 : a0 = 930
        · rw [if_pos c16] at H
          have c16b0 : (a0 == 930) = true := beq_iff_eq.mpr c16
          have c16b1 : (a0 != 930) = false := bne_eq_false_iff_eq.mpr c16
          clear c16
          replace H := Option.bind_eq_some_iff.mp H
          obtain ⟨t222, A170, H⟩ := H
          replace H : (if t222 = true then (some (wrap32 (a0 + 32))) else (some a0)) = some r := H
          have A17 := Aside0.mk A170
          clear A170
          by_cases c18 : t222 = true
          · subst c18
            have H1 : (some (wrap32 (a0 + 32))) = some r := by rw [if_pos rfl] at H; exact H
            clear H
            have H := H1
            clear H1
            obtain rfl := Option.some.inj H
            go_enter Tryd.func57, Tryd.ntmps57
            go_wp2_with (first | ((with_reducible refine gate_callee (f := 69) rfl ?_); refine goesL_ (some 4) rfl rfl Tryd.func69 (by kernel_rfl) rfl #[.int .i32 a0, .int .i32 65, .int .i32 90] rfl (by (try simp only [List.map_toArray, List.map_cons, List.map_nil]); first | done | rfl | (simp only [List.length_drop, List.length_take]; rfl)) ?_; (with_reducible refine (name_between.calls a0 65 90 false _ A2.out).mono ?_); rintro e w' ⟨rfl, ⟨nd, rfl⟩⟩; refine ⟨_, rfl, ?_⟩) | (go_at_call 69; (with_reducible refine (name_between.calls a0 192 222 false _ A4.out).mono ?_); rintro e w' ⟨rfl, ⟨nd, rfl⟩⟩) | (go_at_call 69; (with_reducible refine (name_between.calls a0 913 937 true _ A14.out).mono ?_); rintro e w' ⟨rfl, ⟨nd, rfl⟩⟩) | (go_at_call 69; (with_reducible refine (name_between.calls a0 1040 1071 true _ A17.out).mono ?_); rintro e w' ⟨rfl, ⟨nd, rfl⟩⟩))
            go_ret
            exact ⟨by first | rfl | (simp; done) | (simp [*]; done), by repeat (first | exact Drawn0.refl _ | apply Drawn0.step)⟩
          · replace c18 := Bool.eq_false_iff.mpr c18
            subst c18
            have H1 : (some a0) = some r := by rw [if_neg (show ¬ (false = true) by decide)] at H; exact H
            clear H
            have H := H1
            clear H1
            obtain rfl := Option.some.inj H
            go_enter Tryd.func57, Tryd.ntmps57
            go_wp2_with (first | ((with_reducible refine gate_callee (f := 69) rfl ?_); refine goesL_ (some 4) rfl rfl Tryd.func69 (by kernel_rfl) rfl #[.int .i32 a0, .int .i32 65, .int .i32 90] rfl (by (try simp only [List.map_toArray, List.map_cons, List.map_nil]); first | done | rfl | (simp only [List.length_drop, List.length_take]; rfl)) ?_; (with_reducible refine (name_between.calls a0 65 90 false _ A2.out).mono ?_); rintro e w' ⟨rfl, ⟨nd, rfl⟩⟩; refine ⟨_, rfl, ?_⟩) | (go_at_call 69; (with_reducible refine (name_between.calls a0 192 222 false _ A4.out).mono ?_); rintro e w' ⟨rfl, ⟨nd, rfl⟩⟩) | (go_at_call 69; (with_reducible refine (name_between.calls a0 913 937 true _ A14.out).mono ?_); rintro e w' ⟨rfl, ⟨nd, rfl⟩⟩) | (go_at_call 69; (with_reducible refine (name_between.calls a0 1040 1071 false _ A17.out).mono ?_); rintro e w' ⟨rfl, ⟨nd, rfl⟩⟩))
            go_ret
            exact ⟨by first | rfl | (simp; done) | (simp [*]; done), by repeat (first | exact Drawn0.refl _ | apply Drawn0.step)⟩
        · rw [if_neg c16] at H
          have c16b0 : (a0 == 930) = false := beq_eq_false_iff_ne.mpr c16
          have c16b1 : (a0 != 930) = true := bne_iff_ne.mpr c16
          obtain rfl := Option.some.inj H
          go_enter Tryd.func57, Tryd.ntmps57
          go_wp2_with (first | ((with_reducible refine gate_callee (f := 69) rfl ?_); refine goesL_ (some 4) rfl rfl Tryd.func69 (by kernel_rfl) rfl #[.int .i32 a0, .int .i32 65, .int .i32 90] rfl (by (try simp only [List.map_toArray, List.map_cons, List.map_nil]); first | done | rfl | (simp only [List.length_drop, List.length_take]; rfl)) ?_; (with_reducible refine (name_between.calls a0 65 90 false _ A2.out).mono ?_); rintro e w' ⟨rfl, ⟨nd, rfl⟩⟩; refine ⟨_, rfl, ?_⟩) | (go_at_call 69; (with_reducible refine (name_between.calls a0 192 222 false _ A4.out).mono ?_); rintro e w' ⟨rfl, ⟨nd, rfl⟩⟩) | (go_at_call 69; (with_reducible refine (name_between.calls a0 913 937 true _ A14.out).mono ?_); rintro e w' ⟨rfl, ⟨nd, rfl⟩⟩))
          go_ret
          exact ⟨by first | rfl | (simp; done) | (simp [*]; done), by repeat (first | exact Drawn0.refl _ | apply Drawn0.step)⟩
      · replace c15 := Bool.eq_false_iff.mpr c15
        subst c15
        have H1 : ((name_between.f a0 1040 1071).bind fun t223 => (if t223 = true then (some (wrap32 (a0 + 32))) else (some a0))) = some r := by rw [if_neg (show ¬ (false = true) by decide)] at H; exact H
        clear H
        have H := H1
        clear H1
        replace H := Option.bind_eq_some_iff.mp H
        obtain ⟨t223, A190, H⟩ := H
        replace H : (if t223 = true then (some (wrap32 (a0 + 32))) else (some a0)) = some r := H
        have A19 := Aside0.mk A190
        clear A190
        by_cases c20 : t223 = true
        · subst c20
          have H1 : (some (wrap32 (a0 + 32))) = some r := by rw [if_pos rfl] at H; exact H
          clear H
          have H := H1
          clear H1
          obtain rfl := Option.some.inj H
          go_enter Tryd.func57, Tryd.ntmps57
          go_wp2_with (first | ((with_reducible refine gate_callee (f := 69) rfl ?_); refine goesL_ (some 4) rfl rfl Tryd.func69 (by kernel_rfl) rfl #[.int .i32 a0, .int .i32 65, .int .i32 90] rfl (by (try simp only [List.map_toArray, List.map_cons, List.map_nil]); first | done | rfl | (simp only [List.length_drop, List.length_take]; rfl)) ?_; (with_reducible refine (name_between.calls a0 65 90 false _ A2.out).mono ?_); rintro e w' ⟨rfl, ⟨nd, rfl⟩⟩; refine ⟨_, rfl, ?_⟩) | (go_at_call 69; (with_reducible refine (name_between.calls a0 192 222 false _ A4.out).mono ?_); rintro e w' ⟨rfl, ⟨nd, rfl⟩⟩) | (go_at_call 69; (with_reducible refine (name_between.calls a0 913 937 false _ A14.out).mono ?_); rintro e w' ⟨rfl, ⟨nd, rfl⟩⟩) | (go_at_call 69; (with_reducible refine (name_between.calls a0 1040 1071 true _ A19.out).mono ?_); rintro e w' ⟨rfl, ⟨nd, rfl⟩⟩))
          go_ret
          exact ⟨by first | rfl | (simp; done) | (simp [*]; done), by repeat (first | exact Drawn0.refl _ | apply Drawn0.step)⟩
        · replace c20 := Bool.eq_false_iff.mpr c20
          subst c20
          have H1 : (some a0) = some r := by rw [if_neg (show ¬ (false = true) by decide)] at H; exact H
          clear H
          have H := H1
          clear H1
          obtain rfl := Option.some.inj H
          go_enter Tryd.func57, Tryd.ntmps57
          go_wp2_with (first | ((with_reducible refine gate_callee (f := 69) rfl ?_); refine goesL_ (some 4) rfl rfl Tryd.func69 (by kernel_rfl) rfl #[.int .i32 a0, .int .i32 65, .int .i32 90] rfl (by (try simp only [List.map_toArray, List.map_cons, List.map_nil]); first | done | rfl | (simp only [List.length_drop, List.length_take]; rfl)) ?_; (with_reducible refine (name_between.calls a0 65 90 false _ A2.out).mono ?_); rintro e w' ⟨rfl, ⟨nd, rfl⟩⟩; refine ⟨_, rfl, ?_⟩) | (go_at_call 69; (with_reducible refine (name_between.calls a0 192 222 false _ A4.out).mono ?_); rintro e w' ⟨rfl, ⟨nd, rfl⟩⟩) | (go_at_call 69; (with_reducible refine (name_between.calls a0 913 937 false _ A14.out).mono ?_); rintro e w' ⟨rfl, ⟨nd, rfl⟩⟩) | (go_at_call 69; (with_reducible refine (name_between.calls a0 1040 1071 false _ A19.out).mono ?_); rintro e w' ⟨rfl, ⟨nd, rfl⟩⟩))
          go_ret
          exact ⟨by first | rfl | (simp; done) | (simp [*]; done), by repeat (first | exact Drawn0.refl _ | apply Drawn0.step)⟩

end Go.Proofs.YtpdalofhekmbeaaDoor.PViewHeirs
