-- Written by a program of this session over the kit's printer (with contracts of the session's own).
import Derived.Test.YtpdalofhekmbeaaGreatDoorPViewKeepsx0
import Derived.Test.YtpdalofhekmbeaaGreatDoorPViewKeepsx2
import Derived.Test.YtpdalofhekmbeaaGreatDoorPViewKeepsx5
import Derived.Test.YtpdalofhekmbeaaGreatDoorPViewKeepsx15
namespace Go.Proofs.YtpdalofhekmbeaaGreatDoor.PViewKeeps
open Go.RowKit Go.Proofs.YtpdalofhekmbeaaGreatDoorW.PrintWords Go.Proofs.YtpdalofhekmbeaaGreatDoorW.PrintLast Go.Proofs.YtpdalofhekmbeaaGreatDoorW.PrintMore
attribute [local go_sem] max2_int min2_int max_two min_two max_three min_three max_four min_four   -- for this text's walks alone
set_option linter.unusedVariables false
set_option linter.unusedSimpArgs false

attribute [local go_sem high] eqA53
/-! ### ring_first: function 42 (a contract of this session's own) -/
theorem rdR_drop {l : List Int} {i : Nat} {x : Int} {r : List Int} (h : l.drop i = x :: r) : rd l (i : Int) = x ∧ i < l.length ∧ l.drop (i + 1) = r := by
  have hi : i < l.length := by
    rcases Nat.lt_or_ge i l.length with g | g
    · exact g
    · rw [List.drop_eq_nil_of_le g] at h; cases h
  rw [List.drop_eq_getElem_cons hi] at h
  injection h with h1 h2
  refine ⟨?_, hi, h2⟩
  unfold rd
  rw [Int.toNat_natCast, List.getD_eq_getElem?_getD, List.getElem?_eq_getElem hi]
  exact h1

section
variable {P : Program} {ops : Array Oper} {Q : Exit → Act → World → Prop}
/-- The operation is a call of the function value in this slot (a cheap look ahead of a dear step). -/
theorem gate_valueR {rest : List Oper} {o : Oper} {a : Act} {W : World} {s : Tmp} {ars : Array Operand} {ts : Array TypeId} (_ho : o.op = .call { callee := .value (.tmp s), args := ars, argTypes := ts }) (h : wpList P ops Q (o :: rest) a W) : wpList P ops Q (o :: rest) a W := h
/-- A call of a function value that a slot holds, as an arm of go_wp2_with. -/
theorem goesVR_ {rest : List Oper} {oi : Oper} {a : Act} {w : World} (N : Option Tmp) (hd : oi.dst = N) (hg : oi.guard = none) {f : FuncId} {fn : Func} {ars : Array Operand} {ts : Array TypeId} (hf : P.funcs[f]? = some fn) (hname : (fn.name == "runtime.NumGoroutine") = false) (hb : fn.body.isSome = true) {s : Tmp} {caps : Array Value} (args : Array Value)
    (hop : oi.op = .call { callee := .value (.tmp s), args := ars, argTypes := ts }) (hs : a.eval (.tmp s) = .func (.func f) #[] caps) (hargs : ars.map a.eval = args)
    (h : Calls P f (args ++ caps) w fun e w' => ∃ v, e = .returned v ∧ wpList P ops Q rest (a.put N v) w') : wpList P ops Q (oi :: rest) a w := by
  refine wpList_plain hg fun K hK => ?_
  have he := enters_ hf hname hb (args ++ caps) w
  have hrun : (execOp a.eval oi).run P w = .ok (.enter f (args ++ caps)) w := by
    unfold execOp
    simp [hop, resolve, Deferred.ofValue, invoke, hs, hargs, he]
  unfold Oper.wp
  rw [hrun, Oper.upon_enter]
  refine h.mono fun e w'' hh => ?_
  obtain ⟨v, rfl, hk⟩ := hh
  subst hd
  exact hK _ _ hk
end

set_option maxHeartbeats 4000000 in
set_option maxRecDepth 100000 in
theorem indexFuncR_plain (fid : Nat) (caps : Array Value) (fn : Func) (hfn : Tryz.prog.funcs[fid]? = some fn) (hname : (fn.name == "runtime.NumGoroutine") = false) (hbody : fn.body.isSome = true) (p : Int → Bool) (A0 : Option Addr) (c0 : Nat) (l0 : List Int) (w : World) (hr0 : Kd.C (Kd.int .i64) w A0 l0.length l0) (hc0 : l0.length ≤ c0)
    (hf : ∀ (W : World) (x : Int), Below w.heap.size w W → Calls Tryz.prog fid (#[.int .i64 x] ++ caps) W fun e W' => e = .returned (.bool (p x)) ∧ Below W.heap.size W W') :
    Calls Tryz.prog 70 #[.slice A0 l0.length c0, .func (.func fid) #[] caps] w fun e w' => e = .returned (.int .i64 (idxFR p l0 0)) ∧ Below w.heap.size w w' := by
  have HR0 := Aside0.mk hr0
  have HC0 := Aside0.mk hc0
  have HF := Aside0.mk hf
  have HFN := Aside0.mk (And.intro hfn (And.intro hname hbody))
  clear hr0 hc0 hf hfn hname hbody
  have HB := Aside0.mk (Below.refl w.heap.size w)
  have HM := Aside0.mk (Kd.C_max HR0.out)
  go_enter Tryz.func70, Tryz.ntmps70
  go_wp2
  go_loopg [8] l0.length (fun kq v8 w' => ∃ (i : Nat) (r : List Int), v8 = .int .i64 i ∧ Aside0 (l0.drop i = r ∧ i + kq = l0.length) ∧ Aside0 (idxFR p r i = idxFR p l0 0) ∧ Aside0 (Below w.heap.size w w'))
  case atStart => exact ⟨0, l0, rfl, ⟨rfl, by omega⟩, ⟨rfl⟩, HB⟩
  case round =>
    obtain ⟨i, r, rfl, HD, HI, HB⟩ := hrel
    have hd := HD.out.1
    have hk := HD.out.2
    clear HD
    cases r with
    | nil =>
      have hle : l0.length ≤ i := List.drop_eq_nil_iff.1 hd
      have c1 : decide ((i : Int) < (l0.length : Int)) = false := decide_eq_false (by omega)
      have c2 : decide (i < l0.length) = false := decide_eq_false (by omega)
      have HI2 : idxFR p l0 0 = -1 := HI.out.symm
      clear hd hk hle HI
      have HI := Aside0.mk HI2
      clear HI2
      go_wp2
      go_ret
      exact ⟨by rw [HI.out]; rfl, HB.out⟩
    | cons x r =>
      obtain ⟨hx, hi, hd2⟩ := rdR_drop hd
      obtain ⟨k1, rfl⟩ : ∃ m, gk = m + 1 := ⟨gk - 1, by omega⟩
      have c1 : decide ((i : Int) < (l0.length : Int)) = true := decide_eq_true (by omega)
      have c2 : decide (i < l0.length) = true := decide_eq_true (by omega)
      have q0 : 0 ≤ (i : Int) := by omega
      have q1 : (i : Int) < (l0.length : Int) := by omega
      obtain ⟨ad155, e155, hx155_0⟩ := Kd.at_int HR0.out (i : Int) q0 q1
      cases e155
      rw [hx, Int.toNat_natCast] at hx155_0
      replace hx155_0 := (HB.out.cell (World.block_lt_of_cell? w _ hx155_0)).trans hx155_0
      have hm := HM.out
      have hsum : wrap64 ((i : Int) + 1) = ((i + 1 : Nat) : Int) := by unfold wrap64; omega
      have HS := Aside0.mk hsum
      have HD2 := Aside0.mk hd2
      have HK := Aside0.mk hk
      have HIL := Aside0.mk hi
      clear hd hd2 hk hx hsum hm
      by_cases hp : p x = true
      · have HI2 : idxFR p l0 0 = (i : Int) := by rw [← HI.out]; simp [idxFR, hp]
        have HC := Aside0.mk (HF.out wr x HB.out)
        rw [hp] at HC
        clear hp HI
        have HI := Aside0.mk HI2
        clear HI2
        go_wp2_with (first | ((with_reducible refine gate_valueR (s := 11) rfl ?_); refine goesVR_ (some 16) rfl rfl HFN.out.1 HFN.out.2.1 HFN.out.2.2 #[.int .i64 x] rfl rfl (by (try simp only [List.map_toArray, List.map_cons, List.map_nil]); first | rfl) ?_; refine HC.out.mono ?_; rintro e w7 ⟨rfl, hb⟩; refine ⟨_, rfl, ?_⟩; have n0_ := Aside0.mk (below_step HB.out hb); clear HB; have HB := n0_; clear n0_ hb))
        go_ret
        exact ⟨by rw [HI.out]; rfl, HB.out⟩
      · have hp2 : p x = false := by simpa using hp
        have HI2 : idxFR p r (((i + 1 : Nat) : Int)) = idxFR p l0 0 := by rw [← HI.out]; simp only [idxFR, hp2]; simp
        have HC := Aside0.mk (HF.out wr x HB.out)
        rw [hp2] at HC
        clear hp hp2 HI
        have HI := Aside0.mk HI2
        clear HI2
        go_wp2_with (first | ((with_reducible refine gate_valueR (s := 11) rfl ?_); refine goesVR_ (some 16) rfl rfl HFN.out.1 HFN.out.2.1 HFN.out.2.2 #[.int .i64 x] rfl rfl (by (try simp only [List.map_toArray, List.map_cons, List.map_nil]); first | rfl) ?_; refine HC.out.mono ?_; rintro e w7 ⟨rfl, hb⟩; refine ⟨_, rfl, ?_⟩; have n0_ := Aside0.mk (below_step HB.out hb); clear HB; have HB := n0_; clear n0_ hb))
        go_roundg k1
        case measure => omega
        case rel => exact ⟨i + 1, r, by rw [← HS.out], ⟨HD2.out, by have := HK.out; have := HIL.out; omega⟩, HI, HB⟩
def ring_first.f (a0 : Int) (l1 : List Int) : Option Int := some (max (idxFR (fun x => decide (a0 ≤ pointZ x)) l1 0) 0)
set_option maxHeartbeats 4000000 in
set_option maxRecDepth 100000 in
theorem ring_first.calls' (a0 : Int) (A1 : Option Addr) (c1 : Nat) (l1 : List Int) (w : World) (hr1 : Kd.C (Kd.int .i64) w A1 l1.length l1) (hc1 : l1.length ≤ c1) :
    Calls Tryz.prog 42 #[.int .u64 a0, .slice A1 l1.length c1] w fun e w' => e = .returned (.int .i64 (max (idxFR (fun x => decide (a0 ≤ pointZ x)) l1 0) 0)) ∧ Below w.heap.size w w' := by
  have HR := Aside0.mk hr1
  have HC := Aside0.mk hc1
  clear hr1 hc1
  have HB := Aside0.mk (Below.refl w.heap.size w)
  have HB1 := Aside0.mk (below_alloc HB.out (.cells #[.int .u64 a0] 47))
  have HN := Aside0.mk (show (w.alloc (.cells #[.int .u64 a0] 47)).cell? ⟨w.heap.size, 0, none⟩ = some (.int .u64 a0) by simp)
  have HF := Aside0.mk (indexFuncR_plain 71 #[.pointer (some ⟨w.heap.size, 0, none⟩)] Tryz.f71 Tryz.func71 (by kernel_rfl) rfl (fun x => decide (a0 ≤ pointZ x)) A1 c1 l1 _ (Kd.C_below HR.out HB1.out) HC.out (fun W x hW => (ring_first_1.calls x w.heap.size a0 W ((hW.cell (p := ⟨w.heap.size, 0, none⟩) (by simp)).trans HN.out)).mono fun _ _ h => ⟨h.1, h.2.below⟩))
  go_enter Tryz.func42, Tryz.ntmps42
  go_wp2_with ((with_reducible refine gate_callee (f := 70) rfl ?_); refine goesL_ (some 8) rfl rfl Tryz.func70 (by kernel_rfl) rfl #[.slice A1 l1.length c1, .func (.func 71) #[] #[.pointer (some ⟨w.heap.size, 0, none⟩)]] rfl (by (try simp only [List.map_toArray, List.map_cons, List.map_nil]); first | rfl) ?_; (with_reducible refine (HF.out).mono ?_); rintro e w8 ⟨rfl, hb⟩; refine ⟨_, rfl, ?_⟩; have n0_ := Aside0.mk (below_step HB1.out hb); clear HB; have HB := n0_; clear n0_ hb)
  all_goals (go_ret; exact ⟨by first | exact NC.ret_int (by omega), HB.out⟩)
theorem ring_first.calls (a0 : Int) (A1 : Option Addr) (c1 : Nat) (l1 : List Int) (r : Int) (w : World) (hr1 : Kd.C (Kd.int .i64) w A1 l1.length l1) (hc1 : l1.length ≤ c1) (h : ring_first.f a0 l1 = some r) :
    Calls Tryz.prog 42 #[.int .u64 a0, .slice A1 l1.length c1] w fun e w' => e = .returned (.int .i64 r) ∧ Below w.heap.size w w' := by
  obtain rfl := Option.some.inj h
  exact ring_first.calls' a0 A1 c1 l1 w hr1 hc1

/-! ### ring_Owner: function 40 -/
def ring_Owner.f (k : Nat) (a0 : Int) (l1 : List Int) : Option (Int × Bool) := (ring_Ring.f k l1).bind fun t326 => (if (t326.length : Int) = 0 then (some (0, false)) else ((ring_first.f a0 t326).bind fun t329 => (if 0 ≤ t329 then (if t329 < (t326.length : Int) then (some (rd t326 t329, true)) else (none)) else (none))))
theorem ring_Owner.mono : ∀ a0 a1 k, LeO (ring_Owner.f k a0 a1) (ring_Owner.f (k + 1) a0 a1) := by
 intro a0 a1 k
 unfold ring_Owner.f
 repeat' first
   | (with_reducible exact ring_Ring.mono _ _)
   | (with_reducible exact LeO.refl _)
   | (with_reducible refine LeO.bind ?_ (fun _ => ?_))

set_option maxHeartbeats 8000000 in
set_option maxRecDepth 100000 in
theorem ring_Owner.calls (k : Nat) (a0 : Int) (A1 : Option Addr) (c1 : Nat) (l1 : List Int) (r1 : Int) (r2 : Bool) (w : World) (hr1 : Kd.C (Kd.int .i64) w A1 l1.length l1) (hc1 : l1.length ≤ c1) (h : ring_Owner.f k a0 l1 = some (r1, r2)) :
  Calls Tryz.prog 40 #[.int .u64 a0, .slice A1 l1.length c1] w fun e w' => e = .returned (.tuple #[.int .i64 r1, .bool r2]) ∧ Below w.heap.size w w' := by
 have HR1 := Aside0.mk hr1
 have HC1 := Aside0.mk hc1
 clear hr1 hc1
 have HB := Aside0.mk (Below.refl w.heap.size w)
 have H : ((ring_Ring.f k l1).bind fun t326 => (if (t326.length : Int) = 0 then (some (0, false)) else ((ring_first.f a0 t326).bind fun t329 => (if 0 ≤ t329 then (if t329 < (t326.length : Int) then (some (rd t326 t329, true)) else (none)) else (none))))) = some (r1, r2) := h
 clear h
 replace H := Option.bind_eq_some_iff.mp H
 obtain ⟨t326, A30, H⟩ := H
 replace H : (if (t326.length : Int) = 0 then (some (0, false)) else ((ring_first.f a0 t326).bind fun t329 => (if 0 ≤ t329 then (if t329 < (t326.length : Int) then (some (rd t326 t329, true)) else (none)) else (none)))) = some (r1, r2) := H
 have A3 := Aside0.mk A30
 clear A30
 by_cases c4 : (t326.length : Int) = 0
 ·rw [if_pos c4] at H
  have c4b0 : ((t326.length : Int) == 0) = true := beq_iff_eq.mpr c4
  have c4b1 : ((t326.length : Int) != 0) = false := bne_eq_false_iff_eq.mpr c4
  clear c4
  simp only [Option.some.injEq, Prod.mk.injEq] at H
  obtain ⟨rfl, rfl⟩ := H
  go_enter Tryz.func40, Tryz.ntmps40
  go_wp2_with (first | ((with_reducible refine gate_callee (f := 41) rfl ?_); refine goesL_ (some 8) rfl rfl Tryz.func41 (by kernel_rfl) rfl #[.slice A1 l1.length c1] rfl (by (try simp only [List.map_toArray, List.map_cons, List.map_nil]); first | rfl ) ?_; (with_reducible refine (ring_Ring.calls k _ _ l1 t326 _ ?side1 ?side2 A3.out).mono ?_); (case side1 => repeat (first | exact HR1.out )); (case side2 => exact HC1.out); rintro e w5 ⟨v327, rfl, ho0, hb⟩; refine ⟨_, rfl, ?_⟩; have n0_ := Aside0.mk (Kd.R_lower ho0 (below_size (by repeat (first | (with_reducible first | exact HB.out ) )))); have n1_ := Aside0.mk (below_step (by repeat (first | (with_reducible first | exact HB.out ) )) hb); clear HB; have HO328 := n0_; have HB := n1_; clear n0_ n1_; (try clear hb); (try clear hb2); (try clear hk); (try clear hi); (try clear ho0); obtain ⟨Ao6, co6, eo6⟩ := Kd.R_slice HO328.out; subst eo6))
  go_ret2
  exact ⟨by first | rfl , by repeat (first | (with_reducible first | exact HB.out ) )⟩
 ·rw [if_neg c4] at H
  have c4b0 : ((t326.length : Int) == 0) = false := beq_eq_false_iff_ne.mpr c4
  have c4b1 : ((t326.length : Int) != 0) = true := bne_iff_ne.mpr c4
  have c4b2 : ¬ (t326 = []) := fun h_ => c4 (by rw [h_]; rfl)
  replace H := Option.bind_eq_some_iff.mp H
  obtain ⟨t329, A70, H⟩ := H
  replace H : (if 0 ≤ t329 then (if t329 < (t326.length : Int) then (some (rd t326 t329, true)) else (none)) else (none)) = some (r1, r2) := H
  have A7 := Aside0.mk A70
  clear A70
  by_cases c8 : 0 ≤ t329
  ·rw [if_pos c8] at H
   have c8b0 : decide (0 ≤ t329) = true := decide_eq_true c8
   clear c8
   by_cases c9 : t329 < (t326.length : Int)
   ·rw [if_pos c9] at H
    have c9b0 : decide (t329 < (t326.length : Int)) = true := decide_eq_true c9
    clear c9
    simp only [Option.some.injEq, Prod.mk.injEq] at H
    obtain ⟨rfl, rfl⟩ := H
    go_enter Tryz.func40, Tryz.ntmps40
    go_wp2_with (first | ((with_reducible refine gate_callee (f := 41) rfl ?_); refine goesL_ (some 8) rfl rfl Tryz.func41 (by kernel_rfl) rfl #[.slice A1 l1.length c1] rfl (by (try simp only [List.map_toArray, List.map_cons, List.map_nil]); first | rfl ) ?_; (with_reducible refine (ring_Ring.calls k _ _ l1 t326 _ ?side1 ?side2 A3.out).mono ?_); (case side1 => repeat (first | exact HR1.out )); (case side2 => exact HC1.out); rintro e w10 ⟨v327, rfl, ho0, hb⟩; refine ⟨_, rfl, ?_⟩; have n0_ := Aside0.mk (Kd.R_lower ho0 (below_size (by repeat (first | (with_reducible first | exact HB.out ) )))); have n1_ := Aside0.mk (below_step (by repeat (first | (with_reducible first | exact HB.out ) )) hb); clear HB; have HO328 := n0_; have HB := n1_; clear n0_ n1_; (try clear hb); (try clear hb2); (try clear hk); (try clear hi); (try clear ho0); obtain ⟨Ao11, co11, eo11⟩ := Kd.R_slice HO328.out; subst eo11) | ((with_reducible refine gate_callee (f := 42) rfl ?_); refine goesL_ (some 15) rfl rfl Tryz.func42 (by kernel_rfl) rfl #[.int .u64 a0, .slice Ao11 t326.length co11] rfl (by (try simp only [List.map_toArray, List.map_cons, List.map_nil]); first | rfl ) ?_; (with_reducible refine (ring_first.calls a0 _ _ t326 t329 _ ?side1 ?side2 A7.out).mono ?_); (case side1 => repeat (first | exact (Kd.R_reads' HO328.out).2.2 )); (case side2 => exact (Kd.R_reads' HO328.out).2.1); rintro e w12 ⟨rfl, hb⟩; refine ⟨_, rfl, ?_⟩; have n0_ := Aside0.mk (Kd.R_below (by (with_reducible repeat (fail)); exact HO328.out) hb); have n1_ := Aside0.mk (below_step (by repeat (first | (with_reducible first | exact HB.out ) )) hb); clear HO328; clear HB; have HO328 := n0_; have HB := n1_; clear n0_ n1_; (try clear hb); (try clear hb2); (try clear hk); (try clear hi); have p330 : 0 ≤ (t329 : Int) := of_decide_eq_true (by first | (with_reducible assumption) ); have q330 : t329 < (t326.length : Int) := of_decide_eq_true (by first | (with_reducible assumption) ); obtain ⟨ad330, e330, hx330_0⟩ := Kd.at_int (Kd.R_reads' HO328.out).2.2 t329 p330 q330; cases e330; replace p330 := eq_true p330; replace q330 := eq_true q330))
    go_ret2
    exact ⟨by first | rfl , by repeat (first | (with_reducible first | exact HB.out ) )⟩
   ·rw [if_neg c9] at H
    exact absurd H (by simp)
  ·rw [if_neg c8] at H
   exact absurd H (by simp)

/-! ### ring_Keeper: function 22 -/
def ring_Keeper.f (k : Nat) (a0 : ByteArray) (l1 : List Int) : Option (Int × Bool) := (name_Key.f k a0).bind fun t331 => ((ring_Owner.f k t331 l1).bind fun bt332 => (some (bt332.1, bt332.2)))
theorem ring_Keeper.mono : ∀ a0 a1 k, LeO (ring_Keeper.f k a0 a1) (ring_Keeper.f (k + 1) a0 a1) := by
 intro a0 a1 k
 unfold ring_Keeper.f
 repeat' first
   | (with_reducible exact name_Key.mono _ _)
   | (with_reducible exact ring_Owner.mono _ _ _)
   | (with_reducible exact LeO.refl _)
   | (with_reducible refine LeO.bind ?_ (fun _ => ?_))

set_option maxHeartbeats 8000000 in
set_option maxRecDepth 100000 in
theorem ring_Keeper.calls (k : Nat) (a0 : ByteArray) (A1 : Option Addr) (c1 : Nat) (l1 : List Int) (r1 : Int) (r2 : Bool) (w : World) (hr1 : Kd.C (Kd.int .i64) w A1 l1.length l1) (hc1 : l1.length ≤ c1) (h : ring_Keeper.f k a0 l1 = some (r1, r2)) (hT : NC.TabW w) :
  Calls Tryz.prog 22 #[.string a0, .slice A1 l1.length c1] w fun e w' => e = .returned (.tuple #[.int .i64 r1, .bool r2]) ∧ Below w.heap.size w w' := by
 have HT := Aside0.mk hT
 clear hT
 have HR1 := Aside0.mk hr1
 have HC1 := Aside0.mk hc1
 clear hr1 hc1
 have HB := Aside0.mk (Below.refl w.heap.size w)
 have H : ((name_Key.f k a0).bind fun t331 => ((ring_Owner.f k t331 l1).bind fun bt332 => (some (bt332.1, bt332.2)))) = some (r1, r2) := h
 clear h
 replace H := Option.bind_eq_some_iff.mp H
 obtain ⟨t331, A30, H⟩ := H
 replace H : ((ring_Owner.f k t331 l1).bind fun bt332 => (some (bt332.1, bt332.2))) = some (r1, r2) := H
 have A3 := Aside0.mk A30
 clear A30
 replace H := Option.bind_eq_some_iff.mp H
 obtain ⟨⟨t332, t333⟩, A40, H⟩ := H
 replace H : (some (t332, t333)) = some (r1, r2) := H
 have A4 := Aside0.mk A40
 clear A40
 simp only [Option.some.injEq, Prod.mk.injEq] at H
 obtain ⟨rfl, rfl⟩ := H
 go_enter Tryz.func22, Tryz.ntmps22
 go_wp2_with (first | ((with_reducible refine gate_callee (f := 24) rfl ?_); refine goesL_ (some 7) rfl rfl Tryz.func24 (by kernel_rfl) rfl #[.string a0] rfl (by (try simp only [List.map_toArray, List.map_cons, List.map_nil]); first | rfl ) ?_; (with_reducible refine (name_Key.calls k a0 t331 _ A3.out (NC.TabW.below HT.out (by repeat (first | (with_reducible first | exact HB.out ) )))).mono ?_); rintro e w5 ⟨rfl, hb⟩; refine ⟨_, rfl, ?_⟩; have n0_ := Aside0.mk (below_step (by repeat (first | (with_reducible first | exact HB.out ) )) hb); clear HB; have HB := n0_; clear n0_; (try clear hb); (try clear hb2); (try clear hk); (try clear hi)) | ((with_reducible refine gate_callee (f := 40) rfl ?_); refine goesL_ (some 9) rfl rfl Tryz.func40 (by kernel_rfl) rfl #[.int .u64 t331, .slice A1 l1.length c1] rfl (by (try simp only [List.map_toArray, List.map_cons, List.map_nil]); first | rfl ) ?_; (with_reducible refine (ring_Owner.calls k t331 _ _ l1 t332 t333 _ ?side1 ?side2 A4.out).mono ?_); (case side1 => repeat (first | exact (Kd.C_below HR1.out HB.out) )); (case side2 => exact HC1.out); rintro e w6 ⟨rfl, hb⟩; refine ⟨_, rfl, ?_⟩; have n0_ := Aside0.mk (below_step (by repeat (first | (with_reducible first | exact HB.out ) )) hb); clear HB; have HB := n0_; clear n0_; (try clear hb); (try clear hb2); (try clear hk); (try clear hi)))
 go_ret2
 exact ⟨by first | rfl , by repeat (first | (with_reducible first | exact HB.out ) )⟩

/-! ### view_Owner: function 8 -/
def view_Owner.f (k : Nat) (a0_0 : Int) (l0_1 : List (S53)) (a1 : ByteArray) : Option (Int × Bool) := (view_Live.f k a0_0 l0_1).bind fun t335 => ((ring_Keeper.f k a1 t335).bind fun bt338 => (some (bt338.1, bt338.2)))
theorem view_Owner.mono : ∀ a0 a1 a2 k, LeO (view_Owner.f k a0 a1 a2) (view_Owner.f (k + 1) a0 a1 a2) := by
 intro a0 a1 a2 k
 unfold view_Owner.f
 repeat' first
   | (with_reducible exact ring_Keeper.mono _ _ _)
   | (with_reducible exact view_Live.mono _ _ _)
   | (with_reducible exact LeO.refl _)
   | (with_reducible refine LeO.bind ?_ (fun _ => ?_))

set_option maxHeartbeats 8000000 in
set_option maxRecDepth 100000 in
theorem view_Owner.calls (k : Nat) (a0_0 : Int) (A0_1 : Option Addr) (c0_1 : Nat) (l0_1 : List (S53)) (a1 : ByteArray) (r1 : Int) (r2 : Bool) (w : World) (hr0_1 : Kd.C k53 w A0_1 l0_1.length l0_1) (hc0_1 : l0_1.length ≤ c0_1) (h : view_Owner.f k a0_0 l0_1 a1 = some (r1, r2)) (hT : NC.TabW w) :
  Calls Tryz.prog 8 #[.agg #[.int .i64 a0_0, .slice A0_1 l0_1.length c0_1], .string a1] w fun e w' => e = .returned (.tuple #[.int .i64 r1, .bool r2]) ∧ Below w.heap.size w w' := by
 have HT := Aside0.mk hT
 clear hT
 have hu24 := Tryz.underlying24
 have HR0_1 := Aside0.mk hr0_1
 have HC0_1 := Aside0.mk hc0_1
 clear hr0_1 hc0_1
 have HB := Aside0.mk (Below.refl w.heap.size w)
 have H : ((view_Live.f k a0_0 l0_1).bind fun t335 => ((ring_Keeper.f k a1 t335).bind fun bt338 => (some (bt338.1, bt338.2)))) = some (r1, r2) := h
 clear h
 replace H := Option.bind_eq_some_iff.mp H
 obtain ⟨t335, A30, H⟩ := H
 replace H : ((ring_Keeper.f k a1 t335).bind fun bt338 => (some (bt338.1, bt338.2))) = some (r1, r2) := H
 have A3 := Aside0.mk A30
 clear A30
 replace H := Option.bind_eq_some_iff.mp H
 obtain ⟨⟨t338, t339⟩, A40, H⟩ := H
 replace H : (some (t338, t339)) = some (r1, r2) := H
 have A4 := Aside0.mk A40
 clear A40
 simp only [Option.some.injEq, Prod.mk.injEq] at H
 obtain ⟨rfl, rfl⟩ := H
 go_enter Tryz.func8, Tryz.ntmps8
 go_wp2_with (first | ((with_reducible refine gate_dst (N := 2) rfl ?_); refine box_event ?hg (N := 2) ?hd (cs := #[.int .i64 a0_0, .slice A0_1 l0_1.length c0_1]) (t := 24) ?hr ?_; (case hd => rfl); (case hg => rfl); (case hr => first | (go_simp; done) ); intro gb334 hg w5 hbox hb; have n0_ := Aside0.mk (below_step (by repeat (first | (with_reducible first | exact HB.out ) )) hb); have n1_ := Aside0.mk (hbox); have n2_ := Aside0.mk ((by rw [hg]; exact (below_size (by repeat (first | (with_reducible first | exact HB.out ) ))) : w.heap.size ≤ gb334)); have n3_ := Aside0.mk ((by rw [hg]; exact (below_size (by repeat (first | (with_reducible first | exact HB.out ) ))) : w.heap.size ≤ gb334)); clear HB; have HB := n0_; have BK334 := n1_; have GW334 := n2_; have GE334 := n3_; clear n0_ n1_ n2_ n3_; clear hb hbox hg; have hcz6_0 : w5.cell? ⟨gb334, 0, none⟩ = some (.int .i64 a0_0) := (blk_cell BK334.out 0).trans rfl; have hcz6_1 : w5.cell? ⟨gb334, 1, none⟩ = some (.slice A0_1 l0_1.length c0_1) := (blk_cell BK334.out 1).trans rfl; have hfz6_0 := blk_frozen BK334.out 0; have hfz6_1 := blk_frozen BK334.out 1) | ((with_reducible refine gate_callee (f := 16) rfl ?_); refine goesL_ (some 8) rfl rfl Tryz.func16 (by kernel_rfl) rfl #[.agg #[.int .i64 a0_0, .slice A0_1 l0_1.length c0_1]] rfl (by (try simp only [List.map_toArray, List.map_cons, List.map_nil]); first | rfl ) ?_; (with_reducible refine (view_Live.calls k a0_0 _ _ l0_1 t335 _ ?side1 ?side2 A3.out).mono ?_); (case side1 => repeat (first | exact (Kd.C_below HR0_1.out HB.out) )); (case side2 => exact HC0_1.out); rintro e w7 ⟨v336, rfl, ho0, hb⟩; refine ⟨_, rfl, ?_⟩; have n0_ := Aside0.mk (Kd.R_lower ho0 (below_size (by repeat (first | (with_reducible first | exact HB.out ) )))); have n1_ := Aside0.mk (blk_below (g := gb334) (o := .cells #[.int .i64 a0_0, .slice A0_1 l0_1.length c0_1] 24 (0, 0)) (by (with_reducible repeat (fail)); exact BK334.out) hb); have n2_ := Aside0.mk (below_step (by repeat (first | (with_reducible first | exact HB.out ) )) hb); clear BK334; clear HB; have HO337 := n0_; have BK334 := n1_; have HB := n2_; clear n0_ n1_ n2_; (try clear hb); (try clear hb2); (try clear hk); (try clear hi); (try clear ho0); obtain ⟨Ao8, co8, eo8⟩ := Kd.R_slice HO337.out; subst eo8) | ((with_reducible refine gate_callee (f := 22) rfl ?_); refine goesL_ (some 9) rfl rfl Tryz.func22 (by kernel_rfl) rfl #[.string a1, .slice Ao8 t335.length co8] rfl (by (try simp only [List.map_toArray, List.map_cons, List.map_nil]); first | rfl ) ?_; (with_reducible refine (ring_Keeper.calls k a1 _ _ t335 t338 t339 _ ?side1 ?side2 A4.out (NC.TabW.below HT.out (by repeat (first | (with_reducible first | exact HB.out ) )))).mono ?_); (case side1 => repeat (first | exact (Kd.R_reads' HO337.out).2.2 )); (case side2 => exact (Kd.R_reads' HO337.out).2.1); rintro e w9 ⟨rfl, hb⟩; refine ⟨_, rfl, ?_⟩; have n0_ := Aside0.mk (Kd.R_below (by (with_reducible repeat (fail)); exact HO337.out) hb); have n1_ := Aside0.mk (blk_below (g := gb334) (o := .cells #[.int .i64 a0_0, .slice A0_1 l0_1.length c0_1] 24 (0, 0)) (by (with_reducible repeat (fail)); exact BK334.out) hb); have n2_ := Aside0.mk (below_step (by repeat (first | (with_reducible first | exact HB.out ) )) hb); clear HO337; clear BK334; clear HB; have HO337 := n0_; have BK334 := n1_; have HB := n2_; clear n0_ n1_ n2_; (try clear hb); (try clear hb2); (try clear hk); (try clear hi)))
 go_ret2
 exact ⟨by first | rfl , by repeat (first | (with_reducible first | exact HB.out ) )⟩

/-! ### ring_Heirs: function 23 (a contract of this session's own) -/
theorem info_int : (Tryz.prog.info? 3).map (fun i => (i.zero, i.size, i.bytes)) = some (some (.int .i64 0), 1, 8) := by kernel_rfl
theorem grow_nil (n : Nat) (hn : n * 8 ≤ 140737488355328) (w : World) :
    Calls Tryz.prog 72 #[.slice none 0 0, .int .i64 n] w fun e w' => ∃ v, e = .returned v ∧ (Kd.int .i64).R 3 w' w.heap.size (fun _ => True) v [] ∧ Below w.heap.size w w' := by
  rcases Nat.eq_zero_or_pos n with rfl | h0
  · refine (Any8.slices_Grow_room Tryz.growI none 0 0 0 w (Nat.le_refl _) (by decide) (by decide) (Nat.le_refl _)).mono ?_
    rintro e w' ⟨rfl, rfl⟩
    exact ⟨_, rfl, Kd.R_nil _ _ _ _ _, Below.refl _ _⟩
  · have hi := info_int
    cases hq : Tryz.prog.info? 3 with
    | none => rw [hq] at hi; cases hi
    | some i0 =>
      rw [hq] at hi
      simp only [Option.map_some, Option.some.injEq, Prod.mk.injEq] at hi
      obtain ⟨hz, hs, hb⟩ := hi
      refine (Any8.slices_Grow_grow Tryz.growI i0 (.int .i64 0) hq hz (by omega) none 0 0 n [] w (Nat.le_refl _) (by omega) (by rw [hb]; omega) (by omega) (by simp) (fun _ => rfl) (fun a h => by cases h)).mono ?_
      rintro e w' ⟨rfl, rfl⟩
      have hg := grownCap_ge w n 0 3
      have hm := grownCap_le_maxLen w (0 + n) 0 3 (by unfold maxLen; omega)
      refine ⟨_, rfl, R_of_own [] ⟨by simp, .inr ⟨w.heap.size, _, _, rfl, Nat.le_refl _, heap_alloc_new w.drew _, Nat.zero_le _, hm, ?_, by simp⟩⟩, below_alloc (below_drew (Below.refl _ w)) _⟩
      show (_ ++ _ ++ _ : Array Value).size = grownCap w (0 + n) 0 3 * 1
      rw [Array.size_append, Array.size_append, size_zeroCells, size_zeroCells]
      show ([] : List Value).toArray.size + (0 + n - 0) * 1 + (grownCap w (0 + n) 0 3 - (0 + n)) * 1 = _
      simp
      omega
set_option maxHeartbeats 4000000 in
set_option maxRecDepth 100000 in
theorem concat_two (p : Nat) (A1 A2 : Option Addr) (c1 c2 : Nat) (xs ys : List Int) (w : World) (h0 : w.cell? ⟨p, 0, none⟩ = some (.slice A1 xs.length c1)) (h1 : w.cell? ⟨p, 1, none⟩ = some (.slice A2 ys.length c2))
    (hx : Kd.C (Kd.int .i64) w A1 xs.length xs) (hy : Kd.C (Kd.int .i64) w A2 ys.length ys) (hl : (xs.length + ys.length) * 8 ≤ 140737488355328) :
    Calls Tryz.prog 43 #[.slice (some ⟨p, 0, none⟩) 2 2] w fun e w' => ∃ v, e = .returned v ∧ (Kd.int .i64).R 3 w' w.heap.size (fun _ => True) v (xs ++ ys) ∧ Below w.heap.size w w' := by
  have HX := Aside0.mk hx
  have HY := Aside0.mk hy
  have HL := Aside0.mk hl
  have HB0 := Aside0.mk (Below.refl w.heap.size w)
  have hp := World.block_lt_of_cell? w _ h0
  have H0 := Aside0.mk h0
  have H1 := Aside0.mk h1
  have HP := Aside0.mk hp
  have s1 : wrap64 (xs.length : Int) = (xs.length : Int) := by unfold wrap64; omega
  have s2 : wrap64 ((xs.length : Int) + (ys.length : Int)) = (xs.length : Int) + (ys.length : Int) := by unfold wrap64; omega
  have d1 : decide ((xs.length : Int) < 0) = false := decide_eq_false (by omega)
  have d2 : decide ((xs.length : Int) + (ys.length : Int) < 0) = false := decide_eq_false (by omega)
  have hg := grow_nil (xs.length + ys.length) hl w
  rw [Int.natCast_add] at hg
  have HG := Aside0.mk hg
  clear hx hy hl hp hg
  go_enter Tryz.func43, Tryz.ntmps43
  go_wp2
  go_loopg [3, 11] 2 (fun kq v3 v11 w' => w = w' ∧ ((kq = 2 ∧ v3 = .int .i64 0 ∧ v11 = .int .i64 0) ∨ (kq = 1 ∧ v3 = .int .i64 xs.length ∧ v11 = .int .i64 1) ∨ (kq = 0 ∧ v3 = .int .i64 ((xs.length : Int) + (ys.length : Int)) ∧ v11 = .int .i64 2)))
  case atStart => exact ⟨rfl, .inl ⟨rfl, rfl, rfl⟩⟩
  case round =>
    obtain ⟨rfl, h | h | h⟩ := hrel
    · obtain ⟨rfl, rfl, rfl⟩ := h
      go_wp2
      go_roundg 1
      case measure => omega
      case rel => exact ⟨rfl, .inr (.inl ⟨rfl, by rw [s1], rfl⟩)⟩
    · obtain ⟨rfl, rfl, rfl⟩ := h
      go_wp2
      go_roundg 0
      case measure => omega
      case rel => exact ⟨rfl, .inr (.inr ⟨rfl, by rw [s2], rfl⟩)⟩
    · obtain ⟨rfl, rfl, rfl⟩ := h
      clear s1 s2 d1 d2 h0 h1
      go_wp2_with (first | ((with_reducible refine gate_callee (f := 72) rfl ?_); refine goesL_ (some 24) rfl rfl Tryz.func72 (by kernel_rfl) rfl #[.slice none 0 0, .int .i64 ((xs.length : Int) + (ys.length : Int))] rfl (by (try simp only [List.map_toArray, List.map_cons, List.map_nil]); first | rfl) ?_; (with_reducible refine HG.out.mono ?_); rintro e w1 ⟨v1, rfl, hv1, hb1⟩; refine ⟨_, rfl, ?_⟩; have HV1 := Aside0.mk hv1; have HB1 := Aside0.mk hb1; clear hv1 hb1))
      go_loopg [6, 27] 2 (fun kq v6 v27 w' => Aside0 (Below w.heap.size w w') ∧ ((kq = 2 ∧ Aside0 ((Kd.int .i64).R 3 w' w.heap.size (fun _ => True) v6 []) ∧ v27 = .int .i64 0) ∨ (kq = 1 ∧ Aside0 ((Kd.int .i64).R 3 w' w.heap.size (fun _ => True) v6 xs) ∧ v27 = .int .i64 1) ∨ (kq = 0 ∧ Aside0 ((Kd.int .i64).R 3 w' w.heap.size (fun _ => True) v6 (xs ++ ys)) ∧ v27 = .int .i64 2)))
      case atStart => exact ⟨HB1, .inl ⟨rfl, HV1, rfl⟩⟩
      case round =>
        clear HB1 HV1
        obtain ⟨HB, h | h | h⟩ := hrel
        · obtain ⟨rfl, HV, rfl⟩ := h
          have l0 := (HB.out.cell (p := ⟨p, 0, none⟩) HP.out).trans H0.out
          go_wp2_with ((with_reducible refine gate_builtin (b := .append) (xs := #[.tmp 31, .tmp 32]) rfl ?_); at_builtin; refine Kd.R_append_rows (Kd.int .i64) (w0 := w) w.heap.size rfl (.tmp 31) (.tmp 32) 27 3 (.int .i64 0) 8 rfl Tryz.underlying27 info_int rfl (by decide) (by omega) _ [] xs A1 xs.length c1 (fun _ => True) (fun _ => False) rfl rfl HV.out (Kd.C_below HX.out HB.out) (fun x cs h => h) (fun _ h => h.elim) (fun _ _ => trivial) HB.out HB.out.size (by have := HL.out; simp; omega) ?_; intro v1 w1 h1 h2 h3 h4; have HV2 := Aside0.mk h1; have HB2 := Aside0.mk h2; clear h1 h2 h3 h4)
          go_roundg 1
          case measure => omega
          case rel => exact ⟨HB2, .inr (.inl ⟨rfl, ⟨by simpa using HV2.out⟩, rfl⟩)⟩
        · obtain ⟨rfl, HV, rfl⟩ := h
          have l0 := (HB.out.cell (p := ⟨p, 1, none⟩) HP.out).trans H1.out
          go_wp2_with ((with_reducible refine gate_builtin (b := .append) (xs := #[.tmp 31, .tmp 32]) rfl ?_); at_builtin; refine Kd.R_append_rows (Kd.int .i64) (w0 := w) w.heap.size rfl (.tmp 31) (.tmp 32) 27 3 (.int .i64 0) 8 rfl Tryz.underlying27 info_int rfl (by decide) (by omega) _ xs ys A2 ys.length c2 (fun _ => True) (fun _ => False) rfl rfl HV.out (Kd.C_below HY.out HB.out) (fun x cs h => h) (fun _ h => h.elim) (fun _ _ => trivial) HB.out HB.out.size HL.out ?_; intro v1 w1 h1 h2 h3 h4; have HV2 := Aside0.mk h1; have HB2 := Aside0.mk h2; clear h1 h2 h3 h4)
          go_roundg 0
          case measure => omega
          case rel => exact ⟨HB2, .inr (.inr ⟨rfl, HV2, rfl⟩)⟩
        · obtain ⟨rfl, HV, rfl⟩ := h
          go_wp2
          go_ret
          exact ⟨_, rfl, HV.out, HB.out⟩
def ring_Heirs.f (k : Nat) (a0 : Int) (l1 : List Int) (a2 : Int) : Option (List Int) := (ring_Ring.f k l1).bind fun r => if r.length = 0 then some [] else (ring_first.f a0 r).bind fun i => some (((r.drop i.toNat) ++ (r.take i.toNat)).take (min (max a2 0) r.length).toNat)
theorem ring_Heirs.mono : ∀ a0 a1 a2 k, LeO (ring_Heirs.f k a0 a1 a2) (ring_Heirs.f (k + 1) a0 a1 a2) := by
  intro a0 a1 a2 k
  unfold ring_Heirs.f
  exact LeO.bind (ring_Ring.mono _ _) fun _ => LeO.refl _
theorem idxFR_le (p : Int → Bool) : ∀ (l : List Int) (i : Int), idxFR p l i = -1 ∨ (i ≤ idxFR p l i ∧ idxFR p l i < i + l.length)
  | [], _ => .inl rfl
  | x :: l, i => by
    unfold idxFR
    by_cases h : p x = true
    · rw [if_pos h]; right; simp; omega
    · rw [if_neg h]
      rcases idxFR_le p l (i + 1) with h | h
      · exact .inl h
      · right; simp; omega
theorem R_take {w : World} {base n c m : Nat} {ok : Nat → Prop} {A : Option Addr} {xs : List Int} (h : (Kd.int .i64).R 3 w base ok (.slice A n c) xs) (hm : m ≤ xs.length) : (Kd.int .i64).R 3 w base (fun _ => True) (.slice A m c) (xs.take m) := by
  have ho := own_of_R h
  have hn : n = xs.length := by
    rcases own_le' ho with ⟨he, h0⟩ | ⟨g, cap, cur, he, _⟩
    · injection he with _ h2 _; omega
    · injection he
  subst hn
  have h2 := own_take ho hm
  rw [Nat.mul_one, ← List.map_take] at h2
  refine R_of_own _ ?_
  rw [List.length_take, Nat.min_eq_left hm]
  exact h2
theorem ring_Ring_small {k : Nat} {l q : List Int} (h : ring_Ring.f k l = some q) : q.length * 8 ≤ 140737488355328 := by
  obtain ⟨t, _, h⟩ := Option.bind_eq_some_iff.1 h
  split at h
  · split at h
    · obtain rfl := Option.some.inj h
      rw [sortZ_len]
      assumption
    · cases h
  · obtain rfl := Option.some.inj h
    simp
set_option maxHeartbeats 4000000 in
set_option maxRecDepth 100000 in
theorem ring_Heirs.calls (k : Nat) (a0 : Int) (A1 : Option Addr) (c1 : Nat) (l1 : List Int) (a2 : Int) (r : List Int) (w : World) (hr1 : Kd.C (Kd.int .i64) w A1 l1.length l1) (hc1 : l1.length ≤ c1) (h : ring_Heirs.f k a0 l1 a2 = some r) :
    Calls Tryz.prog 23 #[.int .u64 a0, .slice A1 l1.length c1, .int .i64 a2] w fun e w' => ∃ v0_ : Value, e = .returned (v0_) ∧ Kd.R (Kd.int .i64) 3 w' w.heap.size (fun _ => True) v0_ r ∧ Below w.heap.size w w' := by
  obtain ⟨q, hQ, h⟩ := Option.bind_eq_some_iff.1 h
  have HRG := Aside0.mk (ring_Ring.calls k A1 c1 l1 q w hr1 hc1 hQ)
  have hqs := ring_Ring_small hQ
  by_cases hq : q.length = 0
  · rw [if_pos hq] at h
    obtain rfl := Option.some.inj h
    obtain rfl := List.eq_nil_of_length_eq_zero hq
    clear h hr1 hc1 hQ hq hqs
    go_enter Tryz.func23, Tryz.ntmps23
    go_wp2_with (first
      | ((with_reducible refine gate_callee (f := 41) rfl ?_); refine goesL_ (some 11) rfl rfl Tryz.func41 (by kernel_rfl) rfl #[.slice A1 l1.length c1] rfl (by (try simp only [List.map_toArray, List.map_cons, List.map_nil]); first | rfl) ?_; (with_reducible refine HRG.out.mono ?_); rintro e w1 ⟨v1, rfl, hv1, hb1⟩; refine ⟨_, rfl, ?_⟩; obtain ⟨A, c, rfl, hAc, hA⟩ := Kd.R_reads hv1; have HB1 := Aside0.mk hb1; clear hv1 hb1 hA hAc))
    go_ret
    exact ⟨_, rfl, Kd.R_nil _ _ _ _ _, HB1.out⟩
  · rw [if_neg hq] at h
    have h : some (((q.drop (max (idxFR (fun x => decide (a0 ≤ pointZ x)) q 0) 0).toNat) ++ (q.take (max (idxFR (fun x => decide (a0 ≤ pointZ x)) q 0) 0).toNat)).take (min (max a2 0) q.length).toNat) = some r := h
    have hid := idxFR_le (fun x => decide (a0 ≤ pointZ x)) q 0
    have hfi := fun (A : Option Addr) (c : Nat) (W : World) => ring_first.calls' a0 A c q W
    obtain ⟨i, hi⟩ : ∃ i : Nat, max (idxFR (fun x => decide (a0 ≤ pointZ x)) q 0) 0 = (i : Int) := ⟨(max (idxFR (fun x => decide (a0 ≤ pointZ x)) q 0) 0).toNat, by omega⟩
    have hil : i < q.length := by omega
    rw [hi] at h
    simp only [hi] at hfi
    rw [Int.toNat_natCast] at h
    have HFI := Aside0.mk hfi
    clear hfi hid hi
    have hq0 : decide ((q.length : Int) = 0) = false := decide_eq_false (by omega)
    have hq1 : ((q.length : Int) == 0) = false := by rw [beq_eq_false_iff_ne]; omega
    have HH := Aside0.mk h
    clear h hr1 hc1 hQ
    have hi1 : decide ((i : Int) ≤ (q.length : Int)) = true := decide_eq_true (by omega)
    go_enter Tryz.func23, Tryz.ntmps23
    go_wp2_with (first
      | ((with_reducible refine gate_callee (f := 41) rfl ?_); refine goesL_ (some 11) rfl rfl Tryz.func41 (by kernel_rfl) rfl #[.slice A1 l1.length c1] rfl (by (try simp only [List.map_toArray, List.map_cons, List.map_nil]); first | rfl) ?_; (with_reducible refine HRG.out.mono ?_); rintro e w1 ⟨v1, rfl, hv1, hb1⟩; refine ⟨_, rfl, ?_⟩; obtain ⟨A, c, rfl, hAc, hA⟩ := Kd.R_reads hv1; have HA := Aside0.mk hA; have HAC := Aside0.mk hAc; have HB1 := Aside0.mk hb1; clear hv1 hb1 hA hAc)
      | ((with_reducible refine gate_callee (f := 42) rfl ?_); refine goesL_ (some 17) rfl rfl Tryz.func42 (by kernel_rfl) rfl #[.int .u64 a0, .slice A q.length c] rfl (by (try simp only [List.map_toArray, List.map_cons, List.map_nil]); first | rfl) ?_; (with_reducible refine (HFI.out A c w1 HA.out HAC.out).mono ?_); rintro e w2 ⟨rfl, hb2⟩; refine ⟨_, rfl, ?_⟩; have HB2 := Aside0.mk hb2; clear hb2))
    obtain ⟨i0, hi0, hsz0⟩ : ∃ i0, Tryz.prog.info? 3 = some i0 ∧ i0.size = 1 := by
      have hi := info_int
      cases hq : Tryz.prog.info? 3 with
      | none => rw [hq] at hi; cases hi
      | some i0 =>
        rw [hq] at hi
        simp only [Option.map_some, Option.some.injEq, Prod.mk.injEq] at hi
        exact ⟨i0, rfl, hi.2.1⟩
    obtain ⟨A', hd1, hd2, hd3⟩ := print_drop_of (P := Tryz.prog) (Value.int .i64) (0 : Int) 27 3 .i64 Tryz.underlying27 hi0 hsz0 A c q (i : Int) (by omega) (by omega) HAC.out
    obtain ⟨ht1, ht2, ht3⟩ := print_take_of (P := Tryz.prog) (Value.int .i64) (0 : Int) 27 3 .i64 Tryz.underlying27 hi0 hsz0 A c q (i : Int) (by omega) (by omega) HAC.out
    rw [Int.toNat_natCast] at hd1 hd2 hd3 ht1 ht2 ht3
    have HD2 := Aside0.mk hd2
    have HT2 := Aside0.mk ht2
    clear hd2 ht2 hi0 hsz0 hd3 ht3
    go_still_tail 6, (by kernel_rfl)
    change wpList _ _ _ _ _ w2.drew
    have hA2 := Kd.C_below HA.out HB2.out
    have hCd : Kd.C (Kd.int .i64) w2 A' (q.drop i).length (q.drop i) := Kd.C_of_reads (HD2.out w2 (Kd.reads_of_C hA2))
    have hCt : Kd.C (Kd.int .i64) w2 A (q.take i).length (q.take i) := Kd.C_of_reads (HT2.out w2 (Kd.reads_of_C hA2))
    have hbw : Below w2.heap.size w2 ((w2.alloc (.cells #[.slice A' (q.length - i) (c - i), .slice A (min i q.length) c] 27)).drew) := below_drew (below_alloc (Below.refl _ w2) _)
    have hcc := concat_two w2.heap.size A' A (c - i) c (q.drop i) (q.take i) ((w2.alloc (.cells #[.slice A' (q.length - i) (c - i), .slice A (min i q.length) c] 27)).drew)
      (by rw [List.length_drop]; refine (cell_of_row _ w2.heap.size 0 _ _ (0, 0) (heap_alloc_new w2 _)).trans ?_; simp)
      (by rw [List.length_take]; refine (cell_of_row _ w2.heap.size 1 _ _ (0, 0) (heap_alloc_new w2 _)).trans ?_; simp)
      (Kd.C_below hCd hbw) (Kd.C_below hCt hbw) (by rw [List.length_drop, List.length_take]; omega)
    have HCC := Aside0.mk hcc
    have HBW := Aside0.mk hbw
    clear hcc hbw hCd hCt hA2
    go_wp2_with (first
      | ((with_reducible refine gate_callee (f := 43) rfl ?_); refine goesL_ (some 25) rfl rfl Tryz.func43 (by kernel_rfl) rfl #[.slice (some ⟨w2.heap.size, 0, none⟩) 2 2] rfl (by (try simp only [List.map_toArray, List.map_cons, List.map_nil]); first | rfl) ?_; (with_reducible refine HCC.out.mono ?_); rintro e w3 ⟨v3, rfl, hv3, hb3⟩; refine ⟨_, rfl, ?_⟩; have HV3 := Aside0.mk hv3; have HB3 := Aside0.mk hb3; clear hv3 hb3; obtain ⟨A3, c3, rfl, hc3, hr3⟩ := Kd.R_reads HV3.out; clear hr3))
    all_goals
      have hr := Option.some.inj HH.out
      have hql : (q.drop i ++ q.take i).length = q.length := by simp; omega
      have hc3' := hc3
      rw [List.length_append, List.length_drop, List.length_take] at hc3'
      first
        | (exfalso; omega)
        | (have z1 := HB1.out.size
           have z2 := HB2.out.size
           have z3 := HBW.out.size
           have hB := Below.trans HB1.out (Below.trans (HB2.out.mono z1) (Below.trans (HBW.out.mono (Nat.le_trans z1 z2)) (HB3.out.mono (Nat.le_trans (Nat.le_trans z1 z2) z3))))
           have h3 := R_take HV3.out (m := (min (max a2 0) q.length).toNat) (by rw [hql]; omega)
           rw [hr] at h3
           have h4 := Kd.R_lower h3 (Nat.le_trans (Nat.le_trans z1 z2) z3)
           have h5 : ∀ m, m = (min (max a2 0) q.length).toNat → (Kd.int .i64).R 3 w3 w.heap.size (fun _ => True) (.slice A3 m c3) r := by rintro m rfl; exact h4
           go_ret
           exact ⟨_, rfl, h5 _ (by omega), hB⟩)

/-! ### view_Heirs: function 10 -/
def view_Heirs.f (k : Nat) (a0_0 : Int) (l0_1 : List (S53)) (a1 : ByteArray) : Option (List Int) := (name_Key.f k a1).bind fun t341 => ((view_Live.f k a0_0 l0_1).bind fun t342 => ((ring_Heirs.f k t341 t342 3).bind fun t345 => (some t345)))
theorem view_Heirs.mono : ∀ a0 a1 a2 k, LeO (view_Heirs.f k a0 a1 a2) (view_Heirs.f (k + 1) a0 a1 a2) := by
 intro a0 a1 a2 k
 unfold view_Heirs.f
 repeat' first
   | (with_reducible exact name_Key.mono _ _)
   | (with_reducible exact ring_Heirs.mono _ _ _ _)
   | (with_reducible exact view_Live.mono _ _ _)
   | (with_reducible exact LeO.refl _)
   | (with_reducible refine LeO.bind ?_ (fun _ => ?_))

set_option maxHeartbeats 8000000 in
set_option maxRecDepth 100000 in
theorem view_Heirs.calls (k : Nat) (a0_0 : Int) (A0_1 : Option Addr) (c0_1 : Nat) (l0_1 : List (S53)) (a1 : ByteArray) (r : List Int) (w : World) (hr0_1 : Kd.C k53 w A0_1 l0_1.length l0_1) (hc0_1 : l0_1.length ≤ c0_1) (h : view_Heirs.f k a0_0 l0_1 a1 = some r) (hT : NC.TabW w) :
  Calls Tryz.prog 10 #[.agg #[.int .i64 a0_0, .slice A0_1 l0_1.length c0_1], .string a1] w fun e w' => ∃ v0_ : Value, e = .returned (v0_) ∧ Kd.R (Kd.int .i64) 3 w' w.heap.size (fun _ => True) v0_ r ∧ Below w.heap.size w w' := by
 have HT := Aside0.mk hT
 clear hT
 have hu24 := Tryz.underlying24
 have HR0_1 := Aside0.mk hr0_1
 have HC0_1 := Aside0.mk hc0_1
 clear hr0_1 hc0_1
 have HB := Aside0.mk (Below.refl w.heap.size w)
 have H : ((name_Key.f k a1).bind fun t341 => ((view_Live.f k a0_0 l0_1).bind fun t342 => ((ring_Heirs.f k t341 t342 3).bind fun t345 => (some t345)))) = some r := h
 clear h
 replace H := Option.bind_eq_some_iff.mp H
 obtain ⟨t341, A30, H⟩ := H
 replace H : ((view_Live.f k a0_0 l0_1).bind fun t342 => ((ring_Heirs.f k t341 t342 3).bind fun t345 => (some t345))) = some r := H
 have A3 := Aside0.mk A30
 clear A30
 replace H := Option.bind_eq_some_iff.mp H
 obtain ⟨t342, A40, H⟩ := H
 replace H : ((ring_Heirs.f k t341 t342 3).bind fun t345 => (some t345)) = some r := H
 have A4 := Aside0.mk A40
 clear A40
 replace H := Option.bind_eq_some_iff.mp H
 obtain ⟨t345, A50, H⟩ := H
 replace H : (some t345) = some r := H
 have A5 := Aside0.mk A50
 clear A50
 obtain rfl := Option.some.inj H
 go_enter Tryz.func10, Tryz.ntmps10
 try go_wp2_with (first | ((with_reducible refine gate_dst (N := 2) rfl ?_); refine box_event ?hg (N := 2) ?hd (cs := #[.int .i64 a0_0, .slice A0_1 l0_1.length c0_1]) (t := 24) ?hr ?_; (case hd => rfl); (case hg => rfl); (case hr => first | (go_simp; done) ); intro gb340 hg w6 hbox hb; have n0_ := Aside0.mk (below_step (by repeat (first | (with_reducible first | exact HB.out ) )) hb); have n1_ := Aside0.mk (hbox); have n2_ := Aside0.mk ((by rw [hg]; exact (below_size (by repeat (first | (with_reducible first | exact HB.out ) ))) : w.heap.size ≤ gb340)); have n3_ := Aside0.mk ((by rw [hg]; exact (below_size (by repeat (first | (with_reducible first | exact HB.out ) ))) : w.heap.size ≤ gb340)); clear HB; have HB := n0_; have BK340 := n1_; have GW340 := n2_; have GE340 := n3_; clear n0_ n1_ n2_ n3_; clear hb hbox hg))
 have n0_ := Aside0.mk (blk_drew BK340.out)
 have n1_ := Aside0.mk (below_drew1 HB.out)
 clear BK340
 clear HB
 have BK340 := n0_
 have HB := n1_
 clear n0_ n1_
 refine start_ (n := 6) (S := fun w' => w'.cell? ⟨gb340, 0, none⟩ = some (.int .i64 a0_0) ∧ w'.cell? ⟨gb340, 1, none⟩ = some (.slice A0_1 l0_1.length c0_1)) (ds := []) #[false, false, false, false, false, false] (by kernel_rfl) rfl rfl ⟨(blk_cell BK340.out 0).trans rfl, (blk_cell BK340.out 1).trans rfl⟩ (fun hHeld => ?_)
 generalize w6.drew = w7 at BK340 HB hHeld ⊢
 refine pure_ (i := 0) (N := some 5) (v := ?_) (a' := ?_) #[true, false, false, false, false, false] rfl rfl (by kernel_rfl) (fun _ _ _ h => h) (Or.inl ⟨by rfl, ?_⟩) ?_ ?_
 rotate_left
 ·intro w'
  go_simp
  with_reducible rfl
 rotate_left
 ·simp only [Act.put, List.setIfInBounds_toArray, List.set_cons_zero, List.set_cons_succ, i64_w, i32_w]
  rfl
 refine take_ (i := 2) (N := some 7) (v := ?_) (a' := ?_) #[true, false, true, false, false, false] rfl rfl (by kernel_rfl) (fun _ _ _ h => h) (Or.inl ⟨by rfl, ?_⟩) hHeld ?_ ?_
 rotate_left
 ·rintro w' ⟨s0, s1⟩
  go_simp
  with_reducible rfl
 rotate_left
 ·simp only [Act.put, List.setIfInBounds_toArray, List.set_cons_zero, List.set_cons_succ, i64_w, i32_w]
  rfl
 refine one_ (i := 1) (N := some 6) #[true, true, true, false, false, false] rfl rfl (by kernel_rfl) (by decide) (fun K hK => ?_)
 refine goes_ Tryz.func24 (by kernel_rfl) rfl #[.string a1] (by rfl) rfl rfl (by (try simp only [List.map_toArray, List.map_cons, List.map_nil]); first | rfl ) ?_
 with_reducible refine (name_Key.calls k a1 t341 _ A3.out (NC.TabW.below HT.out (by repeat (first | (with_reducible first | exact HB.out ) )))).mono ?_
 rintro e w8 ⟨rfl, hb⟩
 refine ⟨_, rfl, ?_⟩
 have n0_ := Aside0.mk (blk_below (g := gb340) (o := .cells #[.int .i64 a0_0, .slice A0_1 l0_1.length c0_1] 24 (0, 0)) (by (with_reducible repeat (fail)); exact BK340.out) hb)
 have n1_ := Aside0.mk (below_step (by repeat (first | (with_reducible first | exact HB.out ) )) hb)
 clear BK340
 clear HB
 have BK340 := n0_
 have HB := n1_
 clear n0_ n1_
 (try clear hb)
 (try clear hb2)
 (try clear hk)
 (try clear hi)
 refine hK.out _ _ ⟨(blk_cell BK340.out 0).trans rfl, (blk_cell BK340.out 1).trans rfl⟩ (fun hHeld => ?_)
 clear hK K
 refine norm_ (a' := ?_) ?_ ?_
 rotate_left
 ·show Act.put _ (some 6) _ = _
  simp only [Act.put, List.setIfInBounds_toArray, List.set_cons_zero, List.set_cons_succ, i64_w, i32_w]
  rfl
 refine one_ (i := 3) (N := some 8) #[true, true, true, true, false, false] rfl rfl (by kernel_rfl) (by decide) (fun K hK => ?_)
 refine goes_ Tryz.func16 (by kernel_rfl) rfl #[.agg #[.int .i64 a0_0, .slice A0_1 l0_1.length c0_1]] (by rfl) rfl rfl (by (try simp only [List.map_toArray, List.map_cons, List.map_nil]); first | rfl ) ?_
 with_reducible refine (view_Live.calls k a0_0 _ _ l0_1 t342 _ ?side1 ?side2 A4.out).mono ?_
 (case side1 => repeat (first | exact (Kd.C_below HR0_1.out HB.out) ))
 (case side2 => exact HC0_1.out)
 rintro e w9 ⟨v343, rfl, ho0, hb⟩
 refine ⟨_, rfl, ?_⟩
 have n0_ := Aside0.mk (Kd.R_lower ho0 (below_size (by repeat (first | (with_reducible first | exact HB.out ) ))))
 have n1_ := Aside0.mk (blk_below (g := gb340) (o := .cells #[.int .i64 a0_0, .slice A0_1 l0_1.length c0_1] 24 (0, 0)) (by (with_reducible repeat (fail)); exact BK340.out) hb)
 have n2_ := Aside0.mk (below_step (by repeat (first | (with_reducible first | exact HB.out ) )) hb)
 clear BK340
 clear HB
 have HO344 := n0_
 have BK340 := n1_
 have HB := n2_
 clear n0_ n1_ n2_
 (try clear hb)
 (try clear hb2)
 (try clear hk)
 (try clear hi)
 (try clear ho0)
 obtain ⟨Ao10, co10, eo10⟩ := Kd.R_slice HO344.out
 (first | subst eo10 )
 refine hK.out _ _ ⟨(blk_cell BK340.out 0).trans rfl, (blk_cell BK340.out 1).trans rfl⟩ (fun hHeld => ?_)
 clear hK K
 refine norm_ (a' := ?_) ?_ ?_
 rotate_left
 ·show Act.put _ (some 8) _ = _
  simp only [Act.put, List.setIfInBounds_toArray, List.set_cons_zero, List.set_cons_succ, i64_w, i32_w]
  rfl
 refine one_ (i := 4) (N := some 9) #[true, true, true, true, true, false] rfl rfl (by kernel_rfl) (by decide) (fun K hK => ?_)
 refine goes_ Tryz.func23 (by kernel_rfl) rfl #[.int .u64 t341, .slice Ao10 t342.length co10, .int .i64 3] (by rfl) rfl rfl (by (try simp only [List.map_toArray, List.map_cons, List.map_nil]); first | rfl ) ?_
 with_reducible refine (ring_Heirs.calls k t341 _ _ t342 3 t345 _ ?side1 ?side2 A5.out).mono ?_
 (case side1 => repeat (first | exact (Kd.R_reads' HO344.out).2.2 ))
 (case side2 => exact (Kd.R_reads' HO344.out).2.1)
 rintro e w11 ⟨v346, rfl, ho0, hb⟩
 refine ⟨_, rfl, ?_⟩
 have n0_ := Aside0.mk (Kd.R_elder' (by (with_reducible repeat (fail)); exact HO344.out) (Kd.R_base ho0) hb)
 have n1_ := Aside0.mk (Kd.R_lower (Kd.R_new' ho0 (Kd.R_lt (by (with_reducible repeat (fail)); exact HO344.out))) (below_size (by repeat (first | (with_reducible first | exact HB.out ) ))))
 have n2_ := Aside0.mk (blk_below (g := gb340) (o := .cells #[.int .i64 a0_0, .slice A0_1 l0_1.length c0_1] 24 (0, 0)) (by (with_reducible repeat (fail)); exact BK340.out) hb)
 have n3_ := Aside0.mk (below_step (by repeat (first | (with_reducible first | exact HB.out ) )) hb)
 clear HO344
 clear BK340
 clear HB
 have HO344 := n0_
 have HO347 := n1_
 have BK340 := n2_
 have HB := n3_
 clear n0_ n1_ n2_ n3_
 (try clear hb)
 (try clear hb2)
 (try clear hk)
 (try clear hi)
 (try clear ho0)
 refine hK.out _ _ ⟨(blk_cell BK340.out 0).trans rfl, (blk_cell BK340.out 1).trans rfl⟩ (fun hHeld => ?_)
 clear hK K
 refine norm_ (a' := ?_) ?_ ?_
 rotate_left
 ·show Act.put _ (some 9) _ = _
  simp only [Act.put, List.setIfInBounds_toArray, List.set_cons_zero, List.set_cons_succ, i64_w, i32_w]
  rfl
 refine pure_ (i := 5) (N := some 4) (v := ?_) (a' := ?_) #[true, true, true, true, true, true] rfl rfl (by kernel_rfl) (fun _ _ _ h => h) (Or.inl ⟨by rfl, ?_⟩) ?_ ?_
 rotate_left
 ·intro w'
  go_simp
  with_reducible rfl
 rotate_left
 ·simp only [Act.put, List.setIfInBounds_toArray, List.set_cons_zero, List.set_cons_succ, i64_w, i32_w]
  rfl
 refine done_ (by kernel_rfl) ?_
 try go_wp2
 go_ret
 exact ⟨_, by first | rfl , by (with_reducible repeat (fail)); exact Kd.R_mono HO347.out (fun _ hk => trivial), by repeat (first | (with_reducible first | exact HB.out ) )⟩

/-! ### api_Member_51: function 51 -/
def api_Member_51.l0 : Nat → List (S53) → Int → Int → Int → Int → Bool → Option (Int)
 | 0, _, _, _, _, _, _ => none
 | k + 1, x0, x7, x8, x349000, x349001, x349002 => if x8 < x7 then (if 0 ≤ x8 then (if x8 < (x0.length : Int) then (if (x349000 == ((rd_T53 x0 x8).f0) && (x349001 == ((rd_T53 x0 x8).f1) && (x349002 == ((rd_T53 x0 x8).f2)))) = true then (some x8) else (api_Member_51.l0 k x0 x7 (wrap64 (x8 + 1)) x349000 x349001 x349002)) else (none)) else (none)) else (some (-1))
def api_Member_51.f (k : Nat) (l0 : List (S53)) (a1_0 : Int) (a1_1 : Int) (a1_2 : Bool) : Option (Int) := api_Member_51.l0 k l0 (l0.length : Int) 0 a1_0 a1_1 a1_2
theorem api_Member_51.mono_l : ∀ k, (∀ y0 y1 y2 y3 y4 y5, LeO (api_Member_51.l0 k y0 y1 y2 y3 y4 y5) (api_Member_51.l0 (k + 1) y0 y1 y2 y3 y4 y5))
 | 0 => fun _ _ _ _ _ _ r h => by simp [api_Member_51.l0] at h
 | k + 1 => by
  have ih0 := api_Member_51.mono_l k
  ·intro y0 y1 y2 y3 y4 y5
   unfold api_Member_51.l0
   repeat' first
   | (with_reducible exact ih0 _ _ _ _ _ _)
   | (with_reducible exact LeO.refl _)
   | (with_reducible refine LeO.ite ?_ ?_)

theorem api_Member_51.mono : ∀ a0 a1 a2 a3 k, LeO (api_Member_51.f k a0 a1 a2 a3) (api_Member_51.f (k + 1) a0 a1 a2 a3) := by
 intro a0 a1 a2 a3 k
 have ih0 := api_Member_51.mono_l k
 unfold api_Member_51.f
 repeat' first
   | (with_reducible exact ih0 _ _ _ _ _ _)

set_option maxHeartbeats 8000000 in
set_option maxRecDepth 100000 in
theorem api_Member_51.calls (k : Nat) (A0 : Option Addr) (c0 : Nat) (l0 : List (S53)) (a1_0 : Int) (a1_1 : Int) (a1_2 : Bool) (r : Int) (w : World) (hr0 : Kd.C k53 w A0 l0.length l0) (hc0 : l0.length ≤ c0) (h : api_Member_51.f k l0 a1_0 a1_1 a1_2 = some r) :
  Calls Tryz.prog 51 #[.slice A0 l0.length c0, .agg #[.int .i64 a1_0, .int .i64 a1_1, .bool a1_2]] w fun e w' => e = .returned (.int .i64 r) ∧ Below w.heap.size w w' := by
 have hu53 := Tryz.underlying53
 have HR0 := Aside0.mk hr0
 have HC0 := Aside0.mk hc0
 clear hr0 hc0
 have HB := Aside0.mk (Below.refl w.heap.size w)
 have H : (api_Member_51.l0 k l0 (l0.length : Int) 0 a1_0 a1_1 a1_2) = some r := h
 clear h
 have H' := Aside0.mk H
 clear H
 go_enter Tryz.func51, Tryz.ntmps51
 go_wp2_with (first | ((with_reducible refine gate_dst (N := 3) rfl ?_); refine box_event ?hg (N := 3) ?hd (cs := #[.int .i64 a1_0, .int .i64 a1_1, .bool a1_2]) (t := 53) ?hr ?_; (case hd => rfl); (case hg => rfl); (case hr => first | (go_simp; done) ); intro gb348 hg w3 hbox hb; have n0_ := Aside0.mk (below_step (by repeat (first | (with_reducible first | exact HB.out ) )) hb); have n1_ := Aside0.mk (hbox); have n2_ := Aside0.mk ((by rw [hg]; exact (below_size (by repeat (first | (with_reducible first | exact HB.out ) ))) : w.heap.size ≤ gb348)); have n3_ := Aside0.mk ((by rw [hg]; exact (below_size (by repeat (first | (with_reducible first | exact HB.out ) ))) : w.heap.size ≤ gb348)); clear HB; have HB := n0_; have BK348 := n1_; have GW348 := n2_; have GE348 := n3_; clear n0_ n1_ n2_ n3_; clear hb hbox hg))
 go_loopg [8] k (fun kq v8 w' => ∃ (x8_1 : Int), v8 = .int .i64 x8_1 ∧ Aside0 (api_Member_51.l0 kq l0 (l0.length : Int) x8_1 a1_0 a1_1 a1_2 = some r) ∧ Aside0 (kq ≤ k) ∧ Aside0 (w'.heap[gb348]? = some (.cells #[.int .i64 a1_0, .int .i64 a1_1, .bool a1_2] 53 (0, 0))) ∧ Aside0 (Below w.heap.size w w'))
 case atStart => exact ⟨(0), (by first | rfl ), H', ⟨Nat.le_refl _⟩, ⟨by (with_reducible repeat (fail)); exact BK348.out⟩, ⟨by repeat (first | (with_reducible first | exact HB.out ) )⟩⟩
 case round =>
  clear H'
  try clear p2
  obtain ⟨x8_1, rfl, HA, HK1, BK348, HB⟩ := hrel
  cases gk with
  | zero => exact absurd HA.out (by simp [api_Member_51.l0])
  | succ k1 =>
   have H := HA.out
   clear HA
   simp only [api_Member_51.l0] at H
   by_cases c4 : x8_1 < (l0.length : Int)
   ·rw [if_pos c4] at H
    have c4b0 : decide (x8_1 < (l0.length : Int)) = true := decide_eq_true c4
    clear c4
    by_cases c5 : 0 ≤ x8_1
    ·rw [if_pos c5] at H
     have c5b0 : decide (0 ≤ x8_1) = true := decide_eq_true c5
     clear c5
     by_cases c6 : x8_1 < (l0.length : Int)
     ·rw [if_pos c6] at H
      have c6b0 : decide (x8_1 < (l0.length : Int)) = true := decide_eq_true c6
      clear c6
      by_cases c7 : (a1_0 == ((rd_T53 l0 x8_1).f0) && (a1_1 == ((rd_T53 l0 x8_1).f1) && (a1_2 == ((rd_T53 l0 x8_1).f2)))) = true
      ·rw [if_pos c7] at H
       have c7b0 : (a1_0 == ((rd_T53 l0 x8_1).f0) && (a1_1 == ((rd_T53 l0 x8_1).f1) && (a1_2 == ((rd_T53 l0 x8_1).f2)))) = true := c7
       (try (have c7b1 : decide (a1_0 = ((rd_T53 l0 x8_1).f0) && (a1_1 == ((rd_T53 l0 x8_1).f1) && (a1_2 == ((rd_T53 l0 x8_1).f2)))) = true := by simpa using c7))
       (try (have c7b2 : (a1_0 == ((rd_T53 l0 x8_1).f0) && (a1_1 == ((rd_T53 l0 x8_1).f1) && (a1_2 == ((rd_T53 l0 x8_1).f2)))) = true := by simpa using c7))
       clear c7
       obtain rfl := Option.some.inj H
       have hcz8_0 : wr.cell? ⟨gb348, 0, none⟩ = some (.int .i64 a1_0) := (blk_cell BK348.out 0).trans rfl
       have hcz8_1 : wr.cell? ⟨gb348, 1, none⟩ = some (.int .i64 a1_1) := (blk_cell BK348.out 1).trans rfl
       have hcz8_2 : wr.cell? ⟨gb348, 2, none⟩ = some (.bool a1_2) := (blk_cell BK348.out 2).trans rfl
       have hfz8_0 := blk_frozen BK348.out 0
       have hfz8_1 := blk_frozen BK348.out 1
       have hfz8_2 := blk_frozen BK348.out 2
       have p349 : 0 ≤ (x8_1 : Int) := of_decide_eq_true (by first | (with_reducible assumption) )
       have q349 : x8_1 < (l0.length : Int) := of_decide_eq_true (by first | (with_reducible assumption) )
       obtain ⟨ad349, e349, hx349_0, hx349_1, hx349_2⟩ := at_T53 HR0.out x8_1 p349 q349
       cases e349
       replace hx349_0 := (HB.out.cell (World.block_lt_of_cell? w _ hx349_0)).trans hx349_0
       replace hx349_1 := (HB.out.cell (World.block_lt_of_cell? w _ hx349_1)).trans hx349_1
       replace hx349_2 := (HB.out.cell (World.block_lt_of_cell? w _ hx349_2)).trans hx349_2
       replace p349 := eq_true p349
       replace q349 := eq_true q349
       go_wp2
       repeat (go_quiet (fail); try go_wp2)
       go_ret
       exact ⟨by first | rfl , by repeat (first | (with_reducible first | exact HB.out | apply pw_below_drewN ) )⟩
      ·rw [if_neg c7] at H
       have c7b0 : (a1_0 == ((rd_T53 l0 x8_1).f0) && (a1_1 == ((rd_T53 l0 x8_1).f1) && (a1_2 == ((rd_T53 l0 x8_1).f2)))) = false := by simpa using c7
       (try (have c7b1 : decide (a1_0 = ((rd_T53 l0 x8_1).f0) && (a1_1 == ((rd_T53 l0 x8_1).f1) && (a1_2 == ((rd_T53 l0 x8_1).f2)))) = false := by simpa using c7))
       (try (have c7b2 : (a1_0 == ((rd_T53 l0 x8_1).f0) && (a1_1 == ((rd_T53 l0 x8_1).f1) && (a1_2 == ((rd_T53 l0 x8_1).f2)))) = false := by simpa using c7))
       (try (have c7b3 : ¬ (a1_0 = ((rd_T53 l0 x8_1).f0) && (a1_1 == ((rd_T53 l0 x8_1).f1) && (a1_2 == ((rd_T53 l0 x8_1).f2)))) := by simpa using c7))
       clear c7
       have H' := Aside0.mk H
       clear H
       have hcz9_0 : wr.cell? ⟨gb348, 0, none⟩ = some (.int .i64 a1_0) := (blk_cell BK348.out 0).trans rfl
       have hcz9_1 : wr.cell? ⟨gb348, 1, none⟩ = some (.int .i64 a1_1) := (blk_cell BK348.out 1).trans rfl
       have hcz9_2 : wr.cell? ⟨gb348, 2, none⟩ = some (.bool a1_2) := (blk_cell BK348.out 2).trans rfl
       have hfz9_0 := blk_frozen BK348.out 0
       have hfz9_1 := blk_frozen BK348.out 1
       have hfz9_2 := blk_frozen BK348.out 2
       have p349 : 0 ≤ (x8_1 : Int) := of_decide_eq_true (by first | (with_reducible assumption) )
       have q349 : x8_1 < (l0.length : Int) := of_decide_eq_true (by first | (with_reducible assumption) )
       obtain ⟨ad349, e349, hx349_0, hx349_1, hx349_2⟩ := at_T53 HR0.out x8_1 p349 q349
       cases e349
       replace hx349_0 := (HB.out.cell (World.block_lt_of_cell? w _ hx349_0)).trans hx349_0
       replace hx349_1 := (HB.out.cell (World.block_lt_of_cell? w _ hx349_1)).trans hx349_1
       replace hx349_2 := (HB.out.cell (World.block_lt_of_cell? w _ hx349_2)).trans hx349_2
       replace p349 := eq_true p349
       replace q349 := eq_true q349
       go_wp2
       repeat (go_quiet (fail); try go_wp2)
       go_roundg k1
       case measure => have := HK1.out; omega
       case rel => exact ⟨(wrap64 (x8_1 + 1)), (by first | rfl ), H', ⟨by have := HK1.out; omega⟩, ⟨by (with_reducible repeat (first | refine blk_drewN ?_ _ )); exact BK348.out⟩, ⟨by repeat (first | (with_reducible first | exact HB.out | apply pw_below_drewN ) )⟩⟩
     ·rw [if_neg c6] at H
      exact absurd H (by simp)
    ·rw [if_neg c5] at H
     exact absurd H (by simp)
   ·rw [if_neg c4] at H
    have c4b0 : decide (x8_1 < (l0.length : Int)) = false := decide_eq_false c4
    clear c4
    obtain rfl := Option.some.inj H
    go_wp2
    go_ret
    exact ⟨by first | rfl , by repeat (first | (with_reducible first | exact HB.out ) )⟩

/-! ### api_Member_27: function 27 -/
def api_Member_27.f (k : Nat) (l0 : List (S53)) (a1_0 : Int) (a1_1 : Int) (a1_2 : Bool) : Option (Bool) := (api_Member_51.f k l0 a1_0 a1_1 a1_2).bind fun t351 => (some (decide (t351 ≥ 0)))
theorem api_Member_27.mono : ∀ a0 a1 a2 a3 k, LeO (api_Member_27.f k a0 a1 a2 a3) (api_Member_27.f (k + 1) a0 a1 a2 a3) := by
 intro a0 a1 a2 a3 k
 unfold api_Member_27.f
 repeat' first
   | (with_reducible exact api_Member_51.mono _ _ _ _ _)
   | (with_reducible exact LeO.refl _)
   | (with_reducible refine LeO.bind ?_ (fun _ => ?_))

set_option maxHeartbeats 8000000 in
set_option maxRecDepth 100000 in
theorem api_Member_27.calls (k : Nat) (A0 : Option Addr) (c0 : Nat) (l0 : List (S53)) (a1_0 : Int) (a1_1 : Int) (a1_2 : Bool) (r : Bool) (w : World) (hr0 : Kd.C k53 w A0 l0.length l0) (hc0 : l0.length ≤ c0) (h : api_Member_27.f k l0 a1_0 a1_1 a1_2 = some r) :
  Calls Tryz.prog 27 #[.slice A0 l0.length c0, .agg #[.int .i64 a1_0, .int .i64 a1_1, .bool a1_2]] w fun e w' => e = .returned (.bool r) ∧ Below w.heap.size w w' := by
 have hu53 := Tryz.underlying53
 have HR0 := Aside0.mk hr0
 have HC0 := Aside0.mk hc0
 clear hr0 hc0
 have HB := Aside0.mk (Below.refl w.heap.size w)
 have H : ((api_Member_51.f k l0 a1_0 a1_1 a1_2).bind fun t351 => (some (decide (t351 ≥ 0)))) = some r := h
 clear h
 replace H := Option.bind_eq_some_iff.mp H
 obtain ⟨t351, A30, H⟩ := H
 replace H : (some (decide (t351 ≥ 0))) = some r := H
 have A3 := Aside0.mk A30
 clear A30
 obtain rfl := Option.some.inj H
 go_enter Tryz.func27, Tryz.ntmps27
 go_wp2_with (first | ((with_reducible refine gate_dst (N := 3) rfl ?_); refine box_event ?hg (N := 3) ?hd (cs := #[.int .i64 a1_0, .int .i64 a1_1, .bool a1_2]) (t := 53) ?hr ?_; (case hd => rfl); (case hg => rfl); (case hr => first | (go_simp; done) ); intro gb350 hg w4 hbox hb; have n0_ := Aside0.mk (below_step (by repeat (first | (with_reducible first | exact HB.out ) )) hb); have n1_ := Aside0.mk (hbox); have n2_ := Aside0.mk ((by rw [hg]; exact (below_size (by repeat (first | (with_reducible first | exact HB.out ) ))) : w.heap.size ≤ gb350)); have n3_ := Aside0.mk ((by rw [hg]; exact (below_size (by repeat (first | (with_reducible first | exact HB.out ) ))) : w.heap.size ≤ gb350)); clear HB; have HB := n0_; have BK350 := n1_; have GW350 := n2_; have GE350 := n3_; clear n0_ n1_ n2_ n3_; clear hb hbox hg; have hcz5_0 : w4.cell? ⟨gb350, 0, none⟩ = some (.int .i64 a1_0) := (blk_cell BK350.out 0).trans rfl; have hcz5_1 : w4.cell? ⟨gb350, 1, none⟩ = some (.int .i64 a1_1) := (blk_cell BK350.out 1).trans rfl; have hcz5_2 : w4.cell? ⟨gb350, 2, none⟩ = some (.bool a1_2) := (blk_cell BK350.out 2).trans rfl; have hfz5_0 := blk_frozen BK350.out 0; have hfz5_1 := blk_frozen BK350.out 1; have hfz5_2 := blk_frozen BK350.out 2) | ((with_reducible refine gate_callee (f := 51) rfl ?_); refine goesL_ (some 7) rfl rfl Tryz.func51 (by kernel_rfl) rfl #[.slice A0 l0.length c0, .agg #[.int .i64 a1_0, .int .i64 a1_1, .bool a1_2]] rfl (by (try simp only [List.map_toArray, List.map_cons, List.map_nil]); first | rfl ) ?_; (with_reducible refine (api_Member_51.calls k _ _ l0 a1_0 a1_1 a1_2 t351 _ ?side1 ?side2 A3.out).mono ?_); (case side1 => repeat (first | exact (Kd.C_below HR0.out HB.out) )); (case side2 => exact HC0.out); rintro e w6 ⟨rfl, hb⟩; refine ⟨_, rfl, ?_⟩; have n0_ := Aside0.mk (blk_below (g := gb350) (o := .cells #[.int .i64 a1_0, .int .i64 a1_1, .bool a1_2] 53 (0, 0)) (by (with_reducible repeat (fail)); exact BK350.out) hb); have n1_ := Aside0.mk (below_step (by repeat (first | (with_reducible first | exact HB.out ) )) hb); clear BK350; clear HB; have BK350 := n0_; have HB := n1_; clear n0_ n1_; (try clear hb); (try clear hb2); (try clear hk); (try clear hi)))
 go_ret
 exact ⟨by first | rfl , by repeat (first | (with_reducible first | exact HB.out ) )⟩

end Go.Proofs.YtpdalofhekmbeaaGreatDoor.PViewKeeps
