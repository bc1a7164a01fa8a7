-- Written by a program of this session over the kit's printer (with contracts of the session's own).
import Derived.Test.YtmcochnofkjhaaaDoorPAllx0
import Derived.Test.YtmcochnofkjhaaaDoorPAllx7
namespace Go.Proofs.YtmcochnofkjhaaaDoor.PAll
open Go.RowKit Go.Proofs.YtmcochnofkjhaaaDoorW.PrintWords Go.Proofs.YtmcochnofkjhaaaDoorW.PrintLast Go.Proofs.YtmcochnofkjhaaaDoorW.PrintMore
attribute [local go_sem] max2_int min2_int max_two min_two max_three min_three max_four min_four   -- for this text's walks alone
set_option linter.unusedVariables false
set_option linter.unusedSimpArgs false

/-! ### caduceusref02_First: function 68 -/
mutual
def caduceusref02_First.j0 : Nat → ByteArray → Int → Bool → Option (Int × Int)
 | 0, _, _, _ => none
 | k + 1, x0, x3, x25 => if x25 = true then (if 1 < (x0.size : Int) then (some (wrap64 ((wrap64 ((wrap64 (64 * (wrap64 (x3 - 192)))) + (wrap64 (bt x0 1)))) - 128), 2)) else (none)) else (if x3 ≥ 224 then (if x3 < 240 then ((caduceusref02_tail.f x0 1).bind fun t162 => (if t162 = true then ((caduceusref02_tail.f x0 2).bind fun t163 => (caduceusref02_First.j1 k x0 x3 t163)) else (caduceusref02_First.j1 k x0 x3 false))) else (caduceusref02_First.j1 k x0 x3 false)) else (caduceusref02_First.j1 k x0 x3 false))
def caduceusref02_First.j1 : Nat → ByteArray → Int → Bool → Option (Int × Int)
 | 0, _, _, _ => none
 | k + 1, x0, x3, x48 => if x48 = true then (if 1 < (x0.size : Int) then (if 2 < (x0.size : Int) then (if (wrap64 ((wrap64 ((wrap64 ((wrap64 (4096 * (wrap64 (x3 - 224)))) + (wrap64 (64 * (wrap64 ((wrap64 (bt x0 1)) - 128)))))) + (wrap64 (bt x0 2)))) - 128)) ≥ 2048 then (if (wrap64 ((wrap64 ((wrap64 ((wrap64 (4096 * (wrap64 (x3 - 224)))) + (wrap64 (64 * (wrap64 ((wrap64 (bt x0 1)) - 128)))))) + (wrap64 (bt x0 2)))) - 128)) < 55296 then (some (wrap64 ((wrap64 ((wrap64 ((wrap64 (4096 * (wrap64 (x3 - 224)))) + (wrap64 (64 * (wrap64 ((wrap64 (bt x0 1)) - 128)))))) + (wrap64 (bt x0 2)))) - 128), 3)) else (if (wrap64 ((wrap64 ((wrap64 ((wrap64 (4096 * (wrap64 (x3 - 224)))) + (wrap64 (64 * (wrap64 ((wrap64 (bt x0 1)) - 128)))))) + (wrap64 (bt x0 2)))) - 128)) > 57343 then (some (wrap64 ((wrap64 ((wrap64 ((wrap64 (4096 * (wrap64 (x3 - 224)))) + (wrap64 (64 * (wrap64 ((wrap64 (bt x0 1)) - 128)))))) + (wrap64 (bt x0 2)))) - 128), 3)) else (caduceusref02_First.j2 k x0 x3))) else (caduceusref02_First.j2 k x0 x3)) else (none)) else (none)) else (caduceusref02_First.j2 k x0 x3)
def caduceusref02_First.j2 : Nat → ByteArray → Int → Option (Int × Int)
 | 0, _, _ => none
 | k + 1, x0, x3 => if x3 ≥ 240 then (if x3 < 245 then ((caduceusref02_tail.f x0 1).bind fun t164 => (if t164 = true then ((caduceusref02_tail.f x0 2).bind fun t165 => (if t165 = true then ((caduceusref02_tail.f x0 3).bind fun t166 => (caduceusref02_First.j3 k x0 x3 t166)) else (caduceusref02_First.j3 k x0 x3 false))) else (caduceusref02_First.j3 k x0 x3 false))) else (caduceusref02_First.j3 k x0 x3 false)) else (caduceusref02_First.j3 k x0 x3 false)
def caduceusref02_First.j3 : Nat → ByteArray → Int → Bool → Option (Int × Int)
 | 0, _, _, _ => none
 | k + 1, x0, x3, x92 => if x92 = true then (if 1 < (x0.size : Int) then (if 2 < (x0.size : Int) then (if 3 < (x0.size : Int) then (if (wrap64 ((wrap64 ((wrap64 ((wrap64 ((wrap64 (262144 * (wrap64 (x3 - 240)))) + (wrap64 (4096 * (wrap64 ((wrap64 (bt x0 1)) - 128)))))) + (wrap64 (64 * (wrap64 ((wrap64 (bt x0 2)) - 128)))))) + (wrap64 (bt x0 3)))) - 128)) ≥ 65536 then (if (wrap64 ((wrap64 ((wrap64 ((wrap64 ((wrap64 (262144 * (wrap64 (x3 - 240)))) + (wrap64 (4096 * (wrap64 ((wrap64 (bt x0 1)) - 128)))))) + (wrap64 (64 * (wrap64 ((wrap64 (bt x0 2)) - 128)))))) + (wrap64 (bt x0 3)))) - 128)) ≤ 1114111 then (some (wrap64 ((wrap64 ((wrap64 ((wrap64 ((wrap64 (262144 * (wrap64 (x3 - 240)))) + (wrap64 (4096 * (wrap64 ((wrap64 (bt x0 1)) - 128)))))) + (wrap64 (64 * (wrap64 ((wrap64 (bt x0 2)) - 128)))))) + (wrap64 (bt x0 3)))) - 128), 4)) else (some (0, 0))) else (some (0, 0))) else (none)) else (none)) else (none)) else (some (0, 0))
end
def caduceusref02_First.f (k : Nat) (a0 : ByteArray) : Option (Int × Int) := if a0.toList = ([] : List UInt8) then (some (0, 0)) else (if 0 < (a0.size : Int) then (if (wrap64 (bt a0 0)) < 128 then (some (wrap64 (bt a0 0), 1)) else (if (wrap64 (bt a0 0)) ≥ 194 then (if (wrap64 (bt a0 0)) < 224 then ((caduceusref02_tail.f a0 1).bind fun t161 => (caduceusref02_First.j0 k a0 (wrap64 (bt a0 0)) t161)) else (caduceusref02_First.j0 k a0 (wrap64 (bt a0 0)) false)) else (caduceusref02_First.j0 k a0 (wrap64 (bt a0 0)) false))) else (none))
theorem caduceusref02_First.mono_l : ∀ k, (∀ y0 y1 y2, LeO (caduceusref02_First.j0 k y0 y1 y2) (caduceusref02_First.j0 (k + 1) y0 y1 y2)) ∧ (∀ y0 y1 y2, LeO (caduceusref02_First.j1 k y0 y1 y2) (caduceusref02_First.j1 (k + 1) y0 y1 y2)) ∧ (∀ y0 y1, LeO (caduceusref02_First.j2 k y0 y1) (caduceusref02_First.j2 (k + 1) y0 y1)) ∧ (∀ y0 y1 y2, LeO (caduceusref02_First.j3 k y0 y1 y2) (caduceusref02_First.j3 (k + 1) y0 y1 y2))
 | 0 => ⟨fun _ _ _ r h => by simp [caduceusref02_First.j0] at h, fun _ _ _ r h => by simp [caduceusref02_First.j1] at h, fun _ _ r h => by simp [caduceusref02_First.j2] at h, fun _ _ _ r h => by simp [caduceusref02_First.j3] at h⟩
 | k + 1 => by
  obtain ⟨ih0, ih1, ih2, ih3⟩ := caduceusref02_First.mono_l k
  refine ⟨?_, ?_, ?_, ?_⟩
  ·intro y0 y1 y2
   unfold caduceusref02_First.j0
   repeat' first
   | (with_reducible exact ih1 _ _ _)
   | (with_reducible exact LeO.refl _)
   | (with_reducible refine LeO.ite ?_ ?_)
   | (with_reducible refine LeO.bind ?_ (fun _ => ?_))

  ·intro y0 y1 y2
   unfold caduceusref02_First.j1
   repeat' first
   | (with_reducible exact ih2 _ _)
   | (with_reducible exact LeO.refl _)
   | (with_reducible refine LeO.ite ?_ ?_)

  ·intro y0 y1
   unfold caduceusref02_First.j2
   repeat' first
   | (with_reducible exact ih3 _ _ _)
   | (with_reducible exact LeO.refl _)
   | (with_reducible refine LeO.ite ?_ ?_)
   | (with_reducible refine LeO.bind ?_ (fun _ => ?_))

  ·intro y0 y1 y2
   unfold caduceusref02_First.j3
   repeat' first
   | (with_reducible exact LeO.refl _)

theorem caduceusref02_First.mono : ∀ a0 k, LeO (caduceusref02_First.f k a0) (caduceusref02_First.f (k + 1) a0) := by
 intro a0 k
 obtain ⟨ih0, ih1, ih2, ih3⟩ := caduceusref02_First.mono_l k
 unfold caduceusref02_First.f
 repeat' first
   | (with_reducible exact ih0 _ _ _)
   | (with_reducible exact LeO.refl _)
   | (with_reducible refine LeO.ite ?_ ?_)
   | (with_reducible refine LeO.bind ?_ (fun _ => ?_))

set_option maxHeartbeats 8000000 in
set_option maxRecDepth 100000 in
theorem caduceusref02_First.calls (k : Nat) (a0 : ByteArray) (r1 : Int) (r2 : Int) (w : World) (h : caduceusref02_First.f k a0 = some (r1, r2)) :
  Calls Tryd.prog 68 #[.string a0] w fun e w' => e = .returned (.agg #[.int .i64 r1, .int .i64 r2]) ∧ Below w.heap.size w w' := by
 have hu118 := Tryd.underlying118
 have HB := Aside0.mk (Below.refl w.heap.size w)
 have H : (if a0.toList = ([] : List UInt8) then (some (0, 0)) else (if 0 < (a0.size : Int) then (if (wrap64 (bt a0 0)) < 128 then (some (wrap64 (bt a0 0), 1)) else (if (wrap64 (bt a0 0)) ≥ 194 then (if (wrap64 (bt a0 0)) < 224 then ((caduceusref02_tail.f a0 1).bind fun t161 => (caduceusref02_First.j0 k a0 (wrap64 (bt a0 0)) t161)) else (caduceusref02_First.j0 k a0 (wrap64 (bt a0 0)) false)) else (caduceusref02_First.j0 k a0 (wrap64 (bt a0 0)) false))) else (none))) = some (r1, r2) := h
 clear h
 by_cases c2 : a0.toList = ([] : List UInt8)
 ·rw [if_pos c2] at H
  have c2b0 : (a0.toList == ([] : List UInt8)) = true := beq_iff_eq.mpr c2
  have c2b1 : (a0.toList != ([] : List UInt8)) = false := bne_eq_false_iff_eq.mpr c2
  clear c2
  simp only [Option.some.injEq, Prod.mk.injEq] at H
  obtain ⟨rfl, rfl⟩ := H
  go_enter Tryd.func68, Tryd.ntmps68
  go_wp2_with (first | ((with_reducible refine gate_dst (N := 2) rfl ?_); refine box_event ?hg (N := 2) ?hd (cs := #[.int .i64 0, .int .i64 0]) (t := 118) ?hr ?_; (case hd => rfl); (case hg => rfl); (case hr => first | (go_simp; done) ); intro gb160 hg w3 hbox hb; have n0_ := Aside0.mk (below_step (by repeat (first | (with_reducible first | exact HB.out ) )) hb); have n1_ := Aside0.mk (hbox); have n2_ := Aside0.mk ((by rw [hg]; exact (below_size (by repeat (first | (with_reducible first | exact HB.out ) ))) : w.heap.size ≤ gb160)); have n3_ := Aside0.mk ((by rw [hg]; exact (below_size (by repeat (first | (with_reducible first | exact HB.out ) ))) : w.heap.size ≤ gb160)); clear HB; have HB := n0_; have BK160 := n1_; have GW160 := n2_; have GE160 := n3_; clear n0_ n1_ n2_ n3_; clear hb hbox hg; have hcz4_0 : w3.cell? ⟨gb160, 0, none⟩ = some (.int .i64 0) := (blk_cell BK160.out 0).trans rfl; have hcz4_1 : w3.cell? ⟨gb160, 1, none⟩ = some (.int .i64 0) := (blk_cell BK160.out 1).trans rfl; have hfz4_0 := blk_frozen BK160.out 0; have hfz4_1 := blk_frozen BK160.out 1))
  refine bodyPost_ret (results_cell_row rfl _ _ gb160 118 #[.int .i64 0, .int .i64 0] (0, 0) _ rfl (by (with_reducible repeat (fail)); refine blk_put (cs := #[.int .i64 0, .int .i64 0]) ?_ 1 _ rfl; (with_reducible repeat (fail)); refine blk_put (cs := #[.int .i64 0, .int .i64 0]) ?_ 0 _ rfl; (with_reducible repeat (fail)); exact BK160.out) Tryd.underlying118 rfl (by kernel_rfl)) rfl ?_
  exact ⟨by first | rfl , by repeat (first | (with_reducible first | exact HB.out | refine below_set ?_ GE160.out) )⟩
 ·rw [if_neg c2] at H
  have c2b0 : (a0.toList == ([] : List UInt8)) = false := beq_eq_false_iff_ne.mpr c2
  have c2b1 : (a0.toList != ([] : List UInt8)) = true := bne_iff_ne.mpr c2
  by_cases c5 : 0 < (a0.size : Int)
  ·rw [if_pos c5] at H
   have c5b0 : decide (0 < (a0.size : Int)) = true := decide_eq_true c5
   have c5b1 : decide (0 < a0.size) = true := decide_eq_true (by omega)
   clear c5
   by_cases c7 : (wrap64 (bt a0 0)) < 128
   ·rw [if_pos c7] at H
    have c7b0 : decide ((wrap64 (bt a0 0)) < 128) = true := decide_eq_true c7
    clear c7
    simp only [Option.some.injEq, Prod.mk.injEq] at H
    obtain ⟨rfl, rfl⟩ := H
    go_enter Tryd.func68, Tryd.ntmps68
    go_wp2_with (first | ((with_reducible refine gate_dst (N := 2) rfl ?_); refine box_event ?hg (N := 2) ?hd (cs := #[.int .i64 0, .int .i64 0]) (t := 118) ?hr ?_; (case hd => rfl); (case hg => rfl); (case hr => first | (go_simp; done) ); intro gb160 hg w8 hbox hb; have n0_ := Aside0.mk (below_step (by repeat (first | (with_reducible first | exact HB.out ) )) hb); have n1_ := Aside0.mk (hbox); have n2_ := Aside0.mk ((by rw [hg]; exact (below_size (by repeat (first | (with_reducible first | exact HB.out ) ))) : w.heap.size ≤ gb160)); have n3_ := Aside0.mk ((by rw [hg]; exact (below_size (by repeat (first | (with_reducible first | exact HB.out ) ))) : w.heap.size ≤ gb160)); clear HB; have HB := n0_; have BK160 := n1_; have GW160 := n2_; have GE160 := n3_; clear n0_ n1_ n2_ n3_; clear hb hbox hg; have p6 : 0 ≤ (0 : Int) := (by omega); have q6 : 0 < a0.size := (by have : (0 : Int) < (a0.size : Int) := of_decide_eq_true (by first | (with_reducible assumption) ); omega); have hx6 : ∀ h : 0 < a0.size, ((a0[0]'h).toNat : Int) = bt a0 0 := bt_at a0 0; clear p6; have qi6 : (0 < (a0.size : Int)) = True := eq_true (of_decide_eq_true (by first | (with_reducible assumption) )); replace q6 := eq_true q6; have hcz9_0 : w8.cell? ⟨gb160, 0, none⟩ = some (.int .i64 0) := (blk_cell BK160.out 0).trans rfl; have hcz9_1 : w8.cell? ⟨gb160, 1, none⟩ = some (.int .i64 0) := (blk_cell BK160.out 1).trans rfl; have hfz9_0 := blk_frozen BK160.out 0; have hfz9_1 := blk_frozen BK160.out 1))
    refine bodyPost_ret (results_cell_row rfl _ _ gb160 118 #[.int .i64 (wrap64 (bt a0 0)), .int .i64 1] (0, 0) _ rfl (by (with_reducible repeat (fail)); refine blk_put (cs := #[.int .i64 (wrap64 (bt a0 0)), .int .i64 0]) ?_ 1 _ rfl; (with_reducible repeat (fail)); refine blk_put (cs := #[.int .i64 0, .int .i64 0]) ?_ 0 _ rfl; (with_reducible repeat (fail)); exact BK160.out) Tryd.underlying118 rfl (by kernel_rfl)) rfl ?_
    exact ⟨by first | rfl , by repeat (first | (with_reducible first | exact HB.out | refine below_set ?_ GE160.out) )⟩
   ·rw [if_neg c7] at H
    have c7b0 : decide ((wrap64 (bt a0 0)) < 128) = false := decide_eq_false c7
    clear c7
    have HC10 := Aside0.mk H
    clear H
    go_enter Tryd.func68, Tryd.ntmps68
    go_upto_region 6 with (first | ((with_reducible refine gate_dst (N := 2) rfl ?_); refine box_event ?hg (N := 2) ?hd (cs := #[.int .i64 0, .int .i64 0]) (t := 118) ?hr ?_; (case hd => rfl); (case hg => rfl); (case hr => first | (go_simp; done) ); intro gb160 hg w11 hbox hb; have n0_ := Aside0.mk (below_step (by repeat (first | (with_reducible first | exact HB.out ) )) hb); have n1_ := Aside0.mk (hbox); have n2_ := Aside0.mk ((by rw [hg]; exact (below_size (by repeat (first | (with_reducible first | exact HB.out ) ))) : w.heap.size ≤ gb160)); have n3_ := Aside0.mk ((by rw [hg]; exact (below_size (by repeat (first | (with_reducible first | exact HB.out ) ))) : w.heap.size ≤ gb160)); clear HB; have HB := n0_; have BK160 := n1_; have GW160 := n2_; have GE160 := n3_; clear n0_ n1_ n2_ n3_; clear hb hbox hg; have p6 : 0 ≤ (0 : Int) := (by omega); have q6 : 0 < a0.size := (by have : (0 : Int) < (a0.size : Int) := of_decide_eq_true (by first | (with_reducible assumption) ); omega); have hx6 : ∀ h : 0 < a0.size, ((a0[0]'h).toNat : Int) = bt a0 0 := bt_at a0 0; clear p6; have qi6 : (0 < (a0.size : Int)) = True := eq_true (of_decide_eq_true (by first | (with_reducible assumption) )); replace q6 := eq_true q6))
    (try simp only [Act.put, List.setIfInBounds_toArray, List.set_cons_zero, List.set_cons_succ])
    go_cut [25] (fun v25 wc => ∃ (kq : Nat) (x25_9 : Bool), v25 = .bool x25_9 ∧ Aside0 (caduceusref02_First.j0 kq a0 (wrap64 (bt a0 0)) x25_9 = some (r1, r2)) ∧ Aside0 (kq ≤ k) ∧ Aside0 (wc.heap[gb160]? = some (.cells #[.int .i64 0, .int .i64 0] 118 (0, 0))) ∧ Aside0 (Below w.heap.size w wc))
    case first =>
     have H := HC10.out
     clear HC10
     by_cases c12 : (wrap64 (bt a0 0)) ≥ 194
     ·rw [if_pos c12] at H
      have c12b0 : decide (194 ≤ (wrap64 (bt a0 0))) = true := decide_eq_true c12
      clear c12
      (first | skip)
      by_cases c13 : (wrap64 (bt a0 0)) < 224
      ·rw [if_pos c13] at H
       have c13b0 : decide ((wrap64 (bt a0 0)) < 224) = true := decide_eq_true c13
       clear c13
       replace H := Option.bind_eq_some_iff.mp H
       obtain ⟨t161, A140, H⟩ := H
       replace H : (caduceusref02_First.j0 k a0 (wrap64 (bt a0 0)) t161) = some (r1, r2) := H
       have A14 := Aside0.mk A140
       clear A140
       have H' := Aside0.mk H
       clear H
       go_wp2_with (first | (go_at_call 81; (with_reducible refine (caduceusref02_tail.calls a0 1 t161 _ A14.out).mono ?_); rintro e w' ⟨rfl, ⟨nd, rfl⟩⟩; (try fail)))
       go_meet
       case rel => exact ⟨_, (t161), (by first | rfl ), H', ⟨by first | omega ⟩, ⟨by (with_reducible repeat (first | refine blk_drewN ?_ _ )); exact BK160.out⟩, ⟨by repeat (first | (with_reducible first | exact HB.out | apply pw_below_drewN ) )⟩⟩
      ·rw [if_neg c13] at H
       have c13b0 : decide ((wrap64 (bt a0 0)) < 224) = false := decide_eq_false c13
       clear c13
       have H' := Aside0.mk H
       clear H
       go_wp2
       go_meet
       case rel => exact ⟨_, (false), (by first | rfl ), H', ⟨by first | omega ⟩, ⟨by (with_reducible repeat (fail)); exact BK160.out⟩, ⟨by repeat (first | (with_reducible first | exact HB.out ) )⟩⟩
     ·rw [if_neg c12] at H
      have c12b0 : decide (194 ≤ (wrap64 (bt a0 0))) = false := decide_eq_false c12
      clear c12
      (first | skip)
      have H' := Aside0.mk H
      clear H
      go_wp2
      go_meet
      case rel => exact ⟨_, (false), (by first | rfl ), H', ⟨by first | omega ⟩, ⟨by (with_reducible repeat (fail)); exact BK160.out⟩, ⟨by repeat (first | (with_reducible first | exact HB.out ) )⟩⟩
    case rest =>
     clear HC10
     try clear c1
     try clear c2
     try clear c2b0
     try clear c2b1
     try clear p2
     try clear c5
     try clear c5b0
     try clear c5b1
     try clear c6
     try clear p6
     try clear q6
     try clear hx6
     try clear qi6
     try clear c7
     try clear c7b0
     try clear c12
     try clear c12b0
     try clear c13
     try clear c13b0
     try clear hcz4_0
     try clear hcz4_1
     try clear hcz9_0
     try clear hcz9_1
     try clear hfz4_0
     try clear hfz4_1
     try clear hfz9_0
     try clear hfz9_1
     try clear p6
     try clear q6
     obtain ⟨kq, x25_9, rfl, HA, HJ9, BK160, HB⟩ := hcut
     cases kq with
     | zero => exact absurd HA.out (by simp [caduceusref02_First.j0])
     | succ kj9 =>
      have H := HA.out
      clear HA
      simp only [caduceusref02_First.j0] at H
      by_cases c15 : x25_9 = true
      ·subst c15
       have H1 : (if 1 < (a0.size : Int) then (some (wrap64 ((wrap64 ((wrap64 (64 * (wrap64 ((wrap64 (bt a0 0)) - 192)))) + (wrap64 (bt a0 1)))) - 128), 2)) else (none)) = some (r1, r2) := by rw [if_pos rfl] at H; exact H
       clear H
       have H := H1
       clear H1
       by_cases c16 : 1 < (a0.size : Int)
       ·rw [if_pos c16] at H
        have c16b0 : decide (1 < (a0.size : Int)) = true := decide_eq_true c16
        have c16b1 : decide (1 < a0.size) = true := decide_eq_true (by omega)
        clear c16
        simp only [Option.some.injEq, Prod.mk.injEq] at H
        obtain ⟨rfl, rfl⟩ := H
        have p17 : 0 ≤ (1 : Int) := (by omega)
        have q17 : 1 < a0.size := (by have : (1 : Int) < (a0.size : Int) := of_decide_eq_true (by first | (with_reducible assumption) ); omega)
        have hx17 : ∀ h : 1 < a0.size, ((a0[1]'h).toNat : Int) = bt a0 1 := bt_at a0 1
        clear p17
        have qi17 : (1 < (a0.size : Int)) = True := eq_true (of_decide_eq_true (by first | (with_reducible assumption) ))
        replace q17 := eq_true q17
        have hcz18_0 : wc.cell? ⟨gb160, 0, none⟩ = some (.int .i64 0) := (blk_cell BK160.out 0).trans rfl
        have hcz18_1 : wc.cell? ⟨gb160, 1, none⟩ = some (.int .i64 0) := (blk_cell BK160.out 1).trans rfl
        have hfz18_0 := blk_frozen BK160.out 0
        have hfz18_1 := blk_frozen BK160.out 1
        go_wp2
        refine bodyPost_ret (results_cell_row rfl _ _ gb160 118 #[.int .i64 (wrap64 ((wrap64 ((wrap64 (64 * (wrap64 ((wrap64 (bt a0 0)) - 192)))) + (wrap64 (bt a0 1)))) - 128)), .int .i64 2] (0, 0) _ rfl (by (with_reducible repeat (fail)); refine blk_put (cs := #[.int .i64 (wrap64 ((wrap64 ((wrap64 (64 * (wrap64 ((wrap64 (bt a0 0)) - 192)))) + (wrap64 (bt a0 1)))) - 128)), .int .i64 0]) ?_ 1 _ rfl; (with_reducible repeat (fail)); refine blk_put (cs := #[.int .i64 0, .int .i64 0]) ?_ 0 _ rfl; (with_reducible repeat (fail)); exact BK160.out) Tryd.underlying118 rfl (by kernel_rfl)) rfl ?_
        exact ⟨by first | rfl , by repeat (first | (with_reducible first | exact HB.out | refine below_set ?_ GE160.out) )⟩
       ·rw [if_neg c16] at H
        exact absurd H (by simp)
      ·replace c15 := Bool.eq_false_iff.mpr c15
       subst c15
       have H1 : (if (wrap64 (bt a0 0)) ≥ 224 then (if (wrap64 (bt a0 0)) < 240 then ((caduceusref02_tail.f a0 1).bind fun t162 => (if t162 = true then ((caduceusref02_tail.f a0 2).bind fun t163 => (caduceusref02_First.j1 kj9 a0 (wrap64 (bt a0 0)) t163)) else (caduceusref02_First.j1 kj9 a0 (wrap64 (bt a0 0)) false))) else (caduceusref02_First.j1 kj9 a0 (wrap64 (bt a0 0)) false)) else (caduceusref02_First.j1 kj9 a0 (wrap64 (bt a0 0)) false)) = some (r1, r2) := by rw [if_neg (show ¬ (false = true) by decide)] at H; exact H
       clear H
       have H := H1
       clear H1
       have HC19 := Aside0.mk H
       clear H
       go_upto_region 8 with (fail)
       go_cut [48] (fun v48 wc => ∃ (kq : Nat) (x48_18 : Bool), v48 = .bool x48_18 ∧ Aside0 (caduceusref02_First.j1 kq a0 (wrap64 (bt a0 0)) x48_18 = some (r1, r2)) ∧ Aside0 (kq ≤ kj9) ∧ Aside0 (wc.heap[gb160]? = some (.cells #[.int .i64 0, .int .i64 0] 118 (0, 0))) ∧ Aside0 (Below w.heap.size w wc))
       case first =>
        have H := HC19.out
        clear HC19
        by_cases c20 : (wrap64 (bt a0 0)) ≥ 224
        ·rw [if_pos c20] at H
         have c20b0 : decide (224 ≤ (wrap64 (bt a0 0))) = true := decide_eq_true c20
         clear c20
         (first | skip)
         by_cases c21 : (wrap64 (bt a0 0)) < 240
         ·rw [if_pos c21] at H
          have c21b0 : decide ((wrap64 (bt a0 0)) < 240) = true := decide_eq_true c21
          clear c21
          replace H := Option.bind_eq_some_iff.mp H
          obtain ⟨t162, A220, H⟩ := H
          replace H : (if t162 = true then ((caduceusref02_tail.f a0 2).bind fun t163 => (caduceusref02_First.j1 kj9 a0 (wrap64 (bt a0 0)) t163)) else (caduceusref02_First.j1 kj9 a0 (wrap64 (bt a0 0)) false)) = some (r1, r2) := H
          have A22 := Aside0.mk A220
          clear A220
          by_cases c23 : t162 = true
          ·subst c23
           have H1 : ((caduceusref02_tail.f a0 2).bind fun t163 => (caduceusref02_First.j1 kj9 a0 (wrap64 (bt a0 0)) t163)) = some (r1, r2) := by rw [if_pos rfl] at H; exact H
           clear H
           have H := H1
           clear H1
           replace H := Option.bind_eq_some_iff.mp H
           obtain ⟨t163, A240, H⟩ := H
           replace H : (caduceusref02_First.j1 kj9 a0 (wrap64 (bt a0 0)) t163) = some (r1, r2) := H
           have A24 := Aside0.mk A240
           clear A240
           have H' := Aside0.mk H
           clear H
           go_wp2_with (first | (go_at_call 81; (with_reducible refine (caduceusref02_tail.calls a0 1 true _ A22.out).mono ?_); rintro e w' ⟨rfl, ⟨nd, rfl⟩⟩; (try fail)) | (go_at_call 81; (with_reducible refine (caduceusref02_tail.calls a0 2 t163 _ A24.out).mono ?_); rintro e w' ⟨rfl, ⟨nd, rfl⟩⟩; (try fail)))
           go_meet
           case rel => exact ⟨_, (t163), (by first | rfl ), H', ⟨by have := HJ9.out; first | omega ⟩, ⟨by (with_reducible repeat (first | refine blk_drewN ?_ _ )); exact BK160.out⟩, ⟨by repeat (first | (with_reducible first | exact HB.out | apply pw_below_drewN ) )⟩⟩
          ·replace c23 := Bool.eq_false_iff.mpr c23
           subst c23
           have H1 : (caduceusref02_First.j1 kj9 a0 (wrap64 (bt a0 0)) false) = some (r1, r2) := by rw [if_neg (show ¬ (false = true) by decide)] at H; exact H
           clear H
           have H := H1
           clear H1
           have H' := Aside0.mk H
           clear H
           go_wp2_with (first | (go_at_call 81; (with_reducible refine (caduceusref02_tail.calls a0 1 false _ A22.out).mono ?_); rintro e w' ⟨rfl, ⟨nd, rfl⟩⟩; (try fail)))
           go_meet
           case rel => exact ⟨_, (false), (by first | rfl ), H', ⟨by have := HJ9.out; first | omega ⟩, ⟨by (with_reducible repeat (first | refine blk_drewN ?_ _ )); exact BK160.out⟩, ⟨by repeat (first | (with_reducible first | exact HB.out | apply pw_below_drewN ) )⟩⟩
         ·rw [if_neg c21] at H
          have c21b0 : decide ((wrap64 (bt a0 0)) < 240) = false := decide_eq_false c21
          clear c21
          have H' := Aside0.mk H
          clear H
          go_wp2
          go_meet
          case rel => exact ⟨_, (false), (by first | rfl ), H', ⟨by have := HJ9.out; first | omega ⟩, ⟨by (with_reducible repeat (fail)); exact BK160.out⟩, ⟨by repeat (first | (with_reducible first | exact HB.out ) )⟩⟩
        ·rw [if_neg c20] at H
         have c20b0 : decide (224 ≤ (wrap64 (bt a0 0))) = false := decide_eq_false c20
         clear c20
         (first | skip)
         have H' := Aside0.mk H
         clear H
         go_wp2
         go_meet
         case rel => exact ⟨_, (false), (by first | rfl ), H', ⟨by have := HJ9.out; first | omega ⟩, ⟨by (with_reducible repeat (fail)); exact BK160.out⟩, ⟨by repeat (first | (with_reducible first | exact HB.out ) )⟩⟩
       case rest =>
        clear HC19
        try clear c1
        try clear p1
        try clear q1
        try clear hx1
        try clear qi1
        try clear c2
        try clear c2b0
        try clear c2b1
        try clear p2
        try clear c5
        try clear c5b0
        try clear c5b1
        try clear c6
        try clear p6
        try clear q6
        try clear hx6
        try clear qi6
        try clear c7
        try clear c7b0
        try clear c12
        try clear c12b0
        try clear c13
        try clear c13b0
        try clear c15
        try clear c16
        try clear c16b0
        try clear c16b1
        try clear p17
        try clear q17
        try clear hx17
        try clear qi17
        try clear c20
        try clear c20b0
        try clear c21
        try clear c21b0
        try clear c23
        try clear hcz18_0
        try clear hcz18_1
        try clear hcz4_0
        try clear hcz4_1
        try clear hcz9_0
        try clear hcz9_1
        try clear hfz18_0
        try clear hfz18_1
        try clear hfz4_0
        try clear hfz4_1
        try clear hfz9_0
        try clear hfz9_1
        try clear p17
        try clear p2
        try clear p6
        try clear q17
        try clear q6
        obtain ⟨kq, x48_18, rfl, HA, HJ18, BK160, HB⟩ := hcut
        cases kq with
        | zero => exact absurd HA.out (by simp [caduceusref02_First.j1])
        | succ kj18 =>
         have H := HA.out
         clear HA
         simp only [caduceusref02_First.j1] at H
         have HC25 := Aside0.mk H
         clear H
         go_upto_if 48 with (fail)
         go_cut [] (fun wc => ∃ (kq : Nat) (x161000_24 : Int) (x161001_24 : Int), Aside0 (caduceusref02_First.j2 kq a0 (wrap64 (bt a0 0)) = some (r1, r2)) ∧ Aside0 (kq ≤ kj18) ∧ Aside0 (wc.heap[gb160]? = some (.cells #[.int .i64 x161000_24, .int .i64 x161001_24] 118 (0, 0))) ∧ Aside0 (Below w.heap.size w wc))
         case first =>
          have H := HC25.out
          clear HC25
          by_cases c26 : x48_18 = true
          ·subst c26
           have H1 : (if 1 < (a0.size : Int) then (if 2 < (a0.size : Int) then (if (wrap64 ((wrap64 ((wrap64 ((wrap64 (4096 * (wrap64 ((wrap64 (bt a0 0)) - 224)))) + (wrap64 (64 * (wrap64 ((wrap64 (bt a0 1)) - 128)))))) + (wrap64 (bt a0 2)))) - 128)) ≥ 2048 then (if (wrap64 ((wrap64 ((wrap64 ((wrap64 (4096 * (wrap64 ((wrap64 (bt a0 0)) - 224)))) + (wrap64 (64 * (wrap64 ((wrap64 (bt a0 1)) - 128)))))) + (wrap64 (bt a0 2)))) - 128)) < 55296 then (some (wrap64 ((wrap64 ((wrap64 ((wrap64 (4096 * (wrap64 ((wrap64 (bt a0 0)) - 224)))) + (wrap64 (64 * (wrap64 ((wrap64 (bt a0 1)) - 128)))))) + (wrap64 (bt a0 2)))) - 128), 3)) else (if (wrap64 ((wrap64 ((wrap64 ((wrap64 (4096 * (wrap64 ((wrap64 (bt a0 0)) - 224)))) + (wrap64 (64 * (wrap64 ((wrap64 (bt a0 1)) - 128)))))) + (wrap64 (bt a0 2)))) - 128)) > 57343 then (some (wrap64 ((wrap64 ((wrap64 ((wrap64 (4096 * (wrap64 ((wrap64 (bt a0 0)) - 224)))) + (wrap64 (64 * (wrap64 ((wrap64 (bt a0 1)) - 128)))))) + (wrap64 (bt a0 2)))) - 128), 3)) else (caduceusref02_First.j2 kj18 a0 (wrap64 (bt a0 0))))) else (caduceusref02_First.j2 kj18 a0 (wrap64 (bt a0 0)))) else (none)) else (none)) = some (r1, r2) := by rw [if_pos rfl] at H; exact H
           clear H
           have H := H1
           clear H1
           by_cases c27 : 1 < (a0.size : Int)
           ·rw [if_pos c27] at H
            have c27b0 : decide (1 < (a0.size : Int)) = true := decide_eq_true c27
            have c27b1 : decide (1 < a0.size) = true := decide_eq_true (by omega)
            clear c27
            (first | skip)
            by_cases c29 : 2 < (a0.size : Int)
            ·rw [if_pos c29] at H
             have c29b0 : decide (2 < (a0.size : Int)) = true := decide_eq_true c29
             have c29b1 : decide (2 < a0.size) = true := decide_eq_true (by omega)
             clear c29
             by_cases c31 : (wrap64 ((wrap64 ((wrap64 ((wrap64 (4096 * (wrap64 ((wrap64 (bt a0 0)) - 224)))) + (wrap64 (64 * (wrap64 ((wrap64 (bt a0 1)) - 128)))))) + (wrap64 (bt a0 2)))) - 128)) ≥ 2048
             ·rw [if_pos c31] at H
              have c31b0 : decide (2048 ≤ (wrap64 ((wrap64 ((wrap64 ((wrap64 (4096 * (wrap64 ((wrap64 (bt a0 0)) - 224)))) + (wrap64 (64 * (wrap64 ((wrap64 (bt a0 1)) - 128)))))) + (wrap64 (bt a0 2)))) - 128))) = true := decide_eq_true c31
              clear c31
              by_cases c32 : (wrap64 ((wrap64 ((wrap64 ((wrap64 (4096 * (wrap64 ((wrap64 (bt a0 0)) - 224)))) + (wrap64 (64 * (wrap64 ((wrap64 (bt a0 1)) - 128)))))) + (wrap64 (bt a0 2)))) - 128)) < 55296
              ·rw [if_pos c32] at H
               have c32b0 : decide ((wrap64 ((wrap64 ((wrap64 ((wrap64 (4096 * (wrap64 ((wrap64 (bt a0 0)) - 224)))) + (wrap64 (64 * (wrap64 ((wrap64 (bt a0 1)) - 128)))))) + (wrap64 (bt a0 2)))) - 128)) < 55296) = true := decide_eq_true c32
               clear c32
               simp only [Option.some.injEq, Prod.mk.injEq] at H
               obtain ⟨rfl, rfl⟩ := H
               have p28 : 0 ≤ (1 : Int) := (by omega)
               have q28 : 1 < a0.size := (by have : (1 : Int) < (a0.size : Int) := of_decide_eq_true (by first | (with_reducible assumption) ); omega)
               have hx28 : ∀ h : 1 < a0.size, ((a0[1]'h).toNat : Int) = bt a0 1 := bt_at a0 1
               clear p28
               have qi28 : (1 < (a0.size : Int)) = True := eq_true (of_decide_eq_true (by first | (with_reducible assumption) ))
               replace q28 := eq_true q28
               have p30 : 0 ≤ (2 : Int) := (by omega)
               have q30 : 2 < a0.size := (by have : (2 : Int) < (a0.size : Int) := of_decide_eq_true (by first | (with_reducible assumption) ); omega)
               have hx30 : ∀ h : 2 < a0.size, ((a0[2]'h).toNat : Int) = bt a0 2 := bt_at a0 2
               clear p30
               have qi30 : (2 < (a0.size : Int)) = True := eq_true (of_decide_eq_true (by first | (with_reducible assumption) ))
               replace q30 := eq_true q30
               have hcz33_0 : wc.cell? ⟨gb160, 0, none⟩ = some (.int .i64 0) := (blk_cell BK160.out 0).trans rfl
               have hcz33_1 : wc.cell? ⟨gb160, 1, none⟩ = some (.int .i64 0) := (blk_cell BK160.out 1).trans rfl
               have hfz33_0 := blk_frozen BK160.out 0
               have hfz33_1 := blk_frozen BK160.out 1
               go_wp2
               repeat (go_quiet (fail); try go_wp2)
               refine bodyPost_ret (results_cell_row rfl _ _ gb160 118 #[.int .i64 (wrap64 ((wrap64 ((wrap64 ((wrap64 (4096 * (wrap64 ((wrap64 (bt a0 0)) - 224)))) + (wrap64 (64 * (wrap64 ((wrap64 (bt a0 1)) - 128)))))) + (wrap64 (bt a0 2)))) - 128)), .int .i64 3] (0, 0) _ rfl (by (with_reducible repeat (fail)); refine blk_put (cs := #[.int .i64 (wrap64 ((wrap64 ((wrap64 ((wrap64 (4096 * (wrap64 ((wrap64 (bt a0 0)) - 224)))) + (wrap64 (64 * (wrap64 ((wrap64 (bt a0 1)) - 128)))))) + (wrap64 (bt a0 2)))) - 128)), .int .i64 0]) ?_ 1 _ rfl; (with_reducible repeat (fail)); refine blk_put (cs := #[.int .i64 0, .int .i64 0]) ?_ 0 _ rfl; (with_reducible repeat (first | refine blk_drewN ?_ _ )); exact BK160.out) Tryd.underlying118 rfl (by kernel_rfl)) rfl ?_
               exact ⟨by first | rfl , by repeat (first | (with_reducible first | exact HB.out | apply pw_below_drewN | refine below_set ?_ GE160.out) )⟩
              ·rw [if_neg c32] at H
               have c32b0 : decide ((wrap64 ((wrap64 ((wrap64 ((wrap64 (4096 * (wrap64 ((wrap64 (bt a0 0)) - 224)))) + (wrap64 (64 * (wrap64 ((wrap64 (bt a0 1)) - 128)))))) + (wrap64 (bt a0 2)))) - 128)) < 55296) = false := decide_eq_false c32
               clear c32
               by_cases c34 : (wrap64 ((wrap64 ((wrap64 ((wrap64 (4096 * (wrap64 ((wrap64 (bt a0 0)) - 224)))) + (wrap64 (64 * (wrap64 ((wrap64 (bt a0 1)) - 128)))))) + (wrap64 (bt a0 2)))) - 128)) > 57343
               ·rw [if_pos c34] at H
                have c34b0 : decide (57343 < (wrap64 ((wrap64 ((wrap64 ((wrap64 (4096 * (wrap64 ((wrap64 (bt a0 0)) - 224)))) + (wrap64 (64 * (wrap64 ((wrap64 (bt a0 1)) - 128)))))) + (wrap64 (bt a0 2)))) - 128))) = true := decide_eq_true c34
                clear c34
                simp only [Option.some.injEq, Prod.mk.injEq] at H
                obtain ⟨rfl, rfl⟩ := H
                have p28 : 0 ≤ (1 : Int) := (by omega)
                have q28 : 1 < a0.size := (by have : (1 : Int) < (a0.size : Int) := of_decide_eq_true (by first | (with_reducible assumption) ); omega)
                have hx28 : ∀ h : 1 < a0.size, ((a0[1]'h).toNat : Int) = bt a0 1 := bt_at a0 1
                clear p28
                have qi28 : (1 < (a0.size : Int)) = True := eq_true (of_decide_eq_true (by first | (with_reducible assumption) ))
                replace q28 := eq_true q28
                have p30 : 0 ≤ (2 : Int) := (by omega)
                have q30 : 2 < a0.size := (by have : (2 : Int) < (a0.size : Int) := of_decide_eq_true (by first | (with_reducible assumption) ); omega)
                have hx30 : ∀ h : 2 < a0.size, ((a0[2]'h).toNat : Int) = bt a0 2 := bt_at a0 2
                clear p30
                have qi30 : (2 < (a0.size : Int)) = True := eq_true (of_decide_eq_true (by first | (with_reducible assumption) ))
                replace q30 := eq_true q30
                have hcz35_0 : wc.cell? ⟨gb160, 0, none⟩ = some (.int .i64 0) := (blk_cell BK160.out 0).trans rfl
                have hcz35_1 : wc.cell? ⟨gb160, 1, none⟩ = some (.int .i64 0) := (blk_cell BK160.out 1).trans rfl
                have hfz35_0 := blk_frozen BK160.out 0
                have hfz35_1 := blk_frozen BK160.out 1
                go_wp2
                repeat (go_quiet (fail); try go_wp2)
                refine bodyPost_ret (results_cell_row rfl _ _ gb160 118 #[.int .i64 (wrap64 ((wrap64 ((wrap64 ((wrap64 (4096 * (wrap64 ((wrap64 (bt a0 0)) - 224)))) + (wrap64 (64 * (wrap64 ((wrap64 (bt a0 1)) - 128)))))) + (wrap64 (bt a0 2)))) - 128)), .int .i64 3] (0, 0) _ rfl (by (with_reducible repeat (fail)); refine blk_put (cs := #[.int .i64 (wrap64 ((wrap64 ((wrap64 ((wrap64 (4096 * (wrap64 ((wrap64 (bt a0 0)) - 224)))) + (wrap64 (64 * (wrap64 ((wrap64 (bt a0 1)) - 128)))))) + (wrap64 (bt a0 2)))) - 128)), .int .i64 0]) ?_ 1 _ rfl; (with_reducible repeat (fail)); refine blk_put (cs := #[.int .i64 0, .int .i64 0]) ?_ 0 _ rfl; (with_reducible repeat (first | refine blk_drewN ?_ _ )); exact BK160.out) Tryd.underlying118 rfl (by kernel_rfl)) rfl ?_
                exact ⟨by first | rfl , by repeat (first | (with_reducible first | exact HB.out | apply pw_below_drewN | refine below_set ?_ GE160.out) )⟩
               ·rw [if_neg c34] at H
                have c34b0 : decide (57343 < (wrap64 ((wrap64 ((wrap64 ((wrap64 (4096 * (wrap64 ((wrap64 (bt a0 0)) - 224)))) + (wrap64 (64 * (wrap64 ((wrap64 (bt a0 1)) - 128)))))) + (wrap64 (bt a0 2)))) - 128))) = false := decide_eq_false c34
                clear c34
                have H' := Aside0.mk H
                clear H
                have p28 : 0 ≤ (1 : Int) := (by omega)
                have q28 : 1 < a0.size := (by have : (1 : Int) < (a0.size : Int) := of_decide_eq_true (by first | (with_reducible assumption) ); omega)
                have hx28 : ∀ h : 1 < a0.size, ((a0[1]'h).toNat : Int) = bt a0 1 := bt_at a0 1
                clear p28
                have qi28 : (1 < (a0.size : Int)) = True := eq_true (of_decide_eq_true (by first | (with_reducible assumption) ))
                replace q28 := eq_true q28
                have p30 : 0 ≤ (2 : Int) := (by omega)
                have q30 : 2 < a0.size := (by have : (2 : Int) < (a0.size : Int) := of_decide_eq_true (by first | (with_reducible assumption) ); omega)
                have hx30 : ∀ h : 2 < a0.size, ((a0[2]'h).toNat : Int) = bt a0 2 := bt_at a0 2
                clear p30
                have qi30 : (2 < (a0.size : Int)) = True := eq_true (of_decide_eq_true (by first | (with_reducible assumption) ))
                replace q30 := eq_true q30
                go_wp2
                repeat (go_quiet (fail); try go_wp2)
                go_meet
                case rel => exact ⟨_, (0), (0), H', ⟨by have := HJ9.out; have := HJ18.out; first | omega ⟩, ⟨by (with_reducible repeat (first | refine blk_drewN ?_ _ )); exact BK160.out⟩, ⟨by repeat (first | (with_reducible first | exact HB.out | apply pw_below_drewN ) )⟩⟩
             ·rw [if_neg c31] at H
              have c31b0 : decide (2048 ≤ (wrap64 ((wrap64 ((wrap64 ((wrap64 (4096 * (wrap64 ((wrap64 (bt a0 0)) - 224)))) + (wrap64 (64 * (wrap64 ((wrap64 (bt a0 1)) - 128)))))) + (wrap64 (bt a0 2)))) - 128))) = false := decide_eq_false c31
              clear c31
              have H' := Aside0.mk H
              clear H
              have p28 : 0 ≤ (1 : Int) := (by omega)
              have q28 : 1 < a0.size := (by have : (1 : Int) < (a0.size : Int) := of_decide_eq_true (by first | (with_reducible assumption) ); omega)
              have hx28 : ∀ h : 1 < a0.size, ((a0[1]'h).toNat : Int) = bt a0 1 := bt_at a0 1
              clear p28
              have qi28 : (1 < (a0.size : Int)) = True := eq_true (of_decide_eq_true (by first | (with_reducible assumption) ))
              replace q28 := eq_true q28
              have p30 : 0 ≤ (2 : Int) := (by omega)
              have q30 : 2 < a0.size := (by have : (2 : Int) < (a0.size : Int) := of_decide_eq_true (by first | (with_reducible assumption) ); omega)
              have hx30 : ∀ h : 2 < a0.size, ((a0[2]'h).toNat : Int) = bt a0 2 := bt_at a0 2
              clear p30
              have qi30 : (2 < (a0.size : Int)) = True := eq_true (of_decide_eq_true (by first | (with_reducible assumption) ))
              replace q30 := eq_true q30
              go_wp2
              repeat (go_quiet (fail); try go_wp2)
              go_meet
              case rel => exact ⟨_, (0), (0), H', ⟨by have := HJ9.out; have := HJ18.out; first | omega ⟩, ⟨by (with_reducible repeat (first | refine blk_drewN ?_ _ )); exact BK160.out⟩, ⟨by repeat (first | (with_reducible first | exact HB.out | apply pw_below_drewN ) )⟩⟩
            ·rw [if_neg c29] at H
             exact absurd H (by simp)
           ·rw [if_neg c27] at H
            exact absurd H (by simp)
          ·replace c26 := Bool.eq_false_iff.mpr c26
           subst c26
           have H1 : (caduceusref02_First.j2 kj18 a0 (wrap64 (bt a0 0))) = some (r1, r2) := by rw [if_neg (show ¬ (false = true) by decide)] at H; exact H
           clear H
           have H := H1
           clear H1
           have H' := Aside0.mk H
           clear H
           go_wp2
           go_meet
           case rel => exact ⟨_, (0), (0), H', ⟨by have := HJ9.out; have := HJ18.out; first | omega ⟩, ⟨by (with_reducible repeat (fail)); exact BK160.out⟩, ⟨by repeat (first | (with_reducible first | exact HB.out ) )⟩⟩
         case rest =>
          clear HC25
          try clear c1
          try clear p1
          try clear q1
          try clear hx1
          try clear qi1
          try clear c2
          try clear c2b0
          try clear c2b1
          try clear p2
          try clear q2
          try clear hx2
          try clear qi2
          try clear c3
          try clear p3
          try clear q3
          try clear hx3
          try clear qi3
          try clear c5
          try clear c5b0
          try clear c5b1
          try clear c6
          try clear p6
          try clear q6
          try clear hx6
          try clear qi6
          try clear c7
          try clear c7b0
          try clear c12
          try clear c12b0
          try clear c13
          try clear c13b0
          try clear c15
          try clear c16
          try clear c16b0
          try clear c16b1
          try clear p17
          try clear q17
          try clear hx17
          try clear qi17
          try clear c20
          try clear c20b0
          try clear c21
          try clear c21b0
          try clear c23
          try clear c26
          try clear c27
          try clear c27b0
          try clear c27b1
          try clear p28
          try clear q28
          try clear hx28
          try clear qi28
          try clear c29
          try clear c29b0
          try clear c29b1
          try clear p30
          try clear q30
          try clear hx30
          try clear qi30
          try clear c31
          try clear c31b0
          try clear c32
          try clear c32b0
          try clear c34
          try clear c34b0
          try clear hcz18_0
          try clear hcz18_1
          try clear hcz33_0
          try clear hcz33_1
          try clear hcz35_0
          try clear hcz35_1
          try clear hcz4_0
          try clear hcz4_1
          try clear hcz9_0
          try clear hcz9_1
          try clear hfz18_0
          try clear hfz18_1
          try clear hfz33_0
          try clear hfz33_1
          try clear hfz35_0
          try clear hfz35_1
          try clear hfz4_0
          try clear hfz4_1
          try clear hfz9_0
          try clear hfz9_1
          try clear p1
          try clear p17
          try clear p2
          try clear p28
          try clear p30
          try clear p6
          try clear q1
          try clear q17
          try clear q28
          try clear q30
          try clear q6
          obtain ⟨kq, x161000_24, x161001_24, HA, HJ24, BK160, HB⟩ := hcut
          cases kq with
          | zero => exact absurd HA.out (by simp [caduceusref02_First.j2])
          | succ kj24 =>
           have H := HA.out
           clear HA
           simp only [caduceusref02_First.j2] at H
           have HC36 := Aside0.mk H
           clear H
           go_upto_region 12 with (fail)
           go_cut [92] (fun v92 wc => ∃ (kq : Nat) (x92_35 : Bool), v92 = .bool x92_35 ∧ Aside0 (caduceusref02_First.j3 kq a0 (wrap64 (bt a0 0)) x92_35 = some (r1, r2)) ∧ Aside0 (kq ≤ kj24) ∧ Aside0 (wc.heap[gb160]? = some (.cells #[.int .i64 x161000_24, .int .i64 x161001_24] 118 (0, 0))) ∧ Aside0 (Below w.heap.size w wc))
           case first =>
            have H := HC36.out
            clear HC36
            by_cases c37 : (wrap64 (bt a0 0)) ≥ 240
            ·rw [if_pos c37] at H
             have c37b0 : decide (240 ≤ (wrap64 (bt a0 0))) = true := decide_eq_true c37
             clear c37
             (first | skip)
             by_cases c38 : (wrap64 (bt a0 0)) < 245
             ·rw [if_pos c38] at H
              have c38b0 : decide ((wrap64 (bt a0 0)) < 245) = true := decide_eq_true c38
              clear c38
              replace H := Option.bind_eq_some_iff.mp H
              obtain ⟨t164, A390, H⟩ := H
              replace H : (if t164 = true then ((caduceusref02_tail.f a0 2).bind fun t165 => (if t165 = true then ((caduceusref02_tail.f a0 3).bind fun t166 => (caduceusref02_First.j3 kj24 a0 (wrap64 (bt a0 0)) t166)) else (caduceusref02_First.j3 kj24 a0 (wrap64 (bt a0 0)) false))) else (caduceusref02_First.j3 kj24 a0 (wrap64 (bt a0 0)) false)) = some (r1, r2) := H
              have A39 := Aside0.mk A390
              clear A390
              by_cases c40 : t164 = true
              ·subst c40
               have H1 : ((caduceusref02_tail.f a0 2).bind fun t165 => (if t165 = true then ((caduceusref02_tail.f a0 3).bind fun t166 => (caduceusref02_First.j3 kj24 a0 (wrap64 (bt a0 0)) t166)) else (caduceusref02_First.j3 kj24 a0 (wrap64 (bt a0 0)) false))) = some (r1, r2) := by rw [if_pos rfl] at H; exact H
               clear H
               have H := H1
               clear H1
               replace H := Option.bind_eq_some_iff.mp H
               obtain ⟨t165, A410, H⟩ := H
               replace H : (if t165 = true then ((caduceusref02_tail.f a0 3).bind fun t166 => (caduceusref02_First.j3 kj24 a0 (wrap64 (bt a0 0)) t166)) else (caduceusref02_First.j3 kj24 a0 (wrap64 (bt a0 0)) false)) = some (r1, r2) := H
               have A41 := Aside0.mk A410
               clear A410
               by_cases c42 : t165 = true
               ·subst c42
                have H1 : ((caduceusref02_tail.f a0 3).bind fun t166 => (caduceusref02_First.j3 kj24 a0 (wrap64 (bt a0 0)) t166)) = some (r1, r2) := by rw [if_pos rfl] at H; exact H
                clear H
                have H := H1
                clear H1
                replace H := Option.bind_eq_some_iff.mp H
                obtain ⟨t166, A430, H⟩ := H
                replace H : (caduceusref02_First.j3 kj24 a0 (wrap64 (bt a0 0)) t166) = some (r1, r2) := H
                have A43 := Aside0.mk A430
                clear A430
                have H' := Aside0.mk H
                clear H
                go_wp2_with (first | (go_at_call 81; (with_reducible refine (caduceusref02_tail.calls a0 1 true _ A39.out).mono ?_); rintro e w' ⟨rfl, ⟨nd, rfl⟩⟩; (try fail)) | (go_at_call 81; (with_reducible refine (caduceusref02_tail.calls a0 2 true _ A41.out).mono ?_); rintro e w' ⟨rfl, ⟨nd, rfl⟩⟩; (try fail)) | (go_at_call 81; (with_reducible refine (caduceusref02_tail.calls a0 3 t166 _ A43.out).mono ?_); rintro e w' ⟨rfl, ⟨nd, rfl⟩⟩; (try fail)))
                go_meet
                case rel => exact ⟨_, (t166), (by first | rfl ), H', ⟨by have := HJ9.out; have := HJ18.out; have := HJ24.out; first | omega ⟩, ⟨by (with_reducible repeat (first | refine blk_drewN ?_ _ )); exact BK160.out⟩, ⟨by repeat (first | (with_reducible first | exact HB.out | apply pw_below_drewN ) )⟩⟩
               ·replace c42 := Bool.eq_false_iff.mpr c42
                subst c42
                have H1 : (caduceusref02_First.j3 kj24 a0 (wrap64 (bt a0 0)) false) = some (r1, r2) := by rw [if_neg (show ¬ (false = true) by decide)] at H; exact H
                clear H
                have H := H1
                clear H1
                have H' := Aside0.mk H
                clear H
                go_wp2_with (first | (go_at_call 81; (with_reducible refine (caduceusref02_tail.calls a0 1 true _ A39.out).mono ?_); rintro e w' ⟨rfl, ⟨nd, rfl⟩⟩; (try fail)) | (go_at_call 81; (with_reducible refine (caduceusref02_tail.calls a0 2 false _ A41.out).mono ?_); rintro e w' ⟨rfl, ⟨nd, rfl⟩⟩; (try fail)))
                go_meet
                case rel => exact ⟨_, (false), (by first | rfl ), H', ⟨by have := HJ9.out; have := HJ18.out; have := HJ24.out; first | omega ⟩, ⟨by (with_reducible repeat (first | refine blk_drewN ?_ _ )); exact BK160.out⟩, ⟨by repeat (first | (with_reducible first | exact HB.out | apply pw_below_drewN ) )⟩⟩
              ·replace c40 := Bool.eq_false_iff.mpr c40
               subst c40
               have H1 : (caduceusref02_First.j3 kj24 a0 (wrap64 (bt a0 0)) false) = some (r1, r2) := by rw [if_neg (show ¬ (false = true) by decide)] at H; exact H
               clear H
               have H := H1
               clear H1
               have H' := Aside0.mk H
               clear H
               go_wp2_with (first | (go_at_call 81; (with_reducible refine (caduceusref02_tail.calls a0 1 false _ A39.out).mono ?_); rintro e w' ⟨rfl, ⟨nd, rfl⟩⟩; (try fail)))
               go_meet
               case rel => exact ⟨_, (false), (by first | rfl ), H', ⟨by have := HJ9.out; have := HJ18.out; have := HJ24.out; first | omega ⟩, ⟨by (with_reducible repeat (first | refine blk_drewN ?_ _ )); exact BK160.out⟩, ⟨by repeat (first | (with_reducible first | exact HB.out | apply pw_below_drewN ) )⟩⟩
             ·rw [if_neg c38] at H
              have c38b0 : decide ((wrap64 (bt a0 0)) < 245) = false := decide_eq_false c38
              clear c38
              have H' := Aside0.mk H
              clear H
              go_wp2
              go_meet
              case rel => exact ⟨_, (false), (by first | rfl ), H', ⟨by have := HJ9.out; have := HJ18.out; have := HJ24.out; first | omega ⟩, ⟨by (with_reducible repeat (fail)); exact BK160.out⟩, ⟨by repeat (first | (with_reducible first | exact HB.out ) )⟩⟩
            ·rw [if_neg c37] at H
             have c37b0 : decide (240 ≤ (wrap64 (bt a0 0))) = false := decide_eq_false c37
             clear c37
             (first | skip)
             have H' := Aside0.mk H
             clear H
             go_wp2
             go_meet
             case rel => exact ⟨_, (false), (by first | rfl ), H', ⟨by have := HJ9.out; have := HJ18.out; have := HJ24.out; first | omega ⟩, ⟨by (with_reducible repeat (fail)); exact BK160.out⟩, ⟨by repeat (first | (with_reducible first | exact HB.out ) )⟩⟩
           case rest =>
            clear HC36
            try clear c1
            try clear p1
            try clear q1
            try clear hx1
            try clear qi1
            try clear c2
            try clear c2b0
            try clear c2b1
            try clear p2
            try clear q2
            try clear hx2
            try clear qi2
            try clear c3
            try clear p3
            try clear q3
            try clear hx3
            try clear qi3
            try clear c4
            try clear c5
            try clear c5b0
            try clear c5b1
            try clear c6
            try clear p6
            try clear q6
            try clear hx6
            try clear qi6
            try clear c7
            try clear c7b0
            try clear c12
            try clear c12b0
            try clear c13
            try clear c13b0
            try clear c15
            try clear c16
            try clear c16b0
            try clear c16b1
            try clear p17
            try clear q17
            try clear hx17
            try clear qi17
            try clear c20
            try clear c20b0
            try clear c21
            try clear c21b0
            try clear c23
            try clear c26
            try clear c27
            try clear c27b0
            try clear c27b1
            try clear p28
            try clear q28
            try clear hx28
            try clear qi28
            try clear c29
            try clear c29b0
            try clear c29b1
            try clear p30
            try clear q30
            try clear hx30
            try clear qi30
            try clear c31
            try clear c31b0
            try clear c32
            try clear c32b0
            try clear c34
            try clear c34b0
            try clear c37
            try clear c37b0
            try clear c38
            try clear c38b0
            try clear c40
            try clear c42
            try clear hcz18_0
            try clear hcz18_1
            try clear hcz33_0
            try clear hcz33_1
            try clear hcz35_0
            try clear hcz35_1
            try clear hcz4_0
            try clear hcz4_1
            try clear hcz9_0
            try clear hcz9_1
            try clear hfz18_0
            try clear hfz18_1
            try clear hfz33_0
            try clear hfz33_1
            try clear hfz35_0
            try clear hfz35_1
            try clear hfz4_0
            try clear hfz4_1
            try clear hfz9_0
            try clear hfz9_1
            try clear p1
            try clear p17
            try clear p2
            try clear p28
            try clear p3
            try clear p30
            try clear p6
            try clear q1
            try clear q17
            try clear q2
            try clear q28
            try clear q3
            try clear q30
            try clear q6
            obtain ⟨kq, x92_35, rfl, HA, HJ35, BK160, HB⟩ := hcut
            cases kq with
            | zero => exact absurd HA.out (by simp [caduceusref02_First.j3])
            | succ kj35 =>
             have H := HA.out
             clear HA
             simp only [caduceusref02_First.j3] at H
             by_cases c44 : x92_35 = true
             ·subst c44
              have H1 : (if 1 < (a0.size : Int) then (if 2 < (a0.size : Int) then (if 3 < (a0.size : Int) then (if (wrap64 ((wrap64 ((wrap64 ((wrap64 ((wrap64 (262144 * (wrap64 ((wrap64 (bt a0 0)) - 240)))) + (wrap64 (4096 * (wrap64 ((wrap64 (bt a0 1)) - 128)))))) + (wrap64 (64 * (wrap64 ((wrap64 (bt a0 2)) - 128)))))) + (wrap64 (bt a0 3)))) - 128)) ≥ 65536 then (if (wrap64 ((wrap64 ((wrap64 ((wrap64 ((wrap64 (262144 * (wrap64 ((wrap64 (bt a0 0)) - 240)))) + (wrap64 (4096 * (wrap64 ((wrap64 (bt a0 1)) - 128)))))) + (wrap64 (64 * (wrap64 ((wrap64 (bt a0 2)) - 128)))))) + (wrap64 (bt a0 3)))) - 128)) ≤ 1114111 then (some (wrap64 ((wrap64 ((wrap64 ((wrap64 ((wrap64 (262144 * (wrap64 ((wrap64 (bt a0 0)) - 240)))) + (wrap64 (4096 * (wrap64 ((wrap64 (bt a0 1)) - 128)))))) + (wrap64 (64 * (wrap64 ((wrap64 (bt a0 2)) - 128)))))) + (wrap64 (bt a0 3)))) - 128), 4)) else (some (0, 0))) else (some (0, 0))) else (none)) else (none)) else (none)) = some (r1, r2) := by rw [if_pos rfl] at H; exact H
              clear H
              have H := H1
              clear H1
              by_cases c45 : 1 < (a0.size : Int)
              ·rw [if_pos c45] at H
               have c45b0 : decide (1 < (a0.size : Int)) = true := decide_eq_true c45
               have c45b1 : decide (1 < a0.size) = true := decide_eq_true (by omega)
               clear c45
               by_cases c47 : 2 < (a0.size : Int)
               ·rw [if_pos c47] at H
                have c47b0 : decide (2 < (a0.size : Int)) = true := decide_eq_true c47
                have c47b1 : decide (2 < a0.size) = true := decide_eq_true (by omega)
                clear c47
                by_cases c49 : 3 < (a0.size : Int)
                ·rw [if_pos c49] at H
                 have c49b0 : decide (3 < (a0.size : Int)) = true := decide_eq_true c49
                 have c49b1 : decide (3 < a0.size) = true := decide_eq_true (by omega)
                 clear c49
                 by_cases c51 : (wrap64 ((wrap64 ((wrap64 ((wrap64 ((wrap64 (262144 * (wrap64 ((wrap64 (bt a0 0)) - 240)))) + (wrap64 (4096 * (wrap64 ((wrap64 (bt a0 1)) - 128)))))) + (wrap64 (64 * (wrap64 ((wrap64 (bt a0 2)) - 128)))))) + (wrap64 (bt a0 3)))) - 128)) ≥ 65536
                 ·rw [if_pos c51] at H
                  have c51b0 : decide (65536 ≤ (wrap64 ((wrap64 ((wrap64 ((wrap64 ((wrap64 (262144 * (wrap64 ((wrap64 (bt a0 0)) - 240)))) + (wrap64 (4096 * (wrap64 ((wrap64 (bt a0 1)) - 128)))))) + (wrap64 (64 * (wrap64 ((wrap64 (bt a0 2)) - 128)))))) + (wrap64 (bt a0 3)))) - 128))) = true := decide_eq_true c51
                  clear c51
                  by_cases c52 : (wrap64 ((wrap64 ((wrap64 ((wrap64 ((wrap64 (262144 * (wrap64 ((wrap64 (bt a0 0)) - 240)))) + (wrap64 (4096 * (wrap64 ((wrap64 (bt a0 1)) - 128)))))) + (wrap64 (64 * (wrap64 ((wrap64 (bt a0 2)) - 128)))))) + (wrap64 (bt a0 3)))) - 128)) ≤ 1114111
                  ·rw [if_pos c52] at H
                   have c52b0 : decide ((wrap64 ((wrap64 ((wrap64 ((wrap64 ((wrap64 (262144 * (wrap64 ((wrap64 (bt a0 0)) - 240)))) + (wrap64 (4096 * (wrap64 ((wrap64 (bt a0 1)) - 128)))))) + (wrap64 (64 * (wrap64 ((wrap64 (bt a0 2)) - 128)))))) + (wrap64 (bt a0 3)))) - 128)) ≤ 1114111) = true := decide_eq_true c52
                   clear c52
                   simp only [Option.some.injEq, Prod.mk.injEq] at H
                   obtain ⟨rfl, rfl⟩ := H
                   have p46 : 0 ≤ (1 : Int) := (by omega)
                   have q46 : 1 < a0.size := (by have : (1 : Int) < (a0.size : Int) := of_decide_eq_true (by first | (with_reducible assumption) ); omega)
                   have hx46 : ∀ h : 1 < a0.size, ((a0[1]'h).toNat : Int) = bt a0 1 := bt_at a0 1
                   clear p46
                   have qi46 : (1 < (a0.size : Int)) = True := eq_true (of_decide_eq_true (by first | (with_reducible assumption) ))
                   replace q46 := eq_true q46
                   have p48 : 0 ≤ (2 : Int) := (by omega)
                   have q48 : 2 < a0.size := (by have : (2 : Int) < (a0.size : Int) := of_decide_eq_true (by first | (with_reducible assumption) ); omega)
                   have hx48 : ∀ h : 2 < a0.size, ((a0[2]'h).toNat : Int) = bt a0 2 := bt_at a0 2
                   clear p48
                   have qi48 : (2 < (a0.size : Int)) = True := eq_true (of_decide_eq_true (by first | (with_reducible assumption) ))
                   replace q48 := eq_true q48
                   have p50 : 0 ≤ (3 : Int) := (by omega)
                   have q50 : 3 < a0.size := (by have : (3 : Int) < (a0.size : Int) := of_decide_eq_true (by first | (with_reducible assumption) ); omega)
                   have hx50 : ∀ h : 3 < a0.size, ((a0[3]'h).toNat : Int) = bt a0 3 := bt_at a0 3
                   clear p50
                   have qi50 : (3 < (a0.size : Int)) = True := eq_true (of_decide_eq_true (by first | (with_reducible assumption) ))
                   replace q50 := eq_true q50
                   have hcz53_0 : wc.cell? ⟨gb160, 0, none⟩ = some (.int .i64 x161000_24) := (blk_cell BK160.out 0).trans rfl
                   have hcz53_1 : wc.cell? ⟨gb160, 1, none⟩ = some (.int .i64 x161001_24) := (blk_cell BK160.out 1).trans rfl
                   have hfz53_0 := blk_frozen BK160.out 0
                   have hfz53_1 := blk_frozen BK160.out 1
                   go_wp2
                   repeat (go_quiet (fail); try go_wp2)
                   refine bodyPost_ret (results_cell_row rfl _ _ gb160 118 #[.int .i64 (wrap64 ((wrap64 ((wrap64 ((wrap64 ((wrap64 (262144 * (wrap64 ((wrap64 (bt a0 0)) - 240)))) + (wrap64 (4096 * (wrap64 ((wrap64 (bt a0 1)) - 128)))))) + (wrap64 (64 * (wrap64 ((wrap64 (bt a0 2)) - 128)))))) + (wrap64 (bt a0 3)))) - 128)), .int .i64 4] (0, 0) _ rfl (by (with_reducible repeat (fail)); refine blk_put (cs := #[.int .i64 (wrap64 ((wrap64 ((wrap64 ((wrap64 ((wrap64 (262144 * (wrap64 ((wrap64 (bt a0 0)) - 240)))) + (wrap64 (4096 * (wrap64 ((wrap64 (bt a0 1)) - 128)))))) + (wrap64 (64 * (wrap64 ((wrap64 (bt a0 2)) - 128)))))) + (wrap64 (bt a0 3)))) - 128)), .int .i64 x161001_24]) ?_ 1 _ rfl; (with_reducible repeat (fail)); refine blk_put (cs := #[.int .i64 x161000_24, .int .i64 x161001_24]) ?_ 0 _ rfl; (with_reducible repeat (first | refine blk_drewN ?_ _ )); exact BK160.out) Tryd.underlying118 rfl (by kernel_rfl)) rfl ?_
                   exact ⟨by first | rfl , by repeat (first | (with_reducible first | exact HB.out | apply pw_below_drewN | refine below_set ?_ GE160.out) )⟩
                  ·rw [if_neg c52] at H
                   have c52b0 : decide ((wrap64 ((wrap64 ((wrap64 ((wrap64 ((wrap64 (262144 * (wrap64 ((wrap64 (bt a0 0)) - 240)))) + (wrap64 (4096 * (wrap64 ((wrap64 (bt a0 1)) - 128)))))) + (wrap64 (64 * (wrap64 ((wrap64 (bt a0 2)) - 128)))))) + (wrap64 (bt a0 3)))) - 128)) ≤ 1114111) = false := decide_eq_false c52
                   clear c52
                   simp only [Option.some.injEq, Prod.mk.injEq] at H
                   obtain ⟨rfl, rfl⟩ := H
                   have p46 : 0 ≤ (1 : Int) := (by omega)
                   have q46 : 1 < a0.size := (by have : (1 : Int) < (a0.size : Int) := of_decide_eq_true (by first | (with_reducible assumption) ); omega)
                   have hx46 : ∀ h : 1 < a0.size, ((a0[1]'h).toNat : Int) = bt a0 1 := bt_at a0 1
                   clear p46
                   have qi46 : (1 < (a0.size : Int)) = True := eq_true (of_decide_eq_true (by first | (with_reducible assumption) ))
                   replace q46 := eq_true q46
                   have p48 : 0 ≤ (2 : Int) := (by omega)
                   have q48 : 2 < a0.size := (by have : (2 : Int) < (a0.size : Int) := of_decide_eq_true (by first | (with_reducible assumption) ); omega)
                   have hx48 : ∀ h : 2 < a0.size, ((a0[2]'h).toNat : Int) = bt a0 2 := bt_at a0 2
                   clear p48
                   have qi48 : (2 < (a0.size : Int)) = True := eq_true (of_decide_eq_true (by first | (with_reducible assumption) ))
                   replace q48 := eq_true q48
                   have p50 : 0 ≤ (3 : Int) := (by omega)
                   have q50 : 3 < a0.size := (by have : (3 : Int) < (a0.size : Int) := of_decide_eq_true (by first | (with_reducible assumption) ); omega)
                   have hx50 : ∀ h : 3 < a0.size, ((a0[3]'h).toNat : Int) = bt a0 3 := bt_at a0 3
                   clear p50
                   have qi50 : (3 < (a0.size : Int)) = True := eq_true (of_decide_eq_true (by first | (with_reducible assumption) ))
                   replace q50 := eq_true q50
                   have hcz54_0 : wc.cell? ⟨gb160, 0, none⟩ = some (.int .i64 x161000_24) := (blk_cell BK160.out 0).trans rfl
                   have hcz54_1 : wc.cell? ⟨gb160, 1, none⟩ = some (.int .i64 x161001_24) := (blk_cell BK160.out 1).trans rfl
                   have hfz54_0 := blk_frozen BK160.out 0
                   have hfz54_1 := blk_frozen BK160.out 1
                   go_wp2
                   repeat (go_quiet (fail); try go_wp2)
                   refine bodyPost_ret (results_cell_row rfl _ _ gb160 118 #[.int .i64 0, .int .i64 0] (0, 0) _ rfl (by (with_reducible repeat (fail)); refine blk_put (cs := #[.int .i64 0, .int .i64 x161001_24]) ?_ 1 _ rfl; (with_reducible repeat (fail)); refine blk_put (cs := #[.int .i64 x161000_24, .int .i64 x161001_24]) ?_ 0 _ rfl; (with_reducible repeat (first | refine blk_drewN ?_ _ )); exact BK160.out) Tryd.underlying118 rfl (by kernel_rfl)) rfl ?_
                   exact ⟨by first | rfl , by repeat (first | (with_reducible first | exact HB.out | apply pw_below_drewN | refine below_set ?_ GE160.out) )⟩
                 ·rw [if_neg c51] at H
                  have c51b0 : decide (65536 ≤ (wrap64 ((wrap64 ((wrap64 ((wrap64 ((wrap64 (262144 * (wrap64 ((wrap64 (bt a0 0)) - 240)))) + (wrap64 (4096 * (wrap64 ((wrap64 (bt a0 1)) - 128)))))) + (wrap64 (64 * (wrap64 ((wrap64 (bt a0 2)) - 128)))))) + (wrap64 (bt a0 3)))) - 128))) = false := decide_eq_false c51
                  clear c51
                  simp only [Option.some.injEq, Prod.mk.injEq] at H
                  obtain ⟨rfl, rfl⟩ := H
                  have p46 : 0 ≤ (1 : Int) := (by omega)
                  have q46 : 1 < a0.size := (by have : (1 : Int) < (a0.size : Int) := of_decide_eq_true (by first | (with_reducible assumption) ); omega)
                  have hx46 : ∀ h : 1 < a0.size, ((a0[1]'h).toNat : Int) = bt a0 1 := bt_at a0 1
                  clear p46
                  have qi46 : (1 < (a0.size : Int)) = True := eq_true (of_decide_eq_true (by first | (with_reducible assumption) ))
                  replace q46 := eq_true q46
                  have p48 : 0 ≤ (2 : Int) := (by omega)
                  have q48 : 2 < a0.size := (by have : (2 : Int) < (a0.size : Int) := of_decide_eq_true (by first | (with_reducible assumption) ); omega)
                  have hx48 : ∀ h : 2 < a0.size, ((a0[2]'h).toNat : Int) = bt a0 2 := bt_at a0 2
                  clear p48
                  have qi48 : (2 < (a0.size : Int)) = True := eq_true (of_decide_eq_true (by first | (with_reducible assumption) ))
                  replace q48 := eq_true q48
                  have p50 : 0 ≤ (3 : Int) := (by omega)
                  have q50 : 3 < a0.size := (by have : (3 : Int) < (a0.size : Int) := of_decide_eq_true (by first | (with_reducible assumption) ); omega)
                  have hx50 : ∀ h : 3 < a0.size, ((a0[3]'h).toNat : Int) = bt a0 3 := bt_at a0 3
                  clear p50
                  have qi50 : (3 < (a0.size : Int)) = True := eq_true (of_decide_eq_true (by first | (with_reducible assumption) ))
                  replace q50 := eq_true q50
                  have hcz55_0 : wc.cell? ⟨gb160, 0, none⟩ = some (.int .i64 x161000_24) := (blk_cell BK160.out 0).trans rfl
                  have hcz55_1 : wc.cell? ⟨gb160, 1, none⟩ = some (.int .i64 x161001_24) := (blk_cell BK160.out 1).trans rfl
                  have hfz55_0 := blk_frozen BK160.out 0
                  have hfz55_1 := blk_frozen BK160.out 1
                  go_wp2
                  repeat (go_quiet (fail); try go_wp2)
                  refine bodyPost_ret (results_cell_row rfl _ _ gb160 118 #[.int .i64 0, .int .i64 0] (0, 0) _ rfl (by (with_reducible repeat (fail)); refine blk_put (cs := #[.int .i64 0, .int .i64 x161001_24]) ?_ 1 _ rfl; (with_reducible repeat (fail)); refine blk_put (cs := #[.int .i64 x161000_24, .int .i64 x161001_24]) ?_ 0 _ rfl; (with_reducible repeat (first | refine blk_drewN ?_ _ )); exact BK160.out) Tryd.underlying118 rfl (by kernel_rfl)) rfl ?_
                  exact ⟨by first | rfl , by repeat (first | (with_reducible first | exact HB.out | apply pw_below_drewN | refine below_set ?_ GE160.out) )⟩
                ·rw [if_neg c49] at H
                 exact absurd H (by simp)
               ·rw [if_neg c47] at H
                exact absurd H (by simp)
              ·rw [if_neg c45] at H
               exact absurd H (by simp)
             ·replace c44 := Bool.eq_false_iff.mpr c44
              subst c44
              have H1 : (some (0, 0)) = some (r1, r2) := by rw [if_neg (show ¬ (false = true) by decide)] at H; exact H
              clear H
              have H := H1
              clear H1
              simp only [Option.some.injEq, Prod.mk.injEq] at H
              obtain ⟨rfl, rfl⟩ := H
              have hcz56_0 : wc.cell? ⟨gb160, 0, none⟩ = some (.int .i64 x161000_24) := (blk_cell BK160.out 0).trans rfl
              have hcz56_1 : wc.cell? ⟨gb160, 1, none⟩ = some (.int .i64 x161001_24) := (blk_cell BK160.out 1).trans rfl
              have hfz56_0 := blk_frozen BK160.out 0
              have hfz56_1 := blk_frozen BK160.out 1
              go_wp2
              refine bodyPost_ret (results_cell_row rfl _ _ gb160 118 #[.int .i64 0, .int .i64 0] (0, 0) _ rfl (by (with_reducible repeat (fail)); refine blk_put (cs := #[.int .i64 0, .int .i64 x161001_24]) ?_ 1 _ rfl; (with_reducible repeat (fail)); refine blk_put (cs := #[.int .i64 x161000_24, .int .i64 x161001_24]) ?_ 0 _ rfl; (with_reducible repeat (fail)); exact BK160.out) Tryd.underlying118 rfl (by kernel_rfl)) rfl ?_
              exact ⟨by first | rfl , by repeat (first | (with_reducible first | exact HB.out | refine below_set ?_ GE160.out) )⟩
  ·rw [if_neg c5] at H
   exact absurd H (by simp)

end Go.Proofs.YtmcochnofkjhaaaDoor.PAll
