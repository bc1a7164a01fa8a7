-- Written by a program of this session over the kit's printer (with contracts of the session's own).
import Derived.Test.YtmcochnofkjhaaaDoorPAllx0
namespace Go.Proofs.YtmcochnofkjhaaaDoor.PAll
open Go.RowKit Go.Proofs.YtmcochnofkjhaaaDoorW.PrintWords Go.Proofs.YtmcochnofkjhaaaDoorW.PrintLast Go.Proofs.YtmcochnofkjhaaaDoorW.PrintMore
attribute [local go_sem] max2_int min2_int max_two min_two max_three min_three max_four min_four   -- for this text's walks alone
set_option linter.unusedVariables false
set_option linter.unusedSimpArgs false

/-! ### caduceusref18_Queue_Missed: function 23 -/
def caduceusref18_Queue_Missed.l0 : Nat → Int → Int → Int → Int → List (S59) → List Int → Option (Int)
 | 0, _, _, _, _, _, _ => none
 | k + 1, x1, x5, x6, x361000, x361001, x361002 => if x6 < (x361002.length : Int) then (if 0 ≤ x6 then (if (rd x361002 x6) = x1 then (caduceusref18_Queue_Missed.l0 k x1 (wrap64 (x5 + 1)) (wrap64 (x6 + 1)) x361000 x361001 x361002) else (caduceusref18_Queue_Missed.l0 k x1 x5 (wrap64 (x6 + 1)) x361000 x361001 x361002)) else (none)) else (some x5)
def caduceusref18_Queue_Missed.f (k : Nat) (a0_0 : Int) (l0_1 : List (S59)) (l0_2 : List Int) (a1 : Int) : Option (Int) := caduceusref18_Queue_Missed.l0 k a1 0 0 a0_0 l0_1 l0_2
theorem caduceusref18_Queue_Missed.mono_l : ∀ k, (∀ y0 y1 y2 y3 y4 y5, LeO (caduceusref18_Queue_Missed.l0 k y0 y1 y2 y3 y4 y5) (caduceusref18_Queue_Missed.l0 (k + 1) y0 y1 y2 y3 y4 y5))
 | 0 => fun _ _ _ _ _ _ r h => by simp [caduceusref18_Queue_Missed.l0] at h
 | k + 1 => by
  have ih0 := caduceusref18_Queue_Missed.mono_l k
  ·intro y0 y1 y2 y3 y4 y5
   unfold caduceusref18_Queue_Missed.l0
   repeat' first
   | (with_reducible exact ih0 _ _ _ _ _ _)
   | (with_reducible exact LeO.refl _)
   | (with_reducible refine LeO.ite ?_ ?_)

theorem caduceusref18_Queue_Missed.mono : ∀ a0 a1 a2 a3 k, LeO (caduceusref18_Queue_Missed.f k a0 a1 a2 a3) (caduceusref18_Queue_Missed.f (k + 1) a0 a1 a2 a3) := by
 intro a0 a1 a2 a3 k
 have ih0 := caduceusref18_Queue_Missed.mono_l k
 unfold caduceusref18_Queue_Missed.f
 repeat' first
   | (with_reducible exact ih0 _ _ _ _ _ _)

set_option maxHeartbeats 8000000 in
set_option maxRecDepth 100000 in
theorem caduceusref18_Queue_Missed.calls (k : Nat) (a0_0 : Int) (A0_1 : Option Addr) (c0_1 : Nat) (l0_1 : List (S59)) (A0_2 : Option Addr) (c0_2 : Nat) (l0_2 : List Int) (a1 : Int) (r : Int) (w : World) (hr0_1 : Kd.C k59 w A0_1 l0_1.length l0_1) (hc0_1 : l0_1.length ≤ c0_1) (hr0_2 : Kd.C (Kd.int .i64) w A0_2 l0_2.length l0_2) (hc0_2 : l0_2.length ≤ c0_2) (h : caduceusref18_Queue_Missed.f k a0_0 l0_1 l0_2 a1 = some r) :
  Calls Tryd.prog 23 #[.agg #[.int .i64 a0_0, .slice A0_1 l0_1.length c0_1, .slice A0_2 l0_2.length c0_2], .int .i64 a1] w fun e w' => e = .returned (.int .i64 r) ∧ Below w.heap.size w w' := by
 have hu48 := Tryd.underlying48
 have HR0_1 := Aside0.mk hr0_1
 have HC0_1 := Aside0.mk hc0_1
 clear hr0_1 hc0_1
 have HR0_2 := Aside0.mk hr0_2
 have HC0_2 := Aside0.mk hc0_2
 clear hr0_2 hc0_2
 have HB := Aside0.mk (Below.refl w.heap.size w)
 have H : (caduceusref18_Queue_Missed.l0 k a1 0 0 a0_0 l0_1 l0_2) = some r := h
 clear h
 have H' := Aside0.mk H
 clear H
 go_enter Tryd.func23, Tryd.ntmps23
 go_wp2_with (first | ((with_reducible refine gate_dst (N := 2) rfl ?_); refine box_event ?hg (N := 2) ?hd (cs := #[.int .i64 a0_0, .slice A0_1 l0_1.length c0_1, .slice A0_2 l0_2.length c0_2]) (t := 48) ?hr ?_; (case hd => rfl); (case hg => rfl); (case hr => first | (go_simp; done) ); intro gb360 hg w3 hbox hb; have n0_ := Aside0.mk (below_step (by repeat (first | (with_reducible first | exact HB.out ) )) hb); have n1_ := Aside0.mk (hbox); have n2_ := Aside0.mk ((by rw [hg]; exact (below_size (by repeat (first | (with_reducible first | exact HB.out ) ))) : w.heap.size ≤ gb360)); have n3_ := Aside0.mk ((by rw [hg]; exact (below_size (by repeat (first | (with_reducible first | exact HB.out ) ))) : w.heap.size ≤ gb360)); clear HB; have HB := n0_; have BK360 := n1_; have GW360 := n2_; have GE360 := n3_; clear n0_ n1_ n2_ n3_; clear hb hbox hg))
 go_loopg [5, 6] k (fun kq v5 v6 w' => ∃ (x5_1 : Int) (x6_1 : Int), v5 = .int .i64 x5_1 ∧ v6 = .int .i64 x6_1 ∧ Aside0 (caduceusref18_Queue_Missed.l0 kq a1 x5_1 x6_1 a0_0 l0_1 l0_2 = some r) ∧ Aside0 (kq ≤ k) ∧ Aside0 (w'.heap[gb360]? = some (.cells #[.int .i64 a0_0, (.slice A0_1 l0_1.length c0_1), (.slice A0_2 l0_2.length c0_2)] 48 (0, 0))) ∧ Aside0 (Below w.heap.size w w'))
 case atStart => exact ⟨(0), (0), (by first | rfl ), (by first | rfl ), H', ⟨Nat.le_refl _⟩, ⟨by (with_reducible repeat (fail)); exact BK360.out⟩, ⟨by repeat (first | (with_reducible first | exact HB.out ) )⟩⟩
 case round =>
  clear H'
  try clear c2
  try clear p2
  obtain ⟨x5_1, x6_1, rfl, rfl, HA, HK1, BK360, HB⟩ := hrel
  cases gk with
  | zero => exact absurd HA.out (by simp [caduceusref18_Queue_Missed.l0])
  | succ k1 =>
   have H := HA.out
   clear HA
   simp only [caduceusref18_Queue_Missed.l0] at H
   by_cases c4 : x6_1 < (l0_2.length : Int)
   ·rw [if_pos c4] at H
    have c4b0 : decide (x6_1 < (l0_2.length : Int)) = true := decide_eq_true c4
    clear c4
    by_cases c5 : 0 ≤ x6_1
    ·rw [if_pos c5] at H
     have c5b0 : decide (0 ≤ x6_1) = true := decide_eq_true c5
     clear c5
     by_cases c6 : (rd l0_2 x6_1) = a1
     ·rw [if_pos c6] at H
      have c6b0 : ((rd l0_2 x6_1) == a1) = true := beq_iff_eq.mpr c6
      have c6b1 : ((rd l0_2 x6_1) != a1) = false := bne_eq_false_iff_eq.mpr c6
      clear c6
      have H' := Aside0.mk H
      clear H
      have hcz7_0 : wr.cell? ⟨gb360, 0, none⟩ = some (.int .i64 a0_0) := (blk_cell BK360.out 0).trans rfl
      have hcz7_1 : wr.cell? ⟨gb360, 1, none⟩ = some (.slice A0_1 l0_1.length c0_1) := (blk_cell BK360.out 1).trans rfl
      have hcz7_2 : wr.cell? ⟨gb360, 2, none⟩ = some (.slice A0_2 l0_2.length c0_2) := (blk_cell BK360.out 2).trans rfl
      have hfz7_0 := blk_frozen BK360.out 0
      have hfz7_1 := blk_frozen BK360.out 1
      have hfz7_2 := blk_frozen BK360.out 2
      have p361 : 0 ≤ (x6_1 : Int) := of_decide_eq_true (by first | (with_reducible assumption) )
      have q361 : x6_1 < (l0_2.length : Int) := of_decide_eq_true (by first | (with_reducible assumption) )
      obtain ⟨ad361, e361, hx361_0⟩ := Kd.at_int HR0_2.out x6_1 p361 q361
      cases e361
      replace hx361_0 := (HB.out.cell (World.block_lt_of_cell? w _ hx361_0)).trans hx361_0
      replace p361 := eq_true p361
      replace q361 := eq_true q361
      go_wp2
      go_roundg k1
      case measure => have := HK1.out; omega
      case rel => exact ⟨(wrap64 (x5_1 + 1)), (wrap64 (x6_1 + 1)), (by first | rfl ), (by first | rfl ), H', ⟨by have := HK1.out; omega⟩, ⟨by (with_reducible repeat (fail)); exact BK360.out⟩, ⟨by repeat (first | (with_reducible first | exact HB.out ) )⟩⟩
     ·rw [if_neg c6] at H
      have c6b0 : ((rd l0_2 x6_1) == a1) = false := beq_eq_false_iff_ne.mpr c6
      have c6b1 : ((rd l0_2 x6_1) != a1) = true := bne_iff_ne.mpr c6
      have H' := Aside0.mk H
      clear H
      have hcz8_0 : wr.cell? ⟨gb360, 0, none⟩ = some (.int .i64 a0_0) := (blk_cell BK360.out 0).trans rfl
      have hcz8_1 : wr.cell? ⟨gb360, 1, none⟩ = some (.slice A0_1 l0_1.length c0_1) := (blk_cell BK360.out 1).trans rfl
      have hcz8_2 : wr.cell? ⟨gb360, 2, none⟩ = some (.slice A0_2 l0_2.length c0_2) := (blk_cell BK360.out 2).trans rfl
      have hfz8_0 := blk_frozen BK360.out 0
      have hfz8_1 := blk_frozen BK360.out 1
      have hfz8_2 := blk_frozen BK360.out 2
      have p361 : 0 ≤ (x6_1 : Int) := of_decide_eq_true (by first | (with_reducible assumption) )
      have q361 : x6_1 < (l0_2.length : Int) := of_decide_eq_true (by first | (with_reducible assumption) )
      obtain ⟨ad361, e361, hx361_0⟩ := Kd.at_int HR0_2.out x6_1 p361 q361
      cases e361
      replace hx361_0 := (HB.out.cell (World.block_lt_of_cell? w _ hx361_0)).trans hx361_0
      replace p361 := eq_true p361
      replace q361 := eq_true q361
      go_wp2
      go_roundg k1
      case measure => have := HK1.out; omega
      case rel => exact ⟨(x5_1), (wrap64 (x6_1 + 1)), (by first | rfl ), (by first | rfl ), H', ⟨by have := HK1.out; omega⟩, ⟨by (with_reducible repeat (fail)); exact BK360.out⟩, ⟨by repeat (first | (with_reducible first | exact HB.out ) )⟩⟩
    ·rw [if_neg c5] at H
     exact absurd H (by simp)
   ·rw [if_neg c4] at H
    have c4b0 : decide (x6_1 < (l0_2.length : Int)) = false := decide_eq_false c4
    clear c4
    obtain rfl := Option.some.inj H
    have hcz9_0 : wr.cell? ⟨gb360, 0, none⟩ = some (.int .i64 a0_0) := (blk_cell BK360.out 0).trans rfl
    have hcz9_1 : wr.cell? ⟨gb360, 1, none⟩ = some (.slice A0_1 l0_1.length c0_1) := (blk_cell BK360.out 1).trans rfl
    have hcz9_2 : wr.cell? ⟨gb360, 2, none⟩ = some (.slice A0_2 l0_2.length c0_2) := (blk_cell BK360.out 2).trans rfl
    have hfz9_0 := blk_frozen BK360.out 0
    have hfz9_1 := blk_frozen BK360.out 1
    have hfz9_2 := blk_frozen BK360.out 2
    go_wp2
    go_ret
    exact ⟨by first | rfl , by repeat (first | (with_reducible first | exact HB.out ) )⟩

-- NOT PRINTED: function 5 (caduceuslaw18_QueuePlays)

-- NOT PRINTED: function 6 (caduceuslaw18_QueueNil)

end Go.Proofs.YtmcochnofkjhaaaDoor.PAll
