-- Written by a program of this session over the kit's printer (with contracts of the session's own).
import Derived.Test.YtpdalofhekmbeaaPViewReadsx0
namespace Go.Proofs.Ytpdalofhekmbeaa.PViewReads
open Go.RowKit Go.Proofs.YtpdalofhekmbeaaW.PrintWords Go.Proofs.YtpdalofhekmbeaaW.PrintLast Go.Proofs.YtpdalofhekmbeaaW.PrintMore
attribute [local go_sem] max2_int min2_int max_two min_two max_three min_three max_four min_four   -- for this text's walks alone
set_option linter.unusedVariables false
set_option linter.unusedSimpArgs false

/-! ### caduceusref14_Check: function 18 -/
def caduceusref14_Check.l0 : Nat → Int → Int → List (S62) → Option (Bool)
 | 0, _, _, _ => none
 | k + 1, x3, x281000, x281001 => if x3 < (x281001.length : Int) then (if 0 ≤ x3 then (if ((rd_T62 x281001 x3).f0) < 1 then (some false) else (if ((rd_T62 x281001 x3).f0) > 15 then (some false) else (if x3 > 0 then (if 0 ≤ (wrap64 (x3 - 1)) then (if (wrap64 (x3 - 1)) < (x281001.length : Int) then (if ((rd_T62 x281001 x3).f0) ≤ ((rd_T62 x281001 (wrap64 (x3 - 1))).f0) then (some false) else (if ((rd_T62 x281001 x3).f1) < 1 then (some false) else (if ((rd_T62 x281001 x3).f1) > 1099511627775 then (some false) else (caduceusref14_Check.l0 k (wrap64 (x3 + 1)) x281000 x281001)))) else (none)) else (none)) else (if ((rd_T62 x281001 x3).f1) < 1 then (some false) else (if ((rd_T62 x281001 x3).f1) > 1099511627775 then (some false) else (caduceusref14_Check.l0 k (wrap64 (x3 + 1)) x281000 x281001)))))) else (none)) else (if (x281001.length : Int) > 0 then (if x281000 ≥ 1 then (some (decide (x281000 ≤ 1099511627775))) else (some false)) else (some false))
def caduceusref14_Check.f (k : Nat) (a0_0 : Int) (l0_1 : List (S62)) : Option (Bool) := caduceusref14_Check.l0 k 0 a0_0 l0_1
theorem caduceusref14_Check.mono_l : ∀ k, (∀ y0 y1 y2, LeO (caduceusref14_Check.l0 k y0 y1 y2) (caduceusref14_Check.l0 (k + 1) y0 y1 y2))
 | 0 => fun _ _ _ r h => by simp [caduceusref14_Check.l0] at h
 | k + 1 => by
  have ih0 := caduceusref14_Check.mono_l k
  ·intro y0 y1 y2
   unfold caduceusref14_Check.l0
   repeat' first
   | (with_reducible exact ih0 _ _ _)
   | (with_reducible exact LeO.refl _)
   | (with_reducible refine LeO.ite ?_ ?_)

theorem caduceusref14_Check.mono : ∀ a0 a1 k, LeO (caduceusref14_Check.f k a0 a1) (caduceusref14_Check.f (k + 1) a0 a1) := by
 intro a0 a1 k
 have ih0 := caduceusref14_Check.mono_l k
 unfold caduceusref14_Check.f
 repeat' first
   | (with_reducible exact ih0 _ _ _)

set_option maxHeartbeats 8000000 in
set_option maxRecDepth 100000 in
theorem caduceusref14_Check.calls (k : Nat) (a0_0 : Int) (A0_1 : Option Addr) (c0_1 : Nat) (l0_1 : List (S62)) (r : Bool) (w : World) (hr0_1 : Kd.C k62 w A0_1 l0_1.length l0_1) (hc0_1 : l0_1.length ≤ c0_1) (h : caduceusref14_Check.f k a0_0 l0_1 = some r) :
  Calls Try.prog 18 #[.agg #[.int .i64 a0_0, .slice A0_1 l0_1.length c0_1]] w fun e w' => e = .returned (.bool r) ∧ Below w.heap.size w w' := by
 have hu32 := Try.underlying32
 have hu62 := Try.underlying62
 have HR0_1 := Aside0.mk hr0_1
 have HC0_1 := Aside0.mk hc0_1
 clear hr0_1 hc0_1
 have HB := Aside0.mk (Below.refl w.heap.size w)
 have H : (caduceusref14_Check.l0 k 0 a0_0 l0_1) = some r := h
 clear h
 have H' := Aside0.mk H
 clear H
 go_enter Try.func18, Try.ntmps18
 go_wp2_with (first | ((with_reducible refine gate_dst (N := 1) rfl ?_); refine box_event ?hg (N := 1) ?hd (cs := #[.int .i64 a0_0, .slice A0_1 l0_1.length c0_1]) (t := 32) ?hr ?_; (case hd => rfl); (case hg => rfl); (case hr => first | (go_simp; done) ); intro gb280 hg w2 hbox hb; have n0_ := Aside0.mk (below_step (by repeat (first | (with_reducible first | exact HB.out ) )) hb); have n1_ := Aside0.mk (hbox); have n2_ := Aside0.mk ((by rw [hg]; exact (below_size (by repeat (first | (with_reducible first | exact HB.out ) ))) : w.heap.size ≤ gb280)); have n3_ := Aside0.mk ((by rw [hg]; exact (below_size (by repeat (first | (with_reducible first | exact HB.out ) ))) : w.heap.size ≤ gb280)); clear HB; have HB := n0_; have BK280 := n1_; have GW280 := n2_; have GE280 := n3_; clear n0_ n1_ n2_ n3_; clear hb hbox hg))
 go_loopg [3] k (fun kq v3 w' => ∃ (x3_1 : Int), v3 = .int .i64 x3_1 ∧ Aside0 (caduceusref14_Check.l0 kq x3_1 a0_0 l0_1 = some r) ∧ Aside0 (kq ≤ k) ∧ Aside0 (w'.heap[gb280]? = some (.cells #[.int .i64 a0_0, (.slice A0_1 l0_1.length c0_1)] 32 (0, 0))) ∧ Aside0 (Below w.heap.size w w'))
 case atStart => exact ⟨(0), (by first | rfl ), H', ⟨Nat.le_refl _⟩, ⟨by (with_reducible repeat (fail)); exact BK280.out⟩, ⟨by repeat (first | (with_reducible first | exact HB.out ) )⟩⟩
 case round =>
  clear H'
  try clear c1
  try clear p2
  obtain ⟨x3_1, rfl, HA, HK1, BK280, HB⟩ := hrel
  cases gk with
  | zero => exact absurd HA.out (by simp [caduceusref14_Check.l0])
  | succ k1 =>
   have H := HA.out
   clear HA
   simp only [caduceusref14_Check.l0] at H
   by_cases c3 : x3_1 < (l0_1.length : Int)
   ·rw [if_pos c3] at H
    have c3b0 : decide (x3_1 < (l0_1.length : Int)) = true := decide_eq_true c3
    clear c3
    by_cases c4 : 0 ≤ x3_1
    ·rw [if_pos c4] at H
     have c4b0 : decide (0 ≤ x3_1) = true := decide_eq_true c4
     clear c4
     by_cases c5 : ((rd_T62 l0_1 x3_1).f0) < 1
     ·rw [if_pos c5] at H
      have c5b0 : decide (((rd_T62 l0_1 x3_1).f0) < 1) = true := decide_eq_true c5
      clear c5
      obtain rfl := Option.some.inj H
      have hcz6_0 : wr.cell? ⟨gb280, 0, none⟩ = some (.int .i64 a0_0) := (blk_cell BK280.out 0).trans rfl
      have hcz6_1 : wr.cell? ⟨gb280, 1, none⟩ = some (.slice A0_1 l0_1.length c0_1) := (blk_cell BK280.out 1).trans rfl
      have hfz6_0 := blk_frozen BK280.out 0
      have hfz6_1 := blk_frozen BK280.out 1
      have p281 : 0 ≤ (x3_1 : Int) := of_decide_eq_true (by first | (with_reducible assumption) )
      have q281 : x3_1 < (l0_1.length : Int) := of_decide_eq_true (by first | (with_reducible assumption) )
      obtain ⟨ad281, e281, hx281_0, hx281_1, hx281_2⟩ := at_T62 HR0_1.out x3_1 p281 q281
      cases e281
      replace hx281_0 := (HB.out.cell (World.block_lt_of_cell? w _ hx281_0)).trans hx281_0
      replace hx281_1 := (HB.out.cell (World.block_lt_of_cell? w _ hx281_1)).trans hx281_1
      replace hx281_2 := (HB.out.cell (World.block_lt_of_cell? w _ hx281_2)).trans hx281_2
      replace p281 := eq_true p281
      replace q281 := eq_true q281
      go_wp2_with (first | ((with_reducible refine gate_dst (N := 4) rfl ?_); refine box_event ?hg (N := 4) ?hd (cs := #[.int .i64 0, .int .i64 0, .bool false]) (t := 62) ?hr ?_; (case hd => rfl); (case hg => rfl); (case hr => first | (go_simp; done) ); intro gb282 hg w7 hbox hb; have n0_ := Aside0.mk (blk_below (g := gb280) (o := .cells #[.int .i64 a0_0, .slice (some ad281) l0_1.length c0_1] 32 (0, 0)) (by (with_reducible repeat (fail)); exact BK280.out) hb); have n1_ := Aside0.mk (below_step (by repeat (first | (with_reducible first | exact HB.out ) )) hb); have n2_ := Aside0.mk (hbox); have n3_ := Aside0.mk ((by rw [hg]; exact (below_size (by repeat (first | (with_reducible first | exact HB.out ) ))) : w.heap.size ≤ gb282)); have n4_ := Aside0.mk ((by rw [hg]; exact (below_size (by repeat (first | (with_reducible first | exact HB.out ) ))) : w.heap.size ≤ gb282)); have n5_ := Aside0.mk ((by rw [hg]; exact Nat.ne_of_lt (blk_lt (g := gb280) (o := .cells #[.int .i64 a0_0, .slice (some ad281) l0_1.length c0_1] 32 (0, 0)) (by (with_reducible repeat (fail)); exact BK280.out)) : gb280 ≠ gb282)); have n6_ := Aside0.mk ((by rw [hg]; exact Nat.ne_of_gt (blk_lt (g := gb280) (o := .cells #[.int .i64 a0_0, .slice (some ad281) l0_1.length c0_1] 32 (0, 0)) (by (with_reducible repeat (fail)); exact BK280.out)) : gb282 ≠ gb280)); clear BK280; clear HB; have BK280 := n0_; have HB := n1_; have BK282 := n2_; have GW282 := n3_; have GE282 := n4_; have NB280_282 := n5_; have NB282_280 := n6_; clear n0_ n1_ n2_ n3_ n4_ n5_ n6_; clear hb hbox hg; have hnb8 := NB282_280.out; have hnc8 := NB280_282.out; have hcz9_0 : w7.cell? ⟨gb282, 0, none⟩ = some (.int .i64 0) := (blk_cell BK282.out 0).trans rfl; have hcz9_1 : w7.cell? ⟨gb282, 1, none⟩ = some (.int .i64 0) := (blk_cell BK282.out 1).trans rfl; have hcz9_2 : w7.cell? ⟨gb282, 2, none⟩ = some (.bool false) := (blk_cell BK282.out 2).trans rfl; have hfz9_0 := blk_frozen BK282.out 0; have hfz9_1 := blk_frozen BK282.out 1; have hfz9_2 := blk_frozen BK282.out 2))
      repeat (go_quiet (fail); try go_wp2)
      go_ret
      exact ⟨by first | rfl , by repeat (first | (with_reducible first | exact HB.out | apply pw_below_drewN | refine below_set ?_ GE282.out) )⟩
     ·rw [if_neg c5] at H
      have c5b0 : decide (((rd_T62 l0_1 x3_1).f0) < 1) = false := decide_eq_false c5
      clear c5
      by_cases c10 : ((rd_T62 l0_1 x3_1).f0) > 15
      ·rw [if_pos c10] at H
       have c10b0 : decide (15 < ((rd_T62 l0_1 x3_1).f0)) = true := decide_eq_true c10
       clear c10
       obtain rfl := Option.some.inj H
       have hcz11_0 : wr.cell? ⟨gb280, 0, none⟩ = some (.int .i64 a0_0) := (blk_cell BK280.out 0).trans rfl
       have hcz11_1 : wr.cell? ⟨gb280, 1, none⟩ = some (.slice A0_1 l0_1.length c0_1) := (blk_cell BK280.out 1).trans rfl
       have hfz11_0 := blk_frozen BK280.out 0
       have hfz11_1 := blk_frozen BK280.out 1
       have p281 : 0 ≤ (x3_1 : Int) := of_decide_eq_true (by first | (with_reducible assumption) )
       have q281 : x3_1 < (l0_1.length : Int) := of_decide_eq_true (by first | (with_reducible assumption) )
       obtain ⟨ad281, e281, hx281_0, hx281_1, hx281_2⟩ := at_T62 HR0_1.out x3_1 p281 q281
       cases e281
       replace hx281_0 := (HB.out.cell (World.block_lt_of_cell? w _ hx281_0)).trans hx281_0
       replace hx281_1 := (HB.out.cell (World.block_lt_of_cell? w _ hx281_1)).trans hx281_1
       replace hx281_2 := (HB.out.cell (World.block_lt_of_cell? w _ hx281_2)).trans hx281_2
       replace p281 := eq_true p281
       replace q281 := eq_true q281
       go_wp2_with (first | ((with_reducible refine gate_dst (N := 4) rfl ?_); refine box_event ?hg (N := 4) ?hd (cs := #[.int .i64 0, .int .i64 0, .bool false]) (t := 62) ?hr ?_; (case hd => rfl); (case hg => rfl); (case hr => first | (go_simp; done) ); intro gb282 hg w12 hbox hb; have n0_ := Aside0.mk (blk_below (g := gb280) (o := .cells #[.int .i64 a0_0, .slice (some ad281) l0_1.length c0_1] 32 (0, 0)) (by (with_reducible repeat (fail)); exact BK280.out) hb); have n1_ := Aside0.mk (below_step (by repeat (first | (with_reducible first | exact HB.out ) )) hb); have n2_ := Aside0.mk (hbox); have n3_ := Aside0.mk ((by rw [hg]; exact (below_size (by repeat (first | (with_reducible first | exact HB.out ) ))) : w.heap.size ≤ gb282)); have n4_ := Aside0.mk ((by rw [hg]; exact (below_size (by repeat (first | (with_reducible first | exact HB.out ) ))) : w.heap.size ≤ gb282)); have n5_ := Aside0.mk ((by rw [hg]; exact Nat.ne_of_lt (blk_lt (g := gb280) (o := .cells #[.int .i64 a0_0, .slice (some ad281) l0_1.length c0_1] 32 (0, 0)) (by (with_reducible repeat (fail)); exact BK280.out)) : gb280 ≠ gb282)); have n6_ := Aside0.mk ((by rw [hg]; exact Nat.ne_of_gt (blk_lt (g := gb280) (o := .cells #[.int .i64 a0_0, .slice (some ad281) l0_1.length c0_1] 32 (0, 0)) (by (with_reducible repeat (fail)); exact BK280.out)) : gb282 ≠ gb280)); clear BK280; clear HB; have BK280 := n0_; have HB := n1_; have BK282 := n2_; have GW282 := n3_; have GE282 := n4_; have NB280_282 := n5_; have NB282_280 := n6_; clear n0_ n1_ n2_ n3_ n4_ n5_ n6_; clear hb hbox hg; have hnb13 := NB282_280.out; have hnc13 := NB280_282.out; have hcz14_0 : w12.cell? ⟨gb282, 0, none⟩ = some (.int .i64 0) := (blk_cell BK282.out 0).trans rfl; have hcz14_1 : w12.cell? ⟨gb282, 1, none⟩ = some (.int .i64 0) := (blk_cell BK282.out 1).trans rfl; have hcz14_2 : w12.cell? ⟨gb282, 2, none⟩ = some (.bool false) := (blk_cell BK282.out 2).trans rfl; have hfz14_0 := blk_frozen BK282.out 0; have hfz14_1 := blk_frozen BK282.out 1; have hfz14_2 := blk_frozen BK282.out 2))
       repeat (go_quiet (fail); try go_wp2)
       go_ret
       exact ⟨by first | rfl , by repeat (first | (with_reducible first | exact HB.out | apply pw_below_drewN | refine below_set ?_ GE282.out) )⟩
      ·rw [if_neg c10] at H
       have c10b0 : decide (15 < ((rd_T62 l0_1 x3_1).f0)) = false := decide_eq_false c10
       clear c10
       by_cases c15 : x3_1 > 0
       ·rw [if_pos c15] at H
        have c15b0 : decide (0 < x3_1) = true := decide_eq_true c15
        clear c15
        obtain ⟨ji16, hji16⟩ : ∃ j_ : Int, (wrap64 (x3_1 - 1)) = j_ := ⟨_, rfl⟩
        replace H : (if 0 ≤ (ji16) then (if (ji16) < (l0_1.length : Int) then (if ((rd_T62 l0_1 x3_1).f0) ≤ ((rd_T62 l0_1 (ji16)).f0) then (some false) else (if ((rd_T62 l0_1 x3_1).f1) < 1 then (some false) else (if ((rd_T62 l0_1 x3_1).f1) > 1099511627775 then (some false) else (caduceusref14_Check.l0 k1 (wrap64 (x3_1 + 1)) a0_0 l0_1)))) else (none)) else (none)) = some r := by first | (rw [hji16] at H; exact H)
        have hji16w : (IntKind.i64.wrap (x3_1 - 1)) = ji16 := (i64_w _).trans hji16
        by_cases c17 : 0 ≤ (ji16)
        ·rw [if_pos c17] at H
         have c17b0 : decide (0 ≤ (ji16)) = true := decide_eq_true c17
         clear c17
         by_cases c18 : (ji16) < (l0_1.length : Int)
         ·rw [if_pos c18] at H
          have c18b0 : decide ((ji16) < (l0_1.length : Int)) = true := decide_eq_true c18
          clear c18
          by_cases c19 : ((rd_T62 l0_1 x3_1).f0) ≤ ((rd_T62 l0_1 (ji16)).f0)
          ·rw [if_pos c19] at H
           have c19b0 : decide (((rd_T62 l0_1 x3_1).f0) ≤ ((rd_T62 l0_1 (ji16)).f0)) = true := decide_eq_true c19
           clear c19
           obtain rfl := Option.some.inj H
           have hcz20_0 : wr.cell? ⟨gb280, 0, none⟩ = some (.int .i64 a0_0) := (blk_cell BK280.out 0).trans rfl
           have hcz20_1 : wr.cell? ⟨gb280, 1, none⟩ = some (.slice A0_1 l0_1.length c0_1) := (blk_cell BK280.out 1).trans rfl
           have hfz20_0 := blk_frozen BK280.out 0
           have hfz20_1 := blk_frozen BK280.out 1
           have p281 : 0 ≤ (x3_1 : Int) := of_decide_eq_true (by first | (with_reducible assumption) )
           have q281 : x3_1 < (l0_1.length : Int) := of_decide_eq_true (by first | (with_reducible assumption) )
           obtain ⟨ad281, e281, hx281_0, hx281_1, hx281_2⟩ := at_T62 HR0_1.out x3_1 p281 q281
           cases e281
           replace hx281_0 := (HB.out.cell (World.block_lt_of_cell? w _ hx281_0)).trans hx281_0
           replace hx281_1 := (HB.out.cell (World.block_lt_of_cell? w _ hx281_1)).trans hx281_1
           replace hx281_2 := (HB.out.cell (World.block_lt_of_cell? w _ hx281_2)).trans hx281_2
           replace p281 := eq_true p281
           replace q281 := eq_true q281
           go_wp2_with (first | ((with_reducible refine gate_dst (N := 4) rfl ?_); refine box_event ?hg (N := 4) ?hd (cs := #[.int .i64 0, .int .i64 0, .bool false]) (t := 62) ?hr ?_; (case hd => rfl); (case hg => rfl); (case hr => first | (go_simp; done) ); intro gb282 hg w21 hbox hb; have n0_ := Aside0.mk (blk_below (g := gb280) (o := .cells #[.int .i64 a0_0, .slice (some ad281) l0_1.length c0_1] 32 (0, 0)) (by (with_reducible repeat (fail)); exact BK280.out) hb); have n1_ := Aside0.mk (below_step (by repeat (first | (with_reducible first | exact HB.out ) )) hb); have n2_ := Aside0.mk (hbox); have n3_ := Aside0.mk ((by rw [hg]; exact (below_size (by repeat (first | (with_reducible first | exact HB.out ) ))) : w.heap.size ≤ gb282)); have n4_ := Aside0.mk ((by rw [hg]; exact (below_size (by repeat (first | (with_reducible first | exact HB.out ) ))) : w.heap.size ≤ gb282)); have n5_ := Aside0.mk ((by rw [hg]; exact Nat.ne_of_lt (blk_lt (g := gb280) (o := .cells #[.int .i64 a0_0, .slice (some ad281) l0_1.length c0_1] 32 (0, 0)) (by (with_reducible repeat (fail)); exact BK280.out)) : gb280 ≠ gb282)); have n6_ := Aside0.mk ((by rw [hg]; exact Nat.ne_of_gt (blk_lt (g := gb280) (o := .cells #[.int .i64 a0_0, .slice (some ad281) l0_1.length c0_1] 32 (0, 0)) (by (with_reducible repeat (fail)); exact BK280.out)) : gb282 ≠ gb280)); clear BK280; clear HB; have BK280 := n0_; have HB := n1_; have BK282 := n2_; have GW282 := n3_; have GE282 := n4_; have NB280_282 := n5_; have NB282_280 := n6_; clear n0_ n1_ n2_ n3_ n4_ n5_ n6_; clear hb hbox hg; have hnb22 := NB282_280.out; have hnc22 := NB280_282.out; have hcz23_0 : w21.cell? ⟨gb282, 0, none⟩ = some (.int .i64 0) := (blk_cell BK282.out 0).trans rfl; have hcz23_1 : w21.cell? ⟨gb282, 1, none⟩ = some (.int .i64 0) := (blk_cell BK282.out 1).trans rfl; have hcz23_2 : w21.cell? ⟨gb282, 2, none⟩ = some (.bool false) := (blk_cell BK282.out 2).trans rfl; have hfz23_0 := blk_frozen BK282.out 0; have hfz23_1 := blk_frozen BK282.out 1; have hfz23_2 := blk_frozen BK282.out 2; have hcz24_0 : w21.cell? ⟨gb280, 0, none⟩ = some (.int .i64 a0_0) := (blk_cell BK280.out 0).trans rfl; have hcz24_1 : w21.cell? ⟨gb280, 1, none⟩ = some (.slice (some ad281) l0_1.length c0_1) := (blk_cell BK280.out 1).trans rfl; have hfz24_0 := blk_frozen BK280.out 0; have hfz24_1 := blk_frozen BK280.out 1; have p283 : 0 ≤ ((ji16) : Int) := of_decide_eq_true (by first | (with_reducible assumption) ); have q283 : (ji16) < (l0_1.length : Int) := of_decide_eq_true (by first | (with_reducible assumption) ); obtain ⟨ad283, e283, hx283_0, hx283_1, hx283_2⟩ := at_T62 HR0_1.out (ji16) p283 q283; obtain rfl : ad281 = ad283 := (by injection e283); have hn283_0 : ad281.block ≠ gb282 := Nat.ne_of_lt (Nat.lt_of_lt_of_le (by have := World.block_lt_of_cell? _ _ hx283_0; first | rwa [add_block] at this ) GW282.out); have hn283_1 : ad281.block ≠ gb282 := Nat.ne_of_lt (Nat.lt_of_lt_of_le (by have := World.block_lt_of_cell? _ _ hx283_0; first | rwa [add_block] at this ) GW282.out); have hn283_2 : ad281.block ≠ gb282 := Nat.ne_of_lt (Nat.lt_of_lt_of_le (by have := World.block_lt_of_cell? _ _ hx283_0; first | rwa [add_block] at this ) GW282.out); replace hx283_0 := (HB.out.cell (World.block_lt_of_cell? w _ hx283_0)).trans hx283_0; replace hx283_1 := (HB.out.cell (World.block_lt_of_cell? w _ hx283_1)).trans hx283_1; replace hx283_2 := (HB.out.cell (World.block_lt_of_cell? w _ hx283_2)).trans hx283_2; replace hx283_0 := (cell_far (p := ⟨gb282, 0, none⟩) (by first | (rw [add_block]; exact hn283_0) ) (.int .i64 ((rd_T62 l0_1 x3_1).f0))).trans hx283_0; replace hx283_1 := (cell_far (p := ⟨gb282, 0, none⟩) (by first | (rw [add_block]; exact hn283_0) ) (.int .i64 ((rd_T62 l0_1 x3_1).f0))).trans hx283_1; replace hx283_2 := (cell_far (p := ⟨gb282, 0, none⟩) (by first | (rw [add_block]; exact hn283_0) ) (.int .i64 ((rd_T62 l0_1 x3_1).f0))).trans hx283_2; replace hx283_0 := (cell_far (p := ⟨gb282, 1, none⟩) (by first | (rw [add_block]; exact hn283_1) ) (.int .i64 ((rd_T62 l0_1 x3_1).f1))).trans hx283_0; replace hx283_1 := (cell_far (p := ⟨gb282, 1, none⟩) (by first | (rw [add_block]; exact hn283_1) ) (.int .i64 ((rd_T62 l0_1 x3_1).f1))).trans hx283_1; replace hx283_2 := (cell_far (p := ⟨gb282, 1, none⟩) (by first | (rw [add_block]; exact hn283_1) ) (.int .i64 ((rd_T62 l0_1 x3_1).f1))).trans hx283_2; replace hx283_0 := (cell_far (p := ⟨gb282, 2, none⟩) (by first | (rw [add_block]; exact hn283_2) ) (.bool ((rd_T62 l0_1 x3_1).f2))).trans hx283_0; replace hx283_1 := (cell_far (p := ⟨gb282, 2, none⟩) (by first | (rw [add_block]; exact hn283_2) ) (.bool ((rd_T62 l0_1 x3_1).f2))).trans hx283_1; replace hx283_2 := (cell_far (p := ⟨gb282, 2, none⟩) (by first | (rw [add_block]; exact hn283_2) ) (.bool ((rd_T62 l0_1 x3_1).f2))).trans hx283_2; (try have hy283_0 := fun (n_ : Nat) => (show (((((w21.drewN n_).setCell ⟨gb282, 0, none⟩ (.int .i64 ((rd_T62 l0_1 x3_1).f0))).setCell ⟨gb282, 1, none⟩ (.int .i64 ((rd_T62 l0_1 x3_1).f1))).setCell ⟨gb282, 2, none⟩ (.bool ((rd_T62 l0_1 x3_1).f2)))).cell? _ = some _ from hx283_0)); (try have hy283_1 := fun (n_ : Nat) => (show (((((w21.drewN n_).setCell ⟨gb282, 0, none⟩ (.int .i64 ((rd_T62 l0_1 x3_1).f0))).setCell ⟨gb282, 1, none⟩ (.int .i64 ((rd_T62 l0_1 x3_1).f1))).setCell ⟨gb282, 2, none⟩ (.bool ((rd_T62 l0_1 x3_1).f2)))).cell? _ = some _ from hx283_1)); (try have hy283_2 := fun (n_ : Nat) => (show (((((w21.drewN n_).setCell ⟨gb282, 0, none⟩ (.int .i64 ((rd_T62 l0_1 x3_1).f0))).setCell ⟨gb282, 1, none⟩ (.int .i64 ((rd_T62 l0_1 x3_1).f1))).setCell ⟨gb282, 2, none⟩ (.bool ((rd_T62 l0_1 x3_1).f2)))).cell? _ = some _ from hx283_2)); clear hn283_0; clear hn283_1; clear hn283_2; replace p283 := eq_true p283; replace q283 := eq_true q283))
           repeat (go_quiet (fail); try go_wp2)
           go_ret
           exact ⟨by first | rfl , by repeat (first | (with_reducible first | exact HB.out | apply pw_below_drewN | refine below_set ?_ GE282.out) )⟩
          ·rw [if_neg c19] at H
           have c19b0 : decide (((rd_T62 l0_1 x3_1).f0) ≤ ((rd_T62 l0_1 (ji16)).f0)) = false := decide_eq_false c19
           clear c19
           by_cases c25 : ((rd_T62 l0_1 x3_1).f1) < 1
           ·rw [if_pos c25] at H
            have c25b0 : decide (((rd_T62 l0_1 x3_1).f1) < 1) = true := decide_eq_true c25
            clear c25
            obtain rfl := Option.some.inj H
            have hcz26_0 : wr.cell? ⟨gb280, 0, none⟩ = some (.int .i64 a0_0) := (blk_cell BK280.out 0).trans rfl
            have hcz26_1 : wr.cell? ⟨gb280, 1, none⟩ = some (.slice A0_1 l0_1.length c0_1) := (blk_cell BK280.out 1).trans rfl
            have hfz26_0 := blk_frozen BK280.out 0
            have hfz26_1 := blk_frozen BK280.out 1
            have p281 : 0 ≤ (x3_1 : Int) := of_decide_eq_true (by first | (with_reducible assumption) )
            have q281 : x3_1 < (l0_1.length : Int) := of_decide_eq_true (by first | (with_reducible assumption) )
            obtain ⟨ad281, e281, hx281_0, hx281_1, hx281_2⟩ := at_T62 HR0_1.out x3_1 p281 q281
            cases e281
            replace hx281_0 := (HB.out.cell (World.block_lt_of_cell? w _ hx281_0)).trans hx281_0
            replace hx281_1 := (HB.out.cell (World.block_lt_of_cell? w _ hx281_1)).trans hx281_1
            replace hx281_2 := (HB.out.cell (World.block_lt_of_cell? w _ hx281_2)).trans hx281_2
            replace p281 := eq_true p281
            replace q281 := eq_true q281
            go_wp2_with (first | ((with_reducible refine gate_dst (N := 4) rfl ?_); refine box_event ?hg (N := 4) ?hd (cs := #[.int .i64 0, .int .i64 0, .bool false]) (t := 62) ?hr ?_; (case hd => rfl); (case hg => rfl); (case hr => first | (go_simp; done) ); intro gb282 hg w27 hbox hb; have n0_ := Aside0.mk (blk_below (g := gb280) (o := .cells #[.int .i64 a0_0, .slice (some ad281) l0_1.length c0_1] 32 (0, 0)) (by (with_reducible repeat (fail)); exact BK280.out) hb); have n1_ := Aside0.mk (below_step (by repeat (first | (with_reducible first | exact HB.out ) )) hb); have n2_ := Aside0.mk (hbox); have n3_ := Aside0.mk ((by rw [hg]; exact (below_size (by repeat (first | (with_reducible first | exact HB.out ) ))) : w.heap.size ≤ gb282)); have n4_ := Aside0.mk ((by rw [hg]; exact (below_size (by repeat (first | (with_reducible first | exact HB.out ) ))) : w.heap.size ≤ gb282)); have n5_ := Aside0.mk ((by rw [hg]; exact Nat.ne_of_lt (blk_lt (g := gb280) (o := .cells #[.int .i64 a0_0, .slice (some ad281) l0_1.length c0_1] 32 (0, 0)) (by (with_reducible repeat (fail)); exact BK280.out)) : gb280 ≠ gb282)); have n6_ := Aside0.mk ((by rw [hg]; exact Nat.ne_of_gt (blk_lt (g := gb280) (o := .cells #[.int .i64 a0_0, .slice (some ad281) l0_1.length c0_1] 32 (0, 0)) (by (with_reducible repeat (fail)); exact BK280.out)) : gb282 ≠ gb280)); clear BK280; clear HB; have BK280 := n0_; have HB := n1_; have BK282 := n2_; have GW282 := n3_; have GE282 := n4_; have NB280_282 := n5_; have NB282_280 := n6_; clear n0_ n1_ n2_ n3_ n4_ n5_ n6_; clear hb hbox hg; have hnb28 := NB282_280.out; have hnc28 := NB280_282.out; have hcz29_0 : w27.cell? ⟨gb282, 0, none⟩ = some (.int .i64 0) := (blk_cell BK282.out 0).trans rfl; have hcz29_1 : w27.cell? ⟨gb282, 1, none⟩ = some (.int .i64 0) := (blk_cell BK282.out 1).trans rfl; have hcz29_2 : w27.cell? ⟨gb282, 2, none⟩ = some (.bool false) := (blk_cell BK282.out 2).trans rfl; have hfz29_0 := blk_frozen BK282.out 0; have hfz29_1 := blk_frozen BK282.out 1; have hfz29_2 := blk_frozen BK282.out 2; have hcz30_0 : w27.cell? ⟨gb280, 0, none⟩ = some (.int .i64 a0_0) := (blk_cell BK280.out 0).trans rfl; have hcz30_1 : w27.cell? ⟨gb280, 1, none⟩ = some (.slice (some ad281) l0_1.length c0_1) := (blk_cell BK280.out 1).trans rfl; have hfz30_0 := blk_frozen BK280.out 0; have hfz30_1 := blk_frozen BK280.out 1; have p283 : 0 ≤ ((ji16) : Int) := of_decide_eq_true (by first | (with_reducible assumption) ); have q283 : (ji16) < (l0_1.length : Int) := of_decide_eq_true (by first | (with_reducible assumption) ); obtain ⟨ad283, e283, hx283_0, hx283_1, hx283_2⟩ := at_T62 HR0_1.out (ji16) p283 q283; obtain rfl : ad281 = ad283 := (by injection e283); have hn283_0 : ad281.block ≠ gb282 := Nat.ne_of_lt (Nat.lt_of_lt_of_le (by have := World.block_lt_of_cell? _ _ hx283_0; first | rwa [add_block] at this ) GW282.out); have hn283_1 : ad281.block ≠ gb282 := Nat.ne_of_lt (Nat.lt_of_lt_of_le (by have := World.block_lt_of_cell? _ _ hx283_0; first | rwa [add_block] at this ) GW282.out); have hn283_2 : ad281.block ≠ gb282 := Nat.ne_of_lt (Nat.lt_of_lt_of_le (by have := World.block_lt_of_cell? _ _ hx283_0; first | rwa [add_block] at this ) GW282.out); replace hx283_0 := (HB.out.cell (World.block_lt_of_cell? w _ hx283_0)).trans hx283_0; replace hx283_1 := (HB.out.cell (World.block_lt_of_cell? w _ hx283_1)).trans hx283_1; replace hx283_2 := (HB.out.cell (World.block_lt_of_cell? w _ hx283_2)).trans hx283_2; replace hx283_0 := (cell_far (p := ⟨gb282, 0, none⟩) (by first | (rw [add_block]; exact hn283_0) ) (.int .i64 ((rd_T62 l0_1 x3_1).f0))).trans hx283_0; replace hx283_1 := (cell_far (p := ⟨gb282, 0, none⟩) (by first | (rw [add_block]; exact hn283_0) ) (.int .i64 ((rd_T62 l0_1 x3_1).f0))).trans hx283_1; replace hx283_2 := (cell_far (p := ⟨gb282, 0, none⟩) (by first | (rw [add_block]; exact hn283_0) ) (.int .i64 ((rd_T62 l0_1 x3_1).f0))).trans hx283_2; replace hx283_0 := (cell_far (p := ⟨gb282, 1, none⟩) (by first | (rw [add_block]; exact hn283_1) ) (.int .i64 ((rd_T62 l0_1 x3_1).f1))).trans hx283_0; replace hx283_1 := (cell_far (p := ⟨gb282, 1, none⟩) (by first | (rw [add_block]; exact hn283_1) ) (.int .i64 ((rd_T62 l0_1 x3_1).f1))).trans hx283_1; replace hx283_2 := (cell_far (p := ⟨gb282, 1, none⟩) (by first | (rw [add_block]; exact hn283_1) ) (.int .i64 ((rd_T62 l0_1 x3_1).f1))).trans hx283_2; replace hx283_0 := (cell_far (p := ⟨gb282, 2, none⟩) (by first | (rw [add_block]; exact hn283_2) ) (.bool ((rd_T62 l0_1 x3_1).f2))).trans hx283_0; replace hx283_1 := (cell_far (p := ⟨gb282, 2, none⟩) (by first | (rw [add_block]; exact hn283_2) ) (.bool ((rd_T62 l0_1 x3_1).f2))).trans hx283_1; replace hx283_2 := (cell_far (p := ⟨gb282, 2, none⟩) (by first | (rw [add_block]; exact hn283_2) ) (.bool ((rd_T62 l0_1 x3_1).f2))).trans hx283_2; (try have hy283_0 := fun (n_ : Nat) => (show (((((w27.drewN n_).setCell ⟨gb282, 0, none⟩ (.int .i64 ((rd_T62 l0_1 x3_1).f0))).setCell ⟨gb282, 1, none⟩ (.int .i64 ((rd_T62 l0_1 x3_1).f1))).setCell ⟨gb282, 2, none⟩ (.bool ((rd_T62 l0_1 x3_1).f2)))).cell? _ = some _ from hx283_0)); (try have hy283_1 := fun (n_ : Nat) => (show (((((w27.drewN n_).setCell ⟨gb282, 0, none⟩ (.int .i64 ((rd_T62 l0_1 x3_1).f0))).setCell ⟨gb282, 1, none⟩ (.int .i64 ((rd_T62 l0_1 x3_1).f1))).setCell ⟨gb282, 2, none⟩ (.bool ((rd_T62 l0_1 x3_1).f2)))).cell? _ = some _ from hx283_1)); (try have hy283_2 := fun (n_ : Nat) => (show (((((w27.drewN n_).setCell ⟨gb282, 0, none⟩ (.int .i64 ((rd_T62 l0_1 x3_1).f0))).setCell ⟨gb282, 1, none⟩ (.int .i64 ((rd_T62 l0_1 x3_1).f1))).setCell ⟨gb282, 2, none⟩ (.bool ((rd_T62 l0_1 x3_1).f2)))).cell? _ = some _ from hx283_2)); clear hn283_0; clear hn283_1; clear hn283_2; replace p283 := eq_true p283; replace q283 := eq_true q283))
            repeat (go_quiet (fail); try go_wp2)
            go_ret
            exact ⟨by first | rfl , by repeat (first | (with_reducible first | exact HB.out | apply pw_below_drewN | refine below_set ?_ GE282.out) )⟩
           ·rw [if_neg c25] at H
            have c25b0 : decide (((rd_T62 l0_1 x3_1).f1) < 1) = false := decide_eq_false c25
            clear c25
            by_cases c31 : ((rd_T62 l0_1 x3_1).f1) > 1099511627775
            ·rw [if_pos c31] at H
             have c31b0 : decide (1099511627775 < ((rd_T62 l0_1 x3_1).f1)) = true := decide_eq_true c31
             clear c31
             obtain rfl := Option.some.inj H
             have hcz32_0 : wr.cell? ⟨gb280, 0, none⟩ = some (.int .i64 a0_0) := (blk_cell BK280.out 0).trans rfl
             have hcz32_1 : wr.cell? ⟨gb280, 1, none⟩ = some (.slice A0_1 l0_1.length c0_1) := (blk_cell BK280.out 1).trans rfl
             have hfz32_0 := blk_frozen BK280.out 0
             have hfz32_1 := blk_frozen BK280.out 1
             have p281 : 0 ≤ (x3_1 : Int) := of_decide_eq_true (by first | (with_reducible assumption) )
             have q281 : x3_1 < (l0_1.length : Int) := of_decide_eq_true (by first | (with_reducible assumption) )
             obtain ⟨ad281, e281, hx281_0, hx281_1, hx281_2⟩ := at_T62 HR0_1.out x3_1 p281 q281
             cases e281
             replace hx281_0 := (HB.out.cell (World.block_lt_of_cell? w _ hx281_0)).trans hx281_0
             replace hx281_1 := (HB.out.cell (World.block_lt_of_cell? w _ hx281_1)).trans hx281_1
             replace hx281_2 := (HB.out.cell (World.block_lt_of_cell? w _ hx281_2)).trans hx281_2
             replace p281 := eq_true p281
             replace q281 := eq_true q281
             go_wp2_with (first | ((with_reducible refine gate_dst (N := 4) rfl ?_); refine box_event ?hg (N := 4) ?hd (cs := #[.int .i64 0, .int .i64 0, .bool false]) (t := 62) ?hr ?_; (case hd => rfl); (case hg => rfl); (case hr => first | (go_simp; done) ); intro gb282 hg w33 hbox hb; have n0_ := Aside0.mk (blk_below (g := gb280) (o := .cells #[.int .i64 a0_0, .slice (some ad281) l0_1.length c0_1] 32 (0, 0)) (by (with_reducible repeat (fail)); exact BK280.out) hb); have n1_ := Aside0.mk (below_step (by repeat (first | (with_reducible first | exact HB.out ) )) hb); have n2_ := Aside0.mk (hbox); have n3_ := Aside0.mk ((by rw [hg]; exact (below_size (by repeat (first | (with_reducible first | exact HB.out ) ))) : w.heap.size ≤ gb282)); have n4_ := Aside0.mk ((by rw [hg]; exact (below_size (by repeat (first | (with_reducible first | exact HB.out ) ))) : w.heap.size ≤ gb282)); have n5_ := Aside0.mk ((by rw [hg]; exact Nat.ne_of_lt (blk_lt (g := gb280) (o := .cells #[.int .i64 a0_0, .slice (some ad281) l0_1.length c0_1] 32 (0, 0)) (by (with_reducible repeat (fail)); exact BK280.out)) : gb280 ≠ gb282)); have n6_ := Aside0.mk ((by rw [hg]; exact Nat.ne_of_gt (blk_lt (g := gb280) (o := .cells #[.int .i64 a0_0, .slice (some ad281) l0_1.length c0_1] 32 (0, 0)) (by (with_reducible repeat (fail)); exact BK280.out)) : gb282 ≠ gb280)); clear BK280; clear HB; have BK280 := n0_; have HB := n1_; have BK282 := n2_; have GW282 := n3_; have GE282 := n4_; have NB280_282 := n5_; have NB282_280 := n6_; clear n0_ n1_ n2_ n3_ n4_ n5_ n6_; clear hb hbox hg; have hnb34 := NB282_280.out; have hnc34 := NB280_282.out; have hcz35_0 : w33.cell? ⟨gb282, 0, none⟩ = some (.int .i64 0) := (blk_cell BK282.out 0).trans rfl; have hcz35_1 : w33.cell? ⟨gb282, 1, none⟩ = some (.int .i64 0) := (blk_cell BK282.out 1).trans rfl; have hcz35_2 : w33.cell? ⟨gb282, 2, none⟩ = some (.bool false) := (blk_cell BK282.out 2).trans rfl; have hfz35_0 := blk_frozen BK282.out 0; have hfz35_1 := blk_frozen BK282.out 1; have hfz35_2 := blk_frozen BK282.out 2; have hcz36_0 : w33.cell? ⟨gb280, 0, none⟩ = some (.int .i64 a0_0) := (blk_cell BK280.out 0).trans rfl; have hcz36_1 : w33.cell? ⟨gb280, 1, none⟩ = some (.slice (some ad281) l0_1.length c0_1) := (blk_cell BK280.out 1).trans rfl; have hfz36_0 := blk_frozen BK280.out 0; have hfz36_1 := blk_frozen BK280.out 1; have p283 : 0 ≤ ((ji16) : Int) := of_decide_eq_true (by first | (with_reducible assumption) ); have q283 : (ji16) < (l0_1.length : Int) := of_decide_eq_true (by first | (with_reducible assumption) ); obtain ⟨ad283, e283, hx283_0, hx283_1, hx283_2⟩ := at_T62 HR0_1.out (ji16) p283 q283; obtain rfl : ad281 = ad283 := (by injection e283); have hn283_0 : ad281.block ≠ gb282 := Nat.ne_of_lt (Nat.lt_of_lt_of_le (by have := World.block_lt_of_cell? _ _ hx283_0; first | rwa [add_block] at this ) GW282.out); have hn283_1 : ad281.block ≠ gb282 := Nat.ne_of_lt (Nat.lt_of_lt_of_le (by have := World.block_lt_of_cell? _ _ hx283_0; first | rwa [add_block] at this ) GW282.out); have hn283_2 : ad281.block ≠ gb282 := Nat.ne_of_lt (Nat.lt_of_lt_of_le (by have := World.block_lt_of_cell? _ _ hx283_0; first | rwa [add_block] at this ) GW282.out); replace hx283_0 := (HB.out.cell (World.block_lt_of_cell? w _ hx283_0)).trans hx283_0; replace hx283_1 := (HB.out.cell (World.block_lt_of_cell? w _ hx283_1)).trans hx283_1; replace hx283_2 := (HB.out.cell (World.block_lt_of_cell? w _ hx283_2)).trans hx283_2; replace hx283_0 := (cell_far (p := ⟨gb282, 0, none⟩) (by first | (rw [add_block]; exact hn283_0) ) (.int .i64 ((rd_T62 l0_1 x3_1).f0))).trans hx283_0; replace hx283_1 := (cell_far (p := ⟨gb282, 0, none⟩) (by first | (rw [add_block]; exact hn283_0) ) (.int .i64 ((rd_T62 l0_1 x3_1).f0))).trans hx283_1; replace hx283_2 := (cell_far (p := ⟨gb282, 0, none⟩) (by first | (rw [add_block]; exact hn283_0) ) (.int .i64 ((rd_T62 l0_1 x3_1).f0))).trans hx283_2; replace hx283_0 := (cell_far (p := ⟨gb282, 1, none⟩) (by first | (rw [add_block]; exact hn283_1) ) (.int .i64 ((rd_T62 l0_1 x3_1).f1))).trans hx283_0; replace hx283_1 := (cell_far (p := ⟨gb282, 1, none⟩) (by first | (rw [add_block]; exact hn283_1) ) (.int .i64 ((rd_T62 l0_1 x3_1).f1))).trans hx283_1; replace hx283_2 := (cell_far (p := ⟨gb282, 1, none⟩) (by first | (rw [add_block]; exact hn283_1) ) (.int .i64 ((rd_T62 l0_1 x3_1).f1))).trans hx283_2; replace hx283_0 := (cell_far (p := ⟨gb282, 2, none⟩) (by first | (rw [add_block]; exact hn283_2) ) (.bool ((rd_T62 l0_1 x3_1).f2))).trans hx283_0; replace hx283_1 := (cell_far (p := ⟨gb282, 2, none⟩) (by first | (rw [add_block]; exact hn283_2) ) (.bool ((rd_T62 l0_1 x3_1).f2))).trans hx283_1; replace hx283_2 := (cell_far (p := ⟨gb282, 2, none⟩) (by first | (rw [add_block]; exact hn283_2) ) (.bool ((rd_T62 l0_1 x3_1).f2))).trans hx283_2; (try have hy283_0 := fun (n_ : Nat) => (show (((((w33.drewN n_).setCell ⟨gb282, 0, none⟩ (.int .i64 ((rd_T62 l0_1 x3_1).f0))).setCell ⟨gb282, 1, none⟩ (.int .i64 ((rd_T62 l0_1 x3_1).f1))).setCell ⟨gb282, 2, none⟩ (.bool ((rd_T62 l0_1 x3_1).f2)))).cell? _ = some _ from hx283_0)); (try have hy283_1 := fun (n_ : Nat) => (show (((((w33.drewN n_).setCell ⟨gb282, 0, none⟩ (.int .i64 ((rd_T62 l0_1 x3_1).f0))).setCell ⟨gb282, 1, none⟩ (.int .i64 ((rd_T62 l0_1 x3_1).f1))).setCell ⟨gb282, 2, none⟩ (.bool ((rd_T62 l0_1 x3_1).f2)))).cell? _ = some _ from hx283_1)); (try have hy283_2 := fun (n_ : Nat) => (show (((((w33.drewN n_).setCell ⟨gb282, 0, none⟩ (.int .i64 ((rd_T62 l0_1 x3_1).f0))).setCell ⟨gb282, 1, none⟩ (.int .i64 ((rd_T62 l0_1 x3_1).f1))).setCell ⟨gb282, 2, none⟩ (.bool ((rd_T62 l0_1 x3_1).f2)))).cell? _ = some _ from hx283_2)); clear hn283_0; clear hn283_1; clear hn283_2; replace p283 := eq_true p283; replace q283 := eq_true q283))
             repeat (go_quiet (fail); try go_wp2)
             go_ret
             exact ⟨by first | rfl , by repeat (first | (with_reducible first | exact HB.out | apply pw_below_drewN | refine below_set ?_ GE282.out) )⟩
            ·rw [if_neg c31] at H
             have c31b0 : decide (1099511627775 < ((rd_T62 l0_1 x3_1).f1)) = false := decide_eq_false c31
             clear c31
             have H' := Aside0.mk H
             clear H
             have hcz37_0 : wr.cell? ⟨gb280, 0, none⟩ = some (.int .i64 a0_0) := (blk_cell BK280.out 0).trans rfl
             have hcz37_1 : wr.cell? ⟨gb280, 1, none⟩ = some (.slice A0_1 l0_1.length c0_1) := (blk_cell BK280.out 1).trans rfl
             have hfz37_0 := blk_frozen BK280.out 0
             have hfz37_1 := blk_frozen BK280.out 1
             have p281 : 0 ≤ (x3_1 : Int) := of_decide_eq_true (by first | (with_reducible assumption) )
             have q281 : x3_1 < (l0_1.length : Int) := of_decide_eq_true (by first | (with_reducible assumption) )
             obtain ⟨ad281, e281, hx281_0, hx281_1, hx281_2⟩ := at_T62 HR0_1.out x3_1 p281 q281
             cases e281
             replace hx281_0 := (HB.out.cell (World.block_lt_of_cell? w _ hx281_0)).trans hx281_0
             replace hx281_1 := (HB.out.cell (World.block_lt_of_cell? w _ hx281_1)).trans hx281_1
             replace hx281_2 := (HB.out.cell (World.block_lt_of_cell? w _ hx281_2)).trans hx281_2
             replace p281 := eq_true p281
             replace q281 := eq_true q281
             go_wp2_with (first | ((with_reducible refine gate_dst (N := 4) rfl ?_); refine box_event ?hg (N := 4) ?hd (cs := #[.int .i64 0, .int .i64 0, .bool false]) (t := 62) ?hr ?_; (case hd => rfl); (case hg => rfl); (case hr => first | (go_simp; done) ); intro gb282 hg w38 hbox hb; have n0_ := Aside0.mk (blk_below (g := gb280) (o := .cells #[.int .i64 a0_0, .slice (some ad281) l0_1.length c0_1] 32 (0, 0)) (by (with_reducible repeat (fail)); exact BK280.out) hb); have n1_ := Aside0.mk (below_step (by repeat (first | (with_reducible first | exact HB.out ) )) hb); have n2_ := Aside0.mk (hbox); have n3_ := Aside0.mk ((by rw [hg]; exact (below_size (by repeat (first | (with_reducible first | exact HB.out ) ))) : w.heap.size ≤ gb282)); have n4_ := Aside0.mk ((by rw [hg]; exact (below_size (by repeat (first | (with_reducible first | exact HB.out ) ))) : w.heap.size ≤ gb282)); have n5_ := Aside0.mk ((by rw [hg]; exact Nat.ne_of_lt (blk_lt (g := gb280) (o := .cells #[.int .i64 a0_0, .slice (some ad281) l0_1.length c0_1] 32 (0, 0)) (by (with_reducible repeat (fail)); exact BK280.out)) : gb280 ≠ gb282)); have n6_ := Aside0.mk ((by rw [hg]; exact Nat.ne_of_gt (blk_lt (g := gb280) (o := .cells #[.int .i64 a0_0, .slice (some ad281) l0_1.length c0_1] 32 (0, 0)) (by (with_reducible repeat (fail)); exact BK280.out)) : gb282 ≠ gb280)); clear BK280; clear HB; have BK280 := n0_; have HB := n1_; have BK282 := n2_; have GW282 := n3_; have GE282 := n4_; have NB280_282 := n5_; have NB282_280 := n6_; clear n0_ n1_ n2_ n3_ n4_ n5_ n6_; clear hb hbox hg; have hnb39 := NB282_280.out; have hnc39 := NB280_282.out; have hcz40_0 : w38.cell? ⟨gb282, 0, none⟩ = some (.int .i64 0) := (blk_cell BK282.out 0).trans rfl; have hcz40_1 : w38.cell? ⟨gb282, 1, none⟩ = some (.int .i64 0) := (blk_cell BK282.out 1).trans rfl; have hcz40_2 : w38.cell? ⟨gb282, 2, none⟩ = some (.bool false) := (blk_cell BK282.out 2).trans rfl; have hfz40_0 := blk_frozen BK282.out 0; have hfz40_1 := blk_frozen BK282.out 1; have hfz40_2 := blk_frozen BK282.out 2; have hcz41_0 : w38.cell? ⟨gb280, 0, none⟩ = some (.int .i64 a0_0) := (blk_cell BK280.out 0).trans rfl; have hcz41_1 : w38.cell? ⟨gb280, 1, none⟩ = some (.slice (some ad281) l0_1.length c0_1) := (blk_cell BK280.out 1).trans rfl; have hfz41_0 := blk_frozen BK280.out 0; have hfz41_1 := blk_frozen BK280.out 1; have p283 : 0 ≤ ((ji16) : Int) := of_decide_eq_true (by first | (with_reducible assumption) ); have q283 : (ji16) < (l0_1.length : Int) := of_decide_eq_true (by first | (with_reducible assumption) ); obtain ⟨ad283, e283, hx283_0, hx283_1, hx283_2⟩ := at_T62 HR0_1.out (ji16) p283 q283; obtain rfl : ad281 = ad283 := (by injection e283); have hn283_0 : ad281.block ≠ gb282 := Nat.ne_of_lt (Nat.lt_of_lt_of_le (by have := World.block_lt_of_cell? _ _ hx283_0; first | rwa [add_block] at this ) GW282.out); have hn283_1 : ad281.block ≠ gb282 := Nat.ne_of_lt (Nat.lt_of_lt_of_le (by have := World.block_lt_of_cell? _ _ hx283_0; first | rwa [add_block] at this ) GW282.out); have hn283_2 : ad281.block ≠ gb282 := Nat.ne_of_lt (Nat.lt_of_lt_of_le (by have := World.block_lt_of_cell? _ _ hx283_0; first | rwa [add_block] at this ) GW282.out); replace hx283_0 := (HB.out.cell (World.block_lt_of_cell? w _ hx283_0)).trans hx283_0; replace hx283_1 := (HB.out.cell (World.block_lt_of_cell? w _ hx283_1)).trans hx283_1; replace hx283_2 := (HB.out.cell (World.block_lt_of_cell? w _ hx283_2)).trans hx283_2; replace hx283_0 := (cell_far (p := ⟨gb282, 0, none⟩) (by first | (rw [add_block]; exact hn283_0) ) (.int .i64 ((rd_T62 l0_1 x3_1).f0))).trans hx283_0; replace hx283_1 := (cell_far (p := ⟨gb282, 0, none⟩) (by first | (rw [add_block]; exact hn283_0) ) (.int .i64 ((rd_T62 l0_1 x3_1).f0))).trans hx283_1; replace hx283_2 := (cell_far (p := ⟨gb282, 0, none⟩) (by first | (rw [add_block]; exact hn283_0) ) (.int .i64 ((rd_T62 l0_1 x3_1).f0))).trans hx283_2; replace hx283_0 := (cell_far (p := ⟨gb282, 1, none⟩) (by first | (rw [add_block]; exact hn283_1) ) (.int .i64 ((rd_T62 l0_1 x3_1).f1))).trans hx283_0; replace hx283_1 := (cell_far (p := ⟨gb282, 1, none⟩) (by first | (rw [add_block]; exact hn283_1) ) (.int .i64 ((rd_T62 l0_1 x3_1).f1))).trans hx283_1; replace hx283_2 := (cell_far (p := ⟨gb282, 1, none⟩) (by first | (rw [add_block]; exact hn283_1) ) (.int .i64 ((rd_T62 l0_1 x3_1).f1))).trans hx283_2; replace hx283_0 := (cell_far (p := ⟨gb282, 2, none⟩) (by first | (rw [add_block]; exact hn283_2) ) (.bool ((rd_T62 l0_1 x3_1).f2))).trans hx283_0; replace hx283_1 := (cell_far (p := ⟨gb282, 2, none⟩) (by first | (rw [add_block]; exact hn283_2) ) (.bool ((rd_T62 l0_1 x3_1).f2))).trans hx283_1; replace hx283_2 := (cell_far (p := ⟨gb282, 2, none⟩) (by first | (rw [add_block]; exact hn283_2) ) (.bool ((rd_T62 l0_1 x3_1).f2))).trans hx283_2; (try have hy283_0 := fun (n_ : Nat) => (show (((((w38.drewN n_).setCell ⟨gb282, 0, none⟩ (.int .i64 ((rd_T62 l0_1 x3_1).f0))).setCell ⟨gb282, 1, none⟩ (.int .i64 ((rd_T62 l0_1 x3_1).f1))).setCell ⟨gb282, 2, none⟩ (.bool ((rd_T62 l0_1 x3_1).f2)))).cell? _ = some _ from hx283_0)); (try have hy283_1 := fun (n_ : Nat) => (show (((((w38.drewN n_).setCell ⟨gb282, 0, none⟩ (.int .i64 ((rd_T62 l0_1 x3_1).f0))).setCell ⟨gb282, 1, none⟩ (.int .i64 ((rd_T62 l0_1 x3_1).f1))).setCell ⟨gb282, 2, none⟩ (.bool ((rd_T62 l0_1 x3_1).f2)))).cell? _ = some _ from hx283_1)); (try have hy283_2 := fun (n_ : Nat) => (show (((((w38.drewN n_).setCell ⟨gb282, 0, none⟩ (.int .i64 ((rd_T62 l0_1 x3_1).f0))).setCell ⟨gb282, 1, none⟩ (.int .i64 ((rd_T62 l0_1 x3_1).f1))).setCell ⟨gb282, 2, none⟩ (.bool ((rd_T62 l0_1 x3_1).f2)))).cell? _ = some _ from hx283_2)); clear hn283_0; clear hn283_1; clear hn283_2; replace p283 := eq_true p283; replace q283 := eq_true q283))
             repeat (go_quiet (fail); try go_wp2)
             go_roundg k1
             case measure => have := HK1.out; omega
             case rel => exact ⟨(wrap64 (x3_1 + 1)), (by first | rfl ), H', ⟨by have := HK1.out; omega⟩, ⟨by (with_reducible repeat (first | refine blk_drewN ?_ _ )); refine blk_far ?_ NB280_282.out _; (with_reducible repeat (fail)); refine blk_far ?_ NB280_282.out _; (with_reducible repeat (fail)); refine blk_far ?_ NB280_282.out _; (with_reducible repeat (fail)); exact BK280.out⟩, ⟨by repeat (first | (with_reducible first | exact HB.out | apply pw_below_drewN | refine below_set ?_ GE282.out) )⟩⟩
         ·rw [if_neg c18] at H
          exact absurd H (by simp)
        ·rw [if_neg c17] at H
         exact absurd H (by simp)
       ·rw [if_neg c15] at H
        have c15b0 : decide (0 < x3_1) = false := decide_eq_false c15
        clear c15
        by_cases c42 : ((rd_T62 l0_1 x3_1).f1) < 1
        ·rw [if_pos c42] at H
         have c42b0 : decide (((rd_T62 l0_1 x3_1).f1) < 1) = true := decide_eq_true c42
         clear c42
         obtain rfl := Option.some.inj H
         have hcz43_0 : wr.cell? ⟨gb280, 0, none⟩ = some (.int .i64 a0_0) := (blk_cell BK280.out 0).trans rfl
         have hcz43_1 : wr.cell? ⟨gb280, 1, none⟩ = some (.slice A0_1 l0_1.length c0_1) := (blk_cell BK280.out 1).trans rfl
         have hfz43_0 := blk_frozen BK280.out 0
         have hfz43_1 := blk_frozen BK280.out 1
         have p281 : 0 ≤ (x3_1 : Int) := of_decide_eq_true (by first | (with_reducible assumption) )
         have q281 : x3_1 < (l0_1.length : Int) := of_decide_eq_true (by first | (with_reducible assumption) )
         obtain ⟨ad281, e281, hx281_0, hx281_1, hx281_2⟩ := at_T62 HR0_1.out x3_1 p281 q281
         cases e281
         replace hx281_0 := (HB.out.cell (World.block_lt_of_cell? w _ hx281_0)).trans hx281_0
         replace hx281_1 := (HB.out.cell (World.block_lt_of_cell? w _ hx281_1)).trans hx281_1
         replace hx281_2 := (HB.out.cell (World.block_lt_of_cell? w _ hx281_2)).trans hx281_2
         replace p281 := eq_true p281
         replace q281 := eq_true q281
         go_wp2_with (first | ((with_reducible refine gate_dst (N := 4) rfl ?_); refine box_event ?hg (N := 4) ?hd (cs := #[.int .i64 0, .int .i64 0, .bool false]) (t := 62) ?hr ?_; (case hd => rfl); (case hg => rfl); (case hr => first | (go_simp; done) ); intro gb282 hg w44 hbox hb; have n0_ := Aside0.mk (blk_below (g := gb280) (o := .cells #[.int .i64 a0_0, .slice (some ad281) l0_1.length c0_1] 32 (0, 0)) (by (with_reducible repeat (fail)); exact BK280.out) hb); have n1_ := Aside0.mk (below_step (by repeat (first | (with_reducible first | exact HB.out ) )) hb); have n2_ := Aside0.mk (hbox); have n3_ := Aside0.mk ((by rw [hg]; exact (below_size (by repeat (first | (with_reducible first | exact HB.out ) ))) : w.heap.size ≤ gb282)); have n4_ := Aside0.mk ((by rw [hg]; exact (below_size (by repeat (first | (with_reducible first | exact HB.out ) ))) : w.heap.size ≤ gb282)); have n5_ := Aside0.mk ((by rw [hg]; exact Nat.ne_of_lt (blk_lt (g := gb280) (o := .cells #[.int .i64 a0_0, .slice (some ad281) l0_1.length c0_1] 32 (0, 0)) (by (with_reducible repeat (fail)); exact BK280.out)) : gb280 ≠ gb282)); have n6_ := Aside0.mk ((by rw [hg]; exact Nat.ne_of_gt (blk_lt (g := gb280) (o := .cells #[.int .i64 a0_0, .slice (some ad281) l0_1.length c0_1] 32 (0, 0)) (by (with_reducible repeat (fail)); exact BK280.out)) : gb282 ≠ gb280)); clear BK280; clear HB; have BK280 := n0_; have HB := n1_; have BK282 := n2_; have GW282 := n3_; have GE282 := n4_; have NB280_282 := n5_; have NB282_280 := n6_; clear n0_ n1_ n2_ n3_ n4_ n5_ n6_; clear hb hbox hg; have hnb45 := NB282_280.out; have hnc45 := NB280_282.out; have hcz46_0 : w44.cell? ⟨gb282, 0, none⟩ = some (.int .i64 0) := (blk_cell BK282.out 0).trans rfl; have hcz46_1 : w44.cell? ⟨gb282, 1, none⟩ = some (.int .i64 0) := (blk_cell BK282.out 1).trans rfl; have hcz46_2 : w44.cell? ⟨gb282, 2, none⟩ = some (.bool false) := (blk_cell BK282.out 2).trans rfl; have hfz46_0 := blk_frozen BK282.out 0; have hfz46_1 := blk_frozen BK282.out 1; have hfz46_2 := blk_frozen BK282.out 2))
         repeat (go_quiet (fail); try go_wp2)
         go_ret
         exact ⟨by first | rfl , by repeat (first | (with_reducible first | exact HB.out | apply pw_below_drewN | refine below_set ?_ GE282.out) )⟩
        ·rw [if_neg c42] at H
         have c42b0 : decide (((rd_T62 l0_1 x3_1).f1) < 1) = false := decide_eq_false c42
         clear c42
         by_cases c47 : ((rd_T62 l0_1 x3_1).f1) > 1099511627775
         ·rw [if_pos c47] at H
          have c47b0 : decide (1099511627775 < ((rd_T62 l0_1 x3_1).f1)) = true := decide_eq_true c47
          clear c47
          obtain rfl := Option.some.inj H
          have hcz48_0 : wr.cell? ⟨gb280, 0, none⟩ = some (.int .i64 a0_0) := (blk_cell BK280.out 0).trans rfl
          have hcz48_1 : wr.cell? ⟨gb280, 1, none⟩ = some (.slice A0_1 l0_1.length c0_1) := (blk_cell BK280.out 1).trans rfl
          have hfz48_0 := blk_frozen BK280.out 0
          have hfz48_1 := blk_frozen BK280.out 1
          have p281 : 0 ≤ (x3_1 : Int) := of_decide_eq_true (by first | (with_reducible assumption) )
          have q281 : x3_1 < (l0_1.length : Int) := of_decide_eq_true (by first | (with_reducible assumption) )
          obtain ⟨ad281, e281, hx281_0, hx281_1, hx281_2⟩ := at_T62 HR0_1.out x3_1 p281 q281
          cases e281
          replace hx281_0 := (HB.out.cell (World.block_lt_of_cell? w _ hx281_0)).trans hx281_0
          replace hx281_1 := (HB.out.cell (World.block_lt_of_cell? w _ hx281_1)).trans hx281_1
          replace hx281_2 := (HB.out.cell (World.block_lt_of_cell? w _ hx281_2)).trans hx281_2
          replace p281 := eq_true p281
          replace q281 := eq_true q281
          go_wp2_with (first | ((with_reducible refine gate_dst (N := 4) rfl ?_); refine box_event ?hg (N := 4) ?hd (cs := #[.int .i64 0, .int .i64 0, .bool false]) (t := 62) ?hr ?_; (case hd => rfl); (case hg => rfl); (case hr => first | (go_simp; done) ); intro gb282 hg w49 hbox hb; have n0_ := Aside0.mk (blk_below (g := gb280) (o := .cells #[.int .i64 a0_0, .slice (some ad281) l0_1.length c0_1] 32 (0, 0)) (by (with_reducible repeat (fail)); exact BK280.out) hb); have n1_ := Aside0.mk (below_step (by repeat (first | (with_reducible first | exact HB.out ) )) hb); have n2_ := Aside0.mk (hbox); have n3_ := Aside0.mk ((by rw [hg]; exact (below_size (by repeat (first | (with_reducible first | exact HB.out ) ))) : w.heap.size ≤ gb282)); have n4_ := Aside0.mk ((by rw [hg]; exact (below_size (by repeat (first | (with_reducible first | exact HB.out ) ))) : w.heap.size ≤ gb282)); have n5_ := Aside0.mk ((by rw [hg]; exact Nat.ne_of_lt (blk_lt (g := gb280) (o := .cells #[.int .i64 a0_0, .slice (some ad281) l0_1.length c0_1] 32 (0, 0)) (by (with_reducible repeat (fail)); exact BK280.out)) : gb280 ≠ gb282)); have n6_ := Aside0.mk ((by rw [hg]; exact Nat.ne_of_gt (blk_lt (g := gb280) (o := .cells #[.int .i64 a0_0, .slice (some ad281) l0_1.length c0_1] 32 (0, 0)) (by (with_reducible repeat (fail)); exact BK280.out)) : gb282 ≠ gb280)); clear BK280; clear HB; have BK280 := n0_; have HB := n1_; have BK282 := n2_; have GW282 := n3_; have GE282 := n4_; have NB280_282 := n5_; have NB282_280 := n6_; clear n0_ n1_ n2_ n3_ n4_ n5_ n6_; clear hb hbox hg; have hnb50 := NB282_280.out; have hnc50 := NB280_282.out; have hcz51_0 : w49.cell? ⟨gb282, 0, none⟩ = some (.int .i64 0) := (blk_cell BK282.out 0).trans rfl; have hcz51_1 : w49.cell? ⟨gb282, 1, none⟩ = some (.int .i64 0) := (blk_cell BK282.out 1).trans rfl; have hcz51_2 : w49.cell? ⟨gb282, 2, none⟩ = some (.bool false) := (blk_cell BK282.out 2).trans rfl; have hfz51_0 := blk_frozen BK282.out 0; have hfz51_1 := blk_frozen BK282.out 1; have hfz51_2 := blk_frozen BK282.out 2))
          repeat (go_quiet (fail); try go_wp2)
          go_ret
          exact ⟨by first | rfl , by repeat (first | (with_reducible first | exact HB.out | apply pw_below_drewN | refine below_set ?_ GE282.out) )⟩
         ·rw [if_neg c47] at H
          have c47b0 : decide (1099511627775 < ((rd_T62 l0_1 x3_1).f1)) = false := decide_eq_false c47
          clear c47
          have H' := Aside0.mk H
          clear H
          have hcz52_0 : wr.cell? ⟨gb280, 0, none⟩ = some (.int .i64 a0_0) := (blk_cell BK280.out 0).trans rfl
          have hcz52_1 : wr.cell? ⟨gb280, 1, none⟩ = some (.slice A0_1 l0_1.length c0_1) := (blk_cell BK280.out 1).trans rfl
          have hfz52_0 := blk_frozen BK280.out 0
          have hfz52_1 := blk_frozen BK280.out 1
          have p281 : 0 ≤ (x3_1 : Int) := of_decide_eq_true (by first | (with_reducible assumption) )
          have q281 : x3_1 < (l0_1.length : Int) := of_decide_eq_true (by first | (with_reducible assumption) )
          obtain ⟨ad281, e281, hx281_0, hx281_1, hx281_2⟩ := at_T62 HR0_1.out x3_1 p281 q281
          cases e281
          replace hx281_0 := (HB.out.cell (World.block_lt_of_cell? w _ hx281_0)).trans hx281_0
          replace hx281_1 := (HB.out.cell (World.block_lt_of_cell? w _ hx281_1)).trans hx281_1
          replace hx281_2 := (HB.out.cell (World.block_lt_of_cell? w _ hx281_2)).trans hx281_2
          replace p281 := eq_true p281
          replace q281 := eq_true q281
          go_wp2_with (first | ((with_reducible refine gate_dst (N := 4) rfl ?_); refine box_event ?hg (N := 4) ?hd (cs := #[.int .i64 0, .int .i64 0, .bool false]) (t := 62) ?hr ?_; (case hd => rfl); (case hg => rfl); (case hr => first | (go_simp; done) ); intro gb282 hg w53 hbox hb; have n0_ := Aside0.mk (blk_below (g := gb280) (o := .cells #[.int .i64 a0_0, .slice (some ad281) l0_1.length c0_1] 32 (0, 0)) (by (with_reducible repeat (fail)); exact BK280.out) hb); have n1_ := Aside0.mk (below_step (by repeat (first | (with_reducible first | exact HB.out ) )) hb); have n2_ := Aside0.mk (hbox); have n3_ := Aside0.mk ((by rw [hg]; exact (below_size (by repeat (first | (with_reducible first | exact HB.out ) ))) : w.heap.size ≤ gb282)); have n4_ := Aside0.mk ((by rw [hg]; exact (below_size (by repeat (first | (with_reducible first | exact HB.out ) ))) : w.heap.size ≤ gb282)); have n5_ := Aside0.mk ((by rw [hg]; exact Nat.ne_of_lt (blk_lt (g := gb280) (o := .cells #[.int .i64 a0_0, .slice (some ad281) l0_1.length c0_1] 32 (0, 0)) (by (with_reducible repeat (fail)); exact BK280.out)) : gb280 ≠ gb282)); have n6_ := Aside0.mk ((by rw [hg]; exact Nat.ne_of_gt (blk_lt (g := gb280) (o := .cells #[.int .i64 a0_0, .slice (some ad281) l0_1.length c0_1] 32 (0, 0)) (by (with_reducible repeat (fail)); exact BK280.out)) : gb282 ≠ gb280)); clear BK280; clear HB; have BK280 := n0_; have HB := n1_; have BK282 := n2_; have GW282 := n3_; have GE282 := n4_; have NB280_282 := n5_; have NB282_280 := n6_; clear n0_ n1_ n2_ n3_ n4_ n5_ n6_; clear hb hbox hg; have hnb54 := NB282_280.out; have hnc54 := NB280_282.out; have hcz55_0 : w53.cell? ⟨gb282, 0, none⟩ = some (.int .i64 0) := (blk_cell BK282.out 0).trans rfl; have hcz55_1 : w53.cell? ⟨gb282, 1, none⟩ = some (.int .i64 0) := (blk_cell BK282.out 1).trans rfl; have hcz55_2 : w53.cell? ⟨gb282, 2, none⟩ = some (.bool false) := (blk_cell BK282.out 2).trans rfl; have hfz55_0 := blk_frozen BK282.out 0; have hfz55_1 := blk_frozen BK282.out 1; have hfz55_2 := blk_frozen BK282.out 2))
          repeat (go_quiet (fail); try go_wp2)
          go_roundg k1
          case measure => have := HK1.out; omega
          case rel => exact ⟨(wrap64 (x3_1 + 1)), (by first | rfl ), H', ⟨by have := HK1.out; omega⟩, ⟨by (with_reducible repeat (first | refine blk_drewN ?_ _ )); refine blk_far ?_ NB280_282.out _; (with_reducible repeat (fail)); refine blk_far ?_ NB280_282.out _; (with_reducible repeat (fail)); refine blk_far ?_ NB280_282.out _; (with_reducible repeat (fail)); exact BK280.out⟩, ⟨by repeat (first | (with_reducible first | exact HB.out | apply pw_below_drewN | refine below_set ?_ GE282.out) )⟩⟩
    ·rw [if_neg c4] at H
     exact absurd H (by simp)
   ·rw [if_neg c3] at H
    have c3b0 : decide (x3_1 < (l0_1.length : Int)) = false := decide_eq_false c3
    clear c3
    by_cases c56 : (l0_1.length : Int) > 0
    ·rw [if_pos c56] at H
     have c56b0 : decide (0 < (l0_1.length : Int)) = true := decide_eq_true c56
     have c56b1 : decide (0 < l0_1.length) = true := decide_eq_true (by omega)
     clear c56
     by_cases c57 : a0_0 ≥ 1
     ·rw [if_pos c57] at H
      have c57b0 : decide (1 ≤ a0_0) = true := decide_eq_true c57
      clear c57
      obtain rfl := Option.some.inj H
      have hcz58_0 : wr.cell? ⟨gb280, 0, none⟩ = some (.int .i64 a0_0) := (blk_cell BK280.out 0).trans rfl
      have hcz58_1 : wr.cell? ⟨gb280, 1, none⟩ = some (.slice A0_1 l0_1.length c0_1) := (blk_cell BK280.out 1).trans rfl
      have hfz58_0 := blk_frozen BK280.out 0
      have hfz58_1 := blk_frozen BK280.out 1
      go_wp2
      go_ret
      exact ⟨by first | rfl , by repeat (first | (with_reducible first | exact HB.out ) )⟩
     ·rw [if_neg c57] at H
      have c57b0 : decide (1 ≤ a0_0) = false := decide_eq_false c57
      clear c57
      obtain rfl := Option.some.inj H
      have hcz59_0 : wr.cell? ⟨gb280, 0, none⟩ = some (.int .i64 a0_0) := (blk_cell BK280.out 0).trans rfl
      have hcz59_1 : wr.cell? ⟨gb280, 1, none⟩ = some (.slice A0_1 l0_1.length c0_1) := (blk_cell BK280.out 1).trans rfl
      have hfz59_0 := blk_frozen BK280.out 0
      have hfz59_1 := blk_frozen BK280.out 1
      go_wp2
      go_ret
      exact ⟨by first | rfl , by repeat (first | (with_reducible first | exact HB.out ) )⟩
    ·rw [if_neg c56] at H
     have c56b0 : decide (0 < (l0_1.length : Int)) = false := decide_eq_false c56
     have c56b1 : decide (0 < l0_1.length) = false := decide_eq_false (by omega)
     clear c56
     obtain rfl := Option.some.inj H
     have hcz60_0 : wr.cell? ⟨gb280, 0, none⟩ = some (.int .i64 a0_0) := (blk_cell BK280.out 0).trans rfl
     have hcz60_1 : wr.cell? ⟨gb280, 1, none⟩ = some (.slice A0_1 l0_1.length c0_1) := (blk_cell BK280.out 1).trans rfl
     have hfz60_0 := blk_frozen BK280.out 0
     have hfz60_1 := blk_frozen BK280.out 1
     go_wp2
     go_ret
     exact ⟨by first | rfl , by repeat (first | (with_reducible first | exact HB.out ) )⟩

/-! ### caduceusref01_Size: function 58 -/
def caduceusref01_Size.j0 : Nat → Int → Bool → Option (Int)
 | 0, _, _ => none
 | k + 1, x0, x8 => if x8 = true then (some 0) else (if x0 < 64 then (some 1) else (if x0 < 16384 then (some 2) else (if x0 < 1073741824 then (some 4) else (some 8))))
def caduceusref01_Size.f (k : Nat) (a0 : Int) : Option (Int) := if a0 < 0 then (caduceusref01_Size.j0 k a0 true) else (caduceusref01_Size.j0 k a0 (decide (a0 > 4611686018427387903)))
theorem caduceusref01_Size.mono_l : ∀ k, (∀ y0 y1, LeO (caduceusref01_Size.j0 k y0 y1) (caduceusref01_Size.j0 (k + 1) y0 y1))
 | 0 => fun _ _ r h => by simp [caduceusref01_Size.j0] at h
 | k + 1 => by
  have ih0 := caduceusref01_Size.mono_l k
  ·intro y0 y1
   unfold caduceusref01_Size.j0
   repeat' first
   | (with_reducible exact LeO.refl _)

theorem caduceusref01_Size.mono : ∀ a0 k, LeO (caduceusref01_Size.f k a0) (caduceusref01_Size.f (k + 1) a0) := by
 intro a0 k
 have ih0 := caduceusref01_Size.mono_l k
 unfold caduceusref01_Size.f
 repeat' first
   | (with_reducible exact ih0 _ _)
   | (with_reducible refine LeO.ite ?_ ?_)

set_option maxHeartbeats 8000000 in
set_option maxRecDepth 100000 in
theorem caduceusref01_Size.calls (k : Nat) (a0 : Int) (r : Int) (w : World) (h : caduceusref01_Size.f k a0 = some r) :
  Calls Try.prog 58 #[.int .i64 a0] w fun e w' => e = .returned (.int .i64 r) ∧ Drawn0 w w' := by
 have H : (if a0 < 0 then (caduceusref01_Size.j0 k a0 true) else (caduceusref01_Size.j0 k a0 (decide (a0 > 4611686018427387903)))) = some r := h
 clear h
 have HC2 := Aside0.mk H
 clear H
 go_enter Try.func58, Try.ntmps58
 go_upto_region 1 with (fail)
 go_cut [8] (fun v8 wc => ∃ (kq : Nat) (x8_1 : Bool), v8 = .bool x8_1 ∧ Aside0 (caduceusref01_Size.j0 kq a0 x8_1 = some r) ∧ Aside0 (kq ≤ k) ∧ Drawn0 w wc)
 case first =>
  have H := HC2.out
  clear HC2
  by_cases c3 : a0 < 0
  ·rw [if_pos c3] at H
   have c3b0 : decide (a0 < 0) = true := decide_eq_true c3
   clear c3
   (first | skip)
   have H' := Aside0.mk H
   clear H
   go_wp2
   go_meet
   case rel => exact ⟨_, (true), (by first | rfl ), H', ⟨by first | omega ⟩, by repeat (first | exact Drawn0.refl _ )⟩
  ·rw [if_neg c3] at H
   have c3b0 : decide (a0 < 0) = false := decide_eq_false c3
   clear c3
   (first | skip)
   have H' := Aside0.mk H
   clear H
   go_wp2
   go_meet
   case rel => exact ⟨_, (decide (a0 > 4611686018427387903)), (by first | rfl ), H', ⟨by first | omega ⟩, by repeat (first | exact Drawn0.refl _ )⟩
 case rest =>
  clear HC2
  try clear p2
  try clear c3
  try clear c3b0
  obtain ⟨kq, x8_1, rfl, HA, HJ1, ⟨mc1, rfl⟩⟩ := hcut
  cases kq with
  | zero => exact absurd HA.out (by simp [caduceusref01_Size.j0])
  | succ kj1 =>
   have H := HA.out
   clear HA
   simp only [caduceusref01_Size.j0] at H
   by_cases c4 : x8_1 = true
   ·subst c4
    have H1 : (some 0) = some r := by rw [if_pos rfl] at H; exact H
    clear H
    have H := H1
    clear H1
    obtain rfl := Option.some.inj H
    go_wp2
    go_ret
    exact ⟨by first | rfl , by repeat (first | exact Drawn0.refl _ | apply Drawn0.step)⟩
   ·replace c4 := Bool.eq_false_iff.mpr c4
    subst c4
    have H1 : (if a0 < 64 then (some 1) else (if a0 < 16384 then (some 2) else (if a0 < 1073741824 then (some 4) else (some 8)))) = some r := by rw [if_neg (show ¬ (false = true) by decide)] at H; exact H
    clear H
    have H := H1
    clear H1
    by_cases c5 : a0 < 64
    ·rw [if_pos c5] at H
     have c5b0 : decide (a0 < 64) = true := decide_eq_true c5
     clear c5
     obtain rfl := Option.some.inj H
     go_wp2
     go_ret
     exact ⟨by first | rfl , by repeat (first | exact Drawn0.refl _ | apply Drawn0.step)⟩
    ·rw [if_neg c5] at H
     have c5b0 : decide (a0 < 64) = false := decide_eq_false c5
     clear c5
     by_cases c6 : a0 < 16384
     ·rw [if_pos c6] at H
      have c6b0 : decide (a0 < 16384) = true := decide_eq_true c6
      clear c6
      obtain rfl := Option.some.inj H
      go_wp2
      go_ret
      exact ⟨by first | rfl , by repeat (first | exact Drawn0.refl _ | apply Drawn0.step)⟩
     ·rw [if_neg c6] at H
      have c6b0 : decide (a0 < 16384) = false := decide_eq_false c6
      clear c6
      by_cases c7 : a0 < 1073741824
      ·rw [if_pos c7] at H
       have c7b0 : decide (a0 < 1073741824) = true := decide_eq_true c7
       clear c7
       obtain rfl := Option.some.inj H
       go_wp2
       go_ret
       exact ⟨by first | rfl , by repeat (first | exact Drawn0.refl _ | apply Drawn0.step)⟩
      ·rw [if_neg c7] at H
       have c7b0 : decide (a0 < 1073741824) = false := decide_eq_false c7
       clear c7
       obtain rfl := Option.some.inj H
       go_wp2
       go_ret
       exact ⟨by first | rfl , by repeat (first | exact Drawn0.refl _ | apply Drawn0.step)⟩

/-! ### caduceusref01_Num: function 45 -/
mutual
def caduceusref01_Num.l0 : Nat → Int → Int → List Int → Int → Option (ByteArray)
 | 0, _, _, _, _ => none
 | k + 1, x0, x3, x4, x5 => if x5 ≥ 0 then (if 0 ≤ (IntKind.u64.wrap (wrap64 (8 * x5))) then (if x4.length < 140737488355328 then (caduceusref01_Num.l0 k x0 x3 (x4 ++ [(shr .u64 (IntKind.u64.wrap (x0)) (IntKind.u64.wrap (wrap64 (8 * x5)))) % 256]) (wrap64 (x5 - 1))) else (none)) else (none)) else (if x3 = 2 then (if 0 < (x4.length : Int) then (caduceusref01_Num.j1 k x3 (x4.set (0 : Int).toNat (((rd x4 0) + 64) % 256))) else (none)) else (caduceusref01_Num.j1 k x3 x4))
def caduceusref01_Num.j1 : Nat → Int → List Int → Option (ByteArray)
 | 0, _, _ => none
 | k + 1, x3, x4 => if x3 = 4 then (if 0 < (x4.length : Int) then ((some (x4.set (0 : Int).toNat (((rd x4 0) + 128) % 256) : List Int)).bind fun y291 => (if x3 = 8 then (some (strOfNums (y291.set (0 : Int).toNat (((rd y291 0) + 192) % 256)))) else (some (strOfNums y291)))) else (none)) else (if x3 = 8 then (if 0 < (x4.length : Int) then (some (strOfNums (x4.set (0 : Int).toNat (((rd x4 0) + 192) % 256)))) else (none)) else (some (strOfNums x4)))
end
def caduceusref01_Num.f (k : Nat) (a0 : Int) : Option (ByteArray) := (caduceusref01_Size.f k a0).bind fun t284 => (caduceusref01_Num.l0 k a0 t284 ([] : List Int) (wrap64 (t284 - 1)))
theorem caduceusref01_Num.mono_l : ∀ k, (∀ y0 y1 y2 y3, LeO (caduceusref01_Num.l0 k y0 y1 y2 y3) (caduceusref01_Num.l0 (k + 1) y0 y1 y2 y3)) ∧ (∀ y0 y1, LeO (caduceusref01_Num.j1 k y0 y1) (caduceusref01_Num.j1 (k + 1) y0 y1))
 | 0 => ⟨fun _ _ _ _ r h => by simp [caduceusref01_Num.l0] at h, fun _ _ r h => by simp [caduceusref01_Num.j1] at h⟩
 | k + 1 => by
  obtain ⟨ih0, ih1⟩ := caduceusref01_Num.mono_l k
  refine ⟨?_, ?_⟩
  ·intro y0 y1 y2 y3
   unfold caduceusref01_Num.l0
   repeat' first
   | (with_reducible exact ih0 _ _ _ _)
   | (with_reducible exact ih1 _ _)
   | (with_reducible exact LeO.refl _)
   | (with_reducible refine LeO.ite ?_ ?_)

  ·intro y0 y1
   unfold caduceusref01_Num.j1
   repeat' first
   | (with_reducible exact LeO.refl _)

theorem caduceusref01_Num.mono : ∀ a0 k, LeO (caduceusref01_Num.f k a0) (caduceusref01_Num.f (k + 1) a0) := by
 intro a0 k
 obtain ⟨ih0, ih1⟩ := caduceusref01_Num.mono_l k
 unfold caduceusref01_Num.f
 repeat' first
   | (with_reducible exact ih0 _ _ _ _)
   | (with_reducible exact caduceusref01_Size.mono _ _)
   | (with_reducible refine LeO.bind ?_ (fun _ => ?_))

set_option maxHeartbeats 8000000 in
set_option maxRecDepth 100000 in
theorem caduceusref01_Num.calls (k : Nat) (a0 : Int) (r : ByteArray) (w : World) (h : caduceusref01_Num.f k a0 = some r) :
  Calls Try.prog 45 #[.int .i64 a0] w fun e w' => e = .returned (.string r) ∧ Below w.heap.size w w' := by
 have HB := Aside0.mk (Below.refl w.heap.size w)
 have H : ((caduceusref01_Size.f k a0).bind fun t284 => (caduceusref01_Num.l0 k a0 t284 ([] : List Int) (wrap64 (t284 - 1)))) = some r := h
 clear h
 replace H := Option.bind_eq_some_iff.mp H
 obtain ⟨t284, A20, H⟩ := H
 replace H : (caduceusref01_Num.l0 k a0 t284 ([] : List Int) (wrap64 (t284 - 1))) = some r := H
 have A2 := Aside0.mk A20
 clear A20
 have H' := Aside0.mk H
 clear H
 go_enter Try.func45, Try.ntmps45
 go_wp2_with (first | ((with_reducible refine gate_callee (f := 58) rfl ?_); refine goesL_ (some 7) rfl rfl Try.func58 (by kernel_rfl) rfl #[.int .i64 a0] rfl (by (try simp only [List.map_toArray, List.map_cons, List.map_nil]); first | rfl ) ?_; (with_reducible refine (caduceusref01_Size.calls k a0 t284 _ A2.out).mono ?_); rintro e w' ⟨rfl, ⟨nd, rfl⟩⟩; refine ⟨_, rfl, ?_⟩))
 go_loopg [4, 5] k (fun kq v4 v5 w' => ∃ (x4_1 : List Int) (x5_1 : Int), v5 = .int .i64 x5_1 ∧ Aside0 (caduceusref01_Num.l0 kq a0 t284 x4_1 x5_1 = some r) ∧ Aside0 (kq ≤ k) ∧ Aside0 (Kd.R (Kd.int .u8) 5 w' w.heap.size (fun _ => True) v4 x4_1) ∧ Aside0 (Below w.heap.size w w'))
 case atStart => exact ⟨(([] : List Int)), (wrap64 (t284 - 1)), (by first | rfl ), H', ⟨Nat.le_refl _⟩, ⟨by first | exact Kd.R_nil _ _ _ _ _ ⟩, ⟨by repeat (first | (with_reducible first | exact HB.out | apply pw_below_drewN ) )⟩⟩
 case round =>
  clear H'
  try clear p2
  obtain ⟨x4_1, x5_1, rfl, HA, HK1, HO_4, HB⟩ := hrel
  cases gk with
  | zero => exact absurd HA.out (by simp [caduceusref01_Num.l0])
  | succ k1 =>
   have H := HA.out
   clear HA
   simp only [caduceusref01_Num.l0] at H
   by_cases c3 : x5_1 ≥ 0
   ·rw [if_pos c3] at H
    have c3b0 : decide (0 ≤ x5_1) = true := decide_eq_true c3
    clear c3
    obtain ⟨ji4, hji4⟩ : ∃ j_ : Int, (IntKind.u64.wrap (wrap64 (8 * x5_1))) = j_ := ⟨_, rfl⟩
    replace H : (if 0 ≤ (ji4) then (if x4_1.length < 140737488355328 then (caduceusref01_Num.l0 k1 a0 t284 (x4_1 ++ [(shr .u64 (IntKind.u64.wrap (a0)) (ji4)) % 256]) (wrap64 (x5_1 - 1))) else (none)) else (none)) = some r := by first | (rw [hji4] at H; exact H)
    by_cases c5 : 0 ≤ (ji4)
    ·rw [if_pos c5] at H
     have c5b0 := eq_true c5
     have c5b1 : decide (0 ≤ (ji4)) = true := decide_eq_true c5
     clear c5
     obtain ⟨ji6, hji6⟩ : ∃ j_ : Int, (shr .u64 (IntKind.u64.wrap (a0)) (ji4)) = j_ := ⟨_, rfl⟩
     replace H : (if x4_1.length < 140737488355328 then (caduceusref01_Num.l0 k1 a0 t284 (x4_1 ++ [(ji6) % 256]) (wrap64 (x5_1 - 1))) else (none)) = some r := by first | (rw [hji6] at H; exact H)
     have hji6_ : ((IntKind.u64.wrap (a0)) / 2 ^ min (ji4).toNat 64) = ji6 := hji6
     have hji6z : (ji4) ≤ 64 → ((IntKind.u64.wrap (a0)) / 2 ^ (ji4).toNat) = ji6 := shr_small hji6
     by_cases c7 : x4_1.length < 140737488355328
     ·rw [if_pos c7] at H
      have LMc7 := Aside0.mk c7
      clear c7
      obtain ⟨y285, hy285⟩ : ∃ y_ : List Int, y_ = (x4_1 ++ [(ji6) % 256]) := ⟨_, rfl⟩
      replace H : (caduceusref01_Num.l0 k1 a0 t284 y285 (wrap64 (x5_1 - 1))) = some r := by first | (rw [hy285]; with_reducible exact H)
      have Ny285 := Aside0.mk hy285
      clear hy285
      have H' := Aside0.mk H
      clear H
      go_wp2_with (first | ((with_reducible refine gate_builtin (b := .append) (xs := #[.tmp 14, .tmp 22]) rfl ?_); at_builtin; refine Kd.R_append (Kd.int .u8) (w0 := w) w.heap.size rfl (.tmp 14) (.tmp 22) 96 5 (.int .u8 0) 1 rfl Try.underlying96 info5 rfl (by decide) (by omega) u4 x4_1 ((ji6) % 256) [.int .u8 ((ji6) % 256)] (fun _ => True) (fun _ => False) rfl rfl ?aP (fun _ hk => hk.elim) ?aF ?aO ?aB ?aS ?aL ?_; (case aP => exact rfl); (case aB => exact (by repeat (first | (with_reducible first | exact HB.out ) ))); (case aF => exact (fun _ _ => trivial)); (case aO => exact (by (with_reducible repeat (fail)); exact HO_4.out)); (case aS => exact (below_size (by repeat (first | (with_reducible first | exact HB.out ) )))); (case aL => have := LMc7.out; omega); intro v286 w8 ho hb hg hat; rw [← Ny285.out] at ho; have n0_ := Aside0.mk (hb); have n1_ := Aside0.mk (ho); clear HB; clear HO_4; have HB := n0_; have HO287 := n1_; clear n0_ n1_; clear ho hb hg hat))
      go_roundg k1
      case measure => have := HK1.out; omega
      case rel => exact ⟨(y285), (wrap64 (x5_1 - 1)), (by first | rfl ), H', ⟨by have := HK1.out; omega⟩, ⟨by (with_reducible repeat (fail)); exact HO287.out⟩, ⟨by repeat (first | (with_reducible first | exact HB.out ) )⟩⟩
     ·rw [if_neg c7] at H
      exact absurd H (by simp)
    ·rw [if_neg c5] at H
     exact absurd H (by simp)
   ·rw [if_neg c3] at H
    have c3b0 : decide (0 ≤ x5_1) = false := decide_eq_false c3
    clear c3
    have HC9 := Aside0.mk H
    clear H
    go_upto_if 25 with (fail)
    go_cut [] (fun wc => ∃ (kq : Nat) (x4_8 : List Int), Aside0 (caduceusref01_Num.j1 kq t284 x4_8 = some r) ∧ Aside0 (kq ≤ k1) ∧ Aside0 (Kd.R (Kd.int .u8) 5 wc w.heap.size (fun _ => True) u4 x4_8) ∧ Aside0 (Below w.heap.size w wc))
    case first =>
     have H := HC9.out
     clear HC9
     by_cases c10 : t284 = 2
     ·rw [if_pos c10] at H
      have c10b0 : (t284 == 2) = true := beq_iff_eq.mpr c10
      have c10b1 : (t284 != 2) = false := bne_eq_false_iff_eq.mpr c10
      clear c10
      (first | rw [c10b0] )
      by_cases c11 : 0 < (x4_1.length : Int)
      ·rw [if_pos c11] at H
       have c11b0 : decide (0 < (x4_1.length : Int)) = true := decide_eq_true c11
       have c11b1 : decide (0 < x4_1.length) = true := decide_eq_true (by omega)
       clear c11
       obtain ⟨y289, hy289⟩ : ∃ y_ : List Int, y_ = (x4_1.set (0 : Int).toNat (((rd x4_1 0) + 64) % 256)) := ⟨_, rfl⟩
       replace H : (caduceusref01_Num.j1 k1 t284 y289) = some r := by first | (rw [hy289]; with_reducible exact H)
       have Ny289 := Aside0.mk hy289
       clear hy289
       have H' := Aside0.mk H
       clear H
       obtain ⟨Ao13, co13, eo13⟩ := Kd.R_slice HO_4.out
       subst eo13
       have p288 : 0 ≤ (0 : Int) := (by omega)
       have q288 : 0 < (x4_1.length : Int) := of_decide_eq_true (by first | (with_reducible assumption) )
       obtain ⟨ad288, e288, hx288_0⟩ := Kd.at_int (Kd.R_reads' HO_4.out).2.2 0 p288 q288
       cases e288
       have qi288 : (0 < x4_1.length) = True := eq_true (by omega)
       (try rw [show ((0 : Int)).toNat = 0 from rfl] at hx288_0)
       (try rw [Addr.add_zero'] at hx288_0)
       replace p288 := eq_true p288
       replace q288 := eq_true q288
       have p12 : 0 ≤ (0 : Int) := (by omega)
       have q12 : (0 : Int) < ((x4_1.length : Int) : Int) := of_decide_eq_true (by first | (with_reducible assumption) )
       have qi12 : (0 < x4_1.length) = True := eq_true (by omega)
       obtain ⟨go12, co12, eo12, gb12, gl12, cl12, HG12⟩ := Kd.R_form HO_4.out (by omega)
       (first | cases eo12 )
       have GB12 := Aside0.mk gb12
       have GG12 := Aside0.mk HG12
       clear gb12 gl12 HG12
       (first | skip)
       obtain ⟨hx12_0, hf12_0⟩ := Kd.R_celln 0 HO_4.out (0 : Int) p12 q12
       (try rw [show ((0 : Int)).toNat = 0 from rfl] at hx12_0)
       (try simp only [Nat.reduceMul, Nat.zero_mul, Nat.zero_add, Nat.reduceAdd] at hx12_0)
       (try rw [show ((0 : Int)).toNat = 0 from rfl] at hf12_0)
       (try simp only [Nat.reduceMul, Nat.zero_mul, Nat.zero_add, Nat.reduceAdd] at hf12_0)
       replace p12 := eq_true p12
       replace q12 := eq_true q12
       have HP14 := Kd.R_putg HO_4.out (0 : Int) (((rd x4_1 0) + 64) % 256)
       go_wp2_with (first | ((with_reducible refine gate_store (t := 5) (p := 31) rfl ?_); refine store_event (t := 5) (p := 31) (v := ?vo_w15) (w1 := (wr.setCell ⟨go12, (0 : Int).toNat, none⟩ (.int .u8 (((rd x4_1 0) + 64) % 256)))) ?hg ?ho ?hn ?hr ?_; (case ho => rfl); (case hg => rfl); (case hn => rfl); (case hr => first | (go_simp; done) ); intro w15 hw; have hg : wr.grownBy w15 (some go12) := (by rw [hw]; exact HP14.2); have hp_ : Kd.R (Kd.int .u8) 5 w15 w.heap.size (fun _ => True) (.slice (some ⟨go12, 0, none⟩) x4_1.length co13) y289 := (by rw [hw, Ny289.out]; exact HP14.1); clear HP14; have n0_ := Aside0.mk (hp_); have n1_ := Aside0.mk ((by rw [hw]; exact below_set (HB.out) GB12.out : Below w.heap.size w w15)); clear HO_4; clear HB; have HO_4 := n0_; have HB := n1_; clear n0_ n1_; clear hg hw hp_))
       go_meet
       case rel => exact ⟨_, (y289), H', ⟨by have := HK1.out; first | omega ⟩, ⟨by (with_reducible repeat (fail)); exact HO_4.out⟩, ⟨by repeat (first | (with_reducible first | exact HB.out ) )⟩⟩
      ·rw [if_neg c11] at H
       exact absurd H (by simp)
     ·rw [if_neg c10] at H
      have c10b0 : (t284 == 2) = false := beq_eq_false_iff_ne.mpr c10
      have c10b1 : (t284 != 2) = true := bne_iff_ne.mpr c10
      (first | rw [c10b0] )
      have H' := Aside0.mk H
      clear H
      go_wp2
      go_meet
      case rel => exact ⟨_, (x4_1), H', ⟨by have := HK1.out; first | omega ⟩, ⟨by (with_reducible repeat (fail)); exact HO_4.out⟩, ⟨by repeat (first | (with_reducible first | exact HB.out ) )⟩⟩
    case rest =>
     clear HC9
     try clear c1
     try clear p1
     try clear q1
     try clear hx1
     try clear qi1
     try clear hf1
     try clear p2
     try clear q2
     try clear hx2
     try clear qi2
     try clear c3
     try clear c3b0
     try clear c4
     try clear c5
     try clear c5b0
     try clear c5b1
     try clear p6
     try clear c7
     try clear c10
     try clear c10b0
     try clear c10b1
     try clear c11
     try clear c11b0
     try clear c11b1
     try clear p12
     try clear q12
     try clear hx12
     try clear qi12
     try clear hf12
     try clear hx12_0
     try clear hx288_0
     try clear p12
     try clear p2
     try clear p288
     try clear q12
     try clear q288
     obtain ⟨kq, x4_8, HA, HJ8, HO_4, HB⟩ := hcut
     cases kq with
     | zero => exact absurd HA.out (by simp [caduceusref01_Num.j1])
     | succ kj8 =>
      have H := HA.out
      clear HA
      simp only [caduceusref01_Num.j1] at H
      by_cases c16 : t284 = 4
      ·rw [if_pos c16] at H
       have c16b0 : (t284 == 4) = true := beq_iff_eq.mpr c16
       have c16b1 : (t284 != 4) = false := bne_eq_false_iff_eq.mpr c16
       clear c16
       by_cases c17 : 0 < (x4_8.length : Int)
       ·rw [if_pos c17] at H
        have c17b0 : decide (0 < (x4_8.length : Int)) = true := decide_eq_true c17
        have c17b1 : decide (0 < x4_8.length) = true := decide_eq_true (by omega)
        clear c17
        obtain ⟨y291, hy291⟩ : ∃ y_ : List Int, y_ = (x4_8.set (0 : Int).toNat (((rd x4_8 0) + 128) % 256)) := ⟨_, rfl⟩
        replace H : (if t284 = 8 then (some (strOfNums (y291.set (0 : Int).toNat (((rd y291 0) + 192) % 256)))) else (some (strOfNums y291))) = some r := by first | (have H2_ := (Option.bind_some _ _).symm.trans H; rw [hy291]; with_reducible exact H2_)
        have Ny291 := Aside0.mk hy291
        clear hy291
        by_cases c19 : t284 = 8
        ·rw [if_pos c19] at H
         have c19b0 : (t284 == 8) = true := beq_iff_eq.mpr c19
         have c19b1 : (t284 != 8) = false := bne_eq_false_iff_eq.mpr c19
         clear c19
         obtain ⟨y293, hy293⟩ : ∃ y_ : List Int, y_ = (y291.set (0 : Int).toNat (((rd y291 0) + 192) % 256)) := ⟨_, rfl⟩
         replace H : (some (strOfNums y293)) = some r := by first | (rw [hy293]; with_reducible exact H)
         have Ny293 := Aside0.mk hy293
         clear hy293
         obtain rfl := Option.some.inj H
         obtain ⟨Ao21, co21, eo21⟩ := Kd.R_slice HO_4.out
         subst eo21
         have p290 : 0 ≤ (0 : Int) := (by omega)
         have q290 : 0 < (x4_8.length : Int) := of_decide_eq_true (by first | (with_reducible assumption) )
         obtain ⟨ad290, e290, hx290_0⟩ := Kd.at_int (Kd.R_reads' HO_4.out).2.2 0 p290 q290
         cases e290
         have qi290 : (0 < x4_8.length) = True := eq_true (by omega)
         (try rw [show ((0 : Int)).toNat = 0 from rfl] at hx290_0)
         (try rw [Addr.add_zero'] at hx290_0)
         replace p290 := eq_true p290
         replace q290 := eq_true q290
         have p18 : 0 ≤ (0 : Int) := (by omega)
         have q18 : (0 : Int) < ((x4_8.length : Int) : Int) := of_decide_eq_true (by first | (with_reducible assumption) )
         have qi18 : (0 < x4_8.length) = True := eq_true (by omega)
         obtain ⟨go18, co18, eo18, gb18, gl18, cl18, HG18⟩ := Kd.R_form HO_4.out (by omega)
         (first | cases eo18 )
         have GB18 := Aside0.mk gb18
         have GG18 := Aside0.mk HG18
         clear gb18 gl18 HG18
         (first | skip)
         obtain ⟨hx18_0, hf18_0⟩ := Kd.R_celln 0 HO_4.out (0 : Int) p18 q18
         (try rw [show ((0 : Int)).toNat = 0 from rfl] at hx18_0)
         (try simp only [Nat.reduceMul, Nat.zero_mul, Nat.zero_add, Nat.reduceAdd] at hx18_0)
         (try rw [show ((0 : Int)).toNat = 0 from rfl] at hf18_0)
         (try simp only [Nat.reduceMul, Nat.zero_mul, Nat.zero_add, Nat.reduceAdd] at hf18_0)
         replace p18 := eq_true p18
         replace q18 := eq_true q18
         have HP22 := Kd.R_putg HO_4.out (0 : Int) (((rd x4_8 0) + 128) % 256)
         go_wp2_with (first | ((with_reducible refine gate_store (t := 5) (p := 39) rfl ?_); refine store_event (t := 5) (p := 39) (v := ?vo_w23) (w1 := (wc.setCell ⟨go18, (0 : Int).toNat, none⟩ (.int .u8 (((rd x4_8 0) + 128) % 256)))) ?hg ?ho ?hn ?hr ?_; (case ho => rfl); (case hg => rfl); (case hn => rfl); (case hr => first | (go_simp; done) ); intro w23 hw; have hg : wc.grownBy w23 (some go18) := (by rw [hw]; exact HP22.2); have hp_ : Kd.R (Kd.int .u8) 5 w23 w.heap.size (fun _ => True) (.slice (some ⟨go18, 0, none⟩) x4_8.length co21) y291 := (by rw [hw, Ny291.out]; exact HP22.1); clear HP22; have n0_ := Aside0.mk (hp_); have n1_ := Aside0.mk ((by rw [hw]; exact below_set (HB.out) GB18.out : Below w.heap.size w w23)); clear HO_4; clear HB; have HO_4 := n0_; have HB := n1_; clear n0_ n1_; clear hg hw hp_; have p292 : 0 ≤ (0 : Int) := (by omega); have q292 : 0 < (y291.length : Int) := (by have h_ : (0 : Int) < ((x4_8.length : Int) : Int) := of_decide_eq_true (by first | (with_reducible assumption) ); first | (have e_ := (Kd.R_reads' HO_4.out).1; omega) ); have ql292 : ((0 : Int) < ((x4_8.length : Int) : Int)) = True := eq_true (of_decide_eq_true (by first | (with_reducible assumption) )); (try have qn292 : (0 < x4_8.length) = True := eq_true (by have h_ : (0 : Int) < ((x4_8.length : Int) : Int) := of_decide_eq_true (by first | (with_reducible assumption) ); omega)); obtain ⟨ad292, e292, hx292_0⟩ := Kd.at_int (Kd.R_reads' HO_4.out).2.2 0 p292 q292; obtain rfl : (⟨go18, 0, none⟩ : Addr) = ad292 := (by injection e292); (first | simp only [add_plain] at hx292_0 ); have qi292 : (0 < y291.length) = True := eq_true (by omega); (try rw [show ((0 : Int)).toNat = 0 from rfl] at hx292_0); (try rw [Addr.add_zero'] at hx292_0); replace p292 := eq_true p292; replace q292 := eq_true q292; have p20 : 0 ≤ (0 : Int) := (by omega); have q20 : (0 : Int) < ((x4_8.length : Int) : Int) := of_decide_eq_true (by first | (with_reducible assumption) ); have qi20 : (0 < x4_8.length) = True := eq_true (by omega); obtain ⟨hx20_0, hf20_0⟩ := Kd.R_celln 0 HO_4.out (0 : Int) p20 q20; (try rw [show ((0 : Int)).toNat = 0 from rfl] at hx20_0); (try simp only [Nat.reduceMul, Nat.zero_mul, Nat.zero_add, Nat.reduceAdd] at hx20_0); (try rw [show ((0 : Int)).toNat = 0 from rfl] at hf20_0); (try simp only [Nat.reduceMul, Nat.zero_mul, Nat.zero_add, Nat.reduceAdd] at hf20_0); replace p20 := eq_true p20; replace q20 := eq_true q20; obtain ⟨hy24_, hz24_⟩ := Kd.R_celln 0 HO_4.out (0 : Int) (by omega) (of_decide_eq_true (by first | (with_reducible assumption) )); (try simp only [Int.reduceToNat, Int.toNat_zero, Int.toNat_ofNat, Nat.reduceMul, Nat.zero_mul, Nat.zero_add] at hy24_ hz24_); (try rw [show ((0 : Int)).toNat = 0 from rfl] at hy24_); (try rw [show ((0 : Int)).toNat = 0 from rfl] at hz24_); have HP24 := Kd.R_putg HO_4.out (0 : Int) (((rd y291 0) + 192) % 256)) | ((with_reducible refine gate_store (t := 5) (p := 47) rfl ?_); refine store_event (t := 5) (p := 47) (v := ?vo_w25) (w1 := (w23.setCell ⟨go18, (0 : Int).toNat, none⟩ (.int .u8 (((rd y291 0) + 192) % 256)))) ?hg ?ho ?hn ?hr ?_; (case ho => rfl); (case hg => rfl); (case hn => rfl); (case hr => first | (go_simp; done) ); intro w25 hw; have hg : w23.grownBy w25 (some go18) := (by rw [hw]; exact HP24.2); have hp_ : Kd.R (Kd.int .u8) 5 w25 w.heap.size (fun _ => True) (.slice (some ⟨go18, 0, none⟩) x4_8.length co21) y293 := (by rw [hw, Ny293.out]; exact HP24.1); clear HP24; have n0_ := Aside0.mk (hp_); have n1_ := Aside0.mk ((by rw [hw]; exact below_set (HB.out) GB18.out : Below w.heap.size w w25)); clear HO_4; clear HB; have HO_4 := n0_; have HB := n1_; clear n0_ n1_; clear hg hw hp_; have hcv26 := own_string (P := Try.prog) Try.underlying96 Try.underlying5 Try.underlying9 (Kd.own_of_R HO_4.out)))
         go_ret
         exact ⟨by first | rfl , by repeat (first | (with_reducible first | exact HB.out ) )⟩
        ·rw [if_neg c19] at H
         have c19b0 : (t284 == 8) = false := beq_eq_false_iff_ne.mpr c19
         have c19b1 : (t284 != 8) = true := bne_iff_ne.mpr c19
         obtain rfl := Option.some.inj H
         obtain ⟨Ao27, co27, eo27⟩ := Kd.R_slice HO_4.out
         subst eo27
         have p290 : 0 ≤ (0 : Int) := (by omega)
         have q290 : 0 < (x4_8.length : Int) := of_decide_eq_true (by first | (with_reducible assumption) )
         obtain ⟨ad290, e290, hx290_0⟩ := Kd.at_int (Kd.R_reads' HO_4.out).2.2 0 p290 q290
         cases e290
         have qi290 : (0 < x4_8.length) = True := eq_true (by omega)
         (try rw [show ((0 : Int)).toNat = 0 from rfl] at hx290_0)
         (try rw [Addr.add_zero'] at hx290_0)
         replace p290 := eq_true p290
         replace q290 := eq_true q290
         have p18 : 0 ≤ (0 : Int) := (by omega)
         have q18 : (0 : Int) < ((x4_8.length : Int) : Int) := of_decide_eq_true (by first | (with_reducible assumption) )
         have qi18 : (0 < x4_8.length) = True := eq_true (by omega)
         obtain ⟨go18, co18, eo18, gb18, gl18, cl18, HG18⟩ := Kd.R_form HO_4.out (by omega)
         (first | cases eo18 )
         have GB18 := Aside0.mk gb18
         have GG18 := Aside0.mk HG18
         clear gb18 gl18 HG18
         (first | skip)
         obtain ⟨hx18_0, hf18_0⟩ := Kd.R_celln 0 HO_4.out (0 : Int) p18 q18
         (try rw [show ((0 : Int)).toNat = 0 from rfl] at hx18_0)
         (try simp only [Nat.reduceMul, Nat.zero_mul, Nat.zero_add, Nat.reduceAdd] at hx18_0)
         (try rw [show ((0 : Int)).toNat = 0 from rfl] at hf18_0)
         (try simp only [Nat.reduceMul, Nat.zero_mul, Nat.zero_add, Nat.reduceAdd] at hf18_0)
         replace p18 := eq_true p18
         replace q18 := eq_true q18
         have HP28 := Kd.R_putg HO_4.out (0 : Int) (((rd x4_8 0) + 128) % 256)
         go_wp2_with (first | ((with_reducible refine gate_store (t := 5) (p := 39) rfl ?_); refine store_event (t := 5) (p := 39) (v := ?vo_w29) (w1 := (wc.setCell ⟨go18, (0 : Int).toNat, none⟩ (.int .u8 (((rd x4_8 0) + 128) % 256)))) ?hg ?ho ?hn ?hr ?_; (case ho => rfl); (case hg => rfl); (case hn => rfl); (case hr => first | (go_simp; done) ); intro w29 hw; have hg : wc.grownBy w29 (some go18) := (by rw [hw]; exact HP28.2); have hp_ : Kd.R (Kd.int .u8) 5 w29 w.heap.size (fun _ => True) (.slice (some ⟨go18, 0, none⟩) x4_8.length co27) y291 := (by rw [hw, Ny291.out]; exact HP28.1); clear HP28; have n0_ := Aside0.mk (hp_); have n1_ := Aside0.mk ((by rw [hw]; exact below_set (HB.out) GB18.out : Below w.heap.size w w29)); clear HO_4; clear HB; have HO_4 := n0_; have HB := n1_; clear n0_ n1_; clear hg hw hp_; have hcv30 := own_string (P := Try.prog) Try.underlying96 Try.underlying5 Try.underlying9 (Kd.own_of_R HO_4.out)))
         go_ret
         exact ⟨by first | rfl , by repeat (first | (with_reducible first | exact HB.out ) )⟩
       ·rw [if_neg c17] at H
        exact absurd H (by simp)
      ·rw [if_neg c16] at H
       have c16b0 : (t284 == 4) = false := beq_eq_false_iff_ne.mpr c16
       have c16b1 : (t284 != 4) = true := bne_iff_ne.mpr c16
       by_cases c31 : t284 = 8
       ·rw [if_pos c31] at H
        have c31b0 : (t284 == 8) = true := beq_iff_eq.mpr c31
        have c31b1 : (t284 != 8) = false := bne_eq_false_iff_eq.mpr c31
        clear c31
        by_cases c32 : 0 < (x4_8.length : Int)
        ·rw [if_pos c32] at H
         have c32b0 : decide (0 < (x4_8.length : Int)) = true := decide_eq_true c32
         have c32b1 : decide (0 < x4_8.length) = true := decide_eq_true (by omega)
         clear c32
         obtain ⟨y295, hy295⟩ : ∃ y_ : List Int, y_ = (x4_8.set (0 : Int).toNat (((rd x4_8 0) + 192) % 256)) := ⟨_, rfl⟩
         replace H : (some (strOfNums y295)) = some r := by first | (rw [hy295]; with_reducible exact H)
         have Ny295 := Aside0.mk hy295
         clear hy295
         obtain rfl := Option.some.inj H
         obtain ⟨Ao34, co34, eo34⟩ := Kd.R_slice HO_4.out
         subst eo34
         have p294 : 0 ≤ (0 : Int) := (by omega)
         have q294 : 0 < (x4_8.length : Int) := of_decide_eq_true (by first | (with_reducible assumption) )
         obtain ⟨ad294, e294, hx294_0⟩ := Kd.at_int (Kd.R_reads' HO_4.out).2.2 0 p294 q294
         cases e294
         have qi294 : (0 < x4_8.length) = True := eq_true (by omega)
         (try rw [show ((0 : Int)).toNat = 0 from rfl] at hx294_0)
         (try rw [Addr.add_zero'] at hx294_0)
         replace p294 := eq_true p294
         replace q294 := eq_true q294
         have p33 : 0 ≤ (0 : Int) := (by omega)
         have q33 : (0 : Int) < ((x4_8.length : Int) : Int) := of_decide_eq_true (by first | (with_reducible assumption) )
         have qi33 : (0 < x4_8.length) = True := eq_true (by omega)
         obtain ⟨go33, co33, eo33, gb33, gl33, cl33, HG33⟩ := Kd.R_form HO_4.out (by omega)
         (first | cases eo33 )
         have GB33 := Aside0.mk gb33
         have GG33 := Aside0.mk HG33
         clear gb33 gl33 HG33
         (first | skip)
         obtain ⟨hx33_0, hf33_0⟩ := Kd.R_celln 0 HO_4.out (0 : Int) p33 q33
         (try rw [show ((0 : Int)).toNat = 0 from rfl] at hx33_0)
         (try simp only [Nat.reduceMul, Nat.zero_mul, Nat.zero_add, Nat.reduceAdd] at hx33_0)
         (try rw [show ((0 : Int)).toNat = 0 from rfl] at hf33_0)
         (try simp only [Nat.reduceMul, Nat.zero_mul, Nat.zero_add, Nat.reduceAdd] at hf33_0)
         replace p33 := eq_true p33
         replace q33 := eq_true q33
         have HP35 := Kd.R_putg HO_4.out (0 : Int) (((rd x4_8 0) + 192) % 256)
         go_wp2_with (first | ((with_reducible refine gate_store (t := 5) (p := 47) rfl ?_); refine store_event (t := 5) (p := 47) (v := ?vo_w36) (w1 := (wc.setCell ⟨go33, (0 : Int).toNat, none⟩ (.int .u8 (((rd x4_8 0) + 192) % 256)))) ?hg ?ho ?hn ?hr ?_; (case ho => rfl); (case hg => rfl); (case hn => rfl); (case hr => first | (go_simp; done) ); intro w36 hw; have hg : wc.grownBy w36 (some go33) := (by rw [hw]; exact HP35.2); have hp_ : Kd.R (Kd.int .u8) 5 w36 w.heap.size (fun _ => True) (.slice (some ⟨go33, 0, none⟩) x4_8.length co34) y295 := (by rw [hw, Ny295.out]; exact HP35.1); clear HP35; have n0_ := Aside0.mk (hp_); have n1_ := Aside0.mk ((by rw [hw]; exact below_set (HB.out) GB33.out : Below w.heap.size w w36)); clear HO_4; clear HB; have HO_4 := n0_; have HB := n1_; clear n0_ n1_; clear hg hw hp_; have hcv37 := own_string (P := Try.prog) Try.underlying96 Try.underlying5 Try.underlying9 (Kd.own_of_R HO_4.out)))
         go_ret
         exact ⟨by first | rfl , by repeat (first | (with_reducible first | exact HB.out ) )⟩
        ·rw [if_neg c32] at H
         exact absurd H (by simp)
       ·rw [if_neg c31] at H
        have c31b0 : (t284 == 8) = false := beq_eq_false_iff_ne.mpr c31
        have c31b1 : (t284 != 8) = true := bne_iff_ne.mpr c31
        obtain rfl := Option.some.inj H
        have hcv38 := own_string (P := Try.prog) Try.underlying96 Try.underlying5 Try.underlying9 (Kd.own_of_R HO_4.out)
        go_wp2
        go_ret
        exact ⟨by first | rfl , by repeat (first | (with_reducible first | exact HB.out ) )⟩

end Go.Proofs.Ytpdalofhekmbeaa.PViewReads
