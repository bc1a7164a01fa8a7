-- Written by a program of this session over the kit's printer (with contracts of the session's own).
import Derived.Test.YtpdalofhekmbeaaPViewReadsx0
import Derived.Test.YtpdalofhekmbeaaPViewReadsx9
import Derived.Test.YtpdalofhekmbeaaPViewReadsx11
import Derived.Test.YtpdalofhekmbeaaPViewReadsx13
namespace Go.Proofs.Ytpdalofhekmbeaa.PViewReads
open Go.RowKit Go.Proofs.YtpdalofhekmbeaaW.PrintWords Go.Proofs.YtpdalofhekmbeaaW.PrintLast Go.Proofs.YtpdalofhekmbeaaW.PrintMore
attribute [local go_sem] max2_int min2_int max_two min_two max_three min_three max_four min_four   -- for this text's walks alone
set_option linter.unusedVariables false
set_option linter.unusedSimpArgs false

/-! ### caduceusref14_Read: function 27 -/
mutual
def caduceusref14_Read.l0 : Nat → ByteArray → ByteArray → Int → List (S81) → ByteArray → Int → Int → List (S62) → Option (Int × (List (S62)) × Int)
 | 0, _, _, _, _, _, _, _, _ => none
 | k + 1, x0, x6, x7, x347000, x347001, x347002, x349000, x349001 => if 1 < (x347000.length : Int) then (if x7 < ((rd_T81 x347000 1).f1) then (caduceusref14_Read.j1 k x0 x6 x7 (decide (x7 < 16)) x347000 x347001 x347002 x349000 x349001) else (caduceusref14_Read.j1 k x0 x6 x7 false x347000 x347001 x347002 x349000 x349001)) else (none)
def caduceusref14_Read.j1 : Nat → ByteArray → ByteArray → Int → Bool → List (S81) → ByteArray → Int → Int → List (S62) → Option (Int × (List (S62)) × Int)
 | 0, _, _, _, _, _, _, _, _, _ => none
 | k + 1, x0, x6, x7, x34, x347000, x347001, x347002, x349000, x349001 => if x34 = true then ((caduceusref01_Take.f k x6 (([1, 1, 3] : List Int))).bind fun bt353 => (if bt353.2.2 = 0 then (if 0 < (bt353.1.length : Int) then (if 1 < (bt353.1.length : Int) then (if 2 < (bt353.1.length : Int) then (if x349001.length < 5864062014805 then (caduceusref14_Read.l0 k x0 bt353.2.1 (wrap64 (x7 + 1)) x347000 x347001 x347002 x349000 (x349001 ++ [(⟨(rd_T81 bt353.1 0).f1, (rd_T81 bt353.1 1).f1, (((rd_T81 bt353.1 2).f1) == 1)⟩ : S62)])) else (none)) else (none)) else (none)) else (none)) else (some (0, ([] : List (S62)), 3)))) else (if x0.toList = ([] : List UInt8) then (some (0, ([] : List (S62)), 3)) else ((caduceusref14_Text.f k x349000 x349001).bind fun t365 => (if t365.toList = x0.toList then (some (x349000, x349001, 0)) else (some (0, ([] : List (S62)), 3)))))
end
def caduceusref14_Read.f (k : Nat) (a0 : ByteArray) : Option (Int × (List (S62)) × Int) := (caduceusref01_Take.f k a0 (([1, 1] : List Int))).bind fun bt341 => (if bt341.2.2 = 0 then (if 0 < (bt341.1.length : Int) then (caduceusref14_Read.l0 k a0 bt341.2.1 0 bt341.1 bt341.2.1 bt341.2.2 ((rd_T81 bt341.1 0).f1) ([] : List (S62))) else (none)) else (some (0, ([] : List (S62)), 3)))
theorem caduceusref14_Read.mono_l : ∀ k, (∀ y0 y1 y2 y3 y4 y5 y6 y7, LeO (caduceusref14_Read.l0 k y0 y1 y2 y3 y4 y5 y6 y7) (caduceusref14_Read.l0 (k + 1) y0 y1 y2 y3 y4 y5 y6 y7)) ∧ (∀ y0 y1 y2 y3 y4 y5 y6 y7 y8, LeO (caduceusref14_Read.j1 k y0 y1 y2 y3 y4 y5 y6 y7 y8) (caduceusref14_Read.j1 (k + 1) y0 y1 y2 y3 y4 y5 y6 y7 y8))
 | 0 => ⟨fun _ _ _ _ _ _ _ _ r h => by simp [caduceusref14_Read.l0] at h, fun _ _ _ _ _ _ _ _ _ r h => by simp [caduceusref14_Read.j1] at h⟩
 | k + 1 => by
  obtain ⟨ih0, ih1⟩ := caduceusref14_Read.mono_l k
  refine ⟨?_, ?_⟩
  ·intro y0 y1 y2 y3 y4 y5 y6 y7
   unfold caduceusref14_Read.l0
   repeat' first
   | (with_reducible exact ih1 _ _ _ _ _ _ _ _ _)
   | (with_reducible exact LeO.refl _)
   | (with_reducible refine LeO.ite ?_ ?_)

  ·intro y0 y1 y2 y3 y4 y5 y6 y7 y8
   unfold caduceusref14_Read.j1
   repeat' first
   | (with_reducible exact ih0 _ _ _ _ _ _ _ _)
   | (with_reducible exact caduceusref01_Take.mono _ _ _)
   | (with_reducible exact caduceusref14_Text.mono _ _ _)
   | (with_reducible exact LeO.refl _)
   | (with_reducible refine LeO.ite ?_ ?_)
   | (with_reducible refine LeO.bind ?_ (fun _ => ?_))

theorem caduceusref14_Read.mono : ∀ a0 k, LeO (caduceusref14_Read.f k a0) (caduceusref14_Read.f (k + 1) a0) := by
 intro a0 k
 obtain ⟨ih0, ih1⟩ := caduceusref14_Read.mono_l k
 unfold caduceusref14_Read.f
 repeat' first
   | (with_reducible exact ih0 _ _ _ _ _ _ _ _)
   | (with_reducible exact caduceusref01_Take.mono _ _ _)
   | (with_reducible exact LeO.refl _)
   | (with_reducible refine LeO.ite ?_ ?_)
   | (with_reducible refine LeO.bind ?_ (fun _ => ?_))

def caduceusref14_Read.T12 : Bool × List (List Nat × List Nat) := (true, [([], []), ([0], [0]), ([], []), ([2], [2]), ([3], [3]), ([4], [4]), ([5], [5]), ([], []), ([7], [7]), ([8], [8]), ([9], [9]), ([10], [10]), ([], []), ([12], [12]), ([13], [13]), ([14], [14]), ([15], [15]), ([16], [16]), ([6, 11, 17], [6, 11, 17]), ([18], [18]), ([1, 19], [1, 19]), ([0, 1, 2, 3, 4, 5, 6, 7, 8, 9, 10, 11, 12, 13, 14, 15, 16, 17, 18, 19, 20], []), ([21, 20, 20, 0, 1, 2, 3, 4, 5, 6, 7, 8, 9, 10, 11, 12, 13, 14, 15, 16, 17, 18, 19, 20], [20, 21])])
def caduceusref14_Read.B12 : List Nat := [0, 1, 0, 4, 12, 28, 60, 0, 128, 384, 896, 1920, 0, 4096, 12288, 28672, 61440, 126976, 262140, 524284, 1048575, 2097151, 4194303]
theorem caduceusref14_Read.tab12 : rtab .any (opsOf Try.f27 12) = caduceusref14_Read.T12 := by kernel_rfl
theorem caduceusref14_Read.bits12 : waitsOk caduceusref14_Read.T12.2 caduceusref14_Read.B12 = true := by kernel_rfl
set_option maxHeartbeats 8000000 in
set_option maxRecDepth 100000 in
theorem caduceusref14_Read.calls (k : Nat) (a0 : ByteArray) (r1 : Int) (r2 : List (S62)) (r3 : Int) (w : World) (h : caduceusref14_Read.f k a0 = some (r1, r2, r3)) :
  Calls Try.prog 27 #[.string a0] w fun e w' => ∃ v1_ : Value, e = .returned (.tuple #[.agg #[.int .i64 r1, v1_], .int .i64 r3]) ∧ Kd.R k62 62 w' w.heap.size (fun _ => True) v1_ r2 ∧ Below w.heap.size w w' := by
 have hu32 := Try.underlying32
 have hu79 := Try.underlying79
 have hu62 := Try.underlying62
 have HB := Aside0.mk (Below.refl w.heap.size w)
 have H : ((caduceusref01_Take.f k a0 (([1, 1] : List Int))).bind fun bt341 => (if bt341.2.2 = 0 then (if 0 < (bt341.1.length : Int) then (caduceusref14_Read.l0 k a0 bt341.2.1 0 bt341.1 bt341.2.1 bt341.2.2 ((rd_T81 bt341.1 0).f1) ([] : List (S62))) else (none)) else (some (0, ([] : List (S62)), 3)))) = some (r1, r2, r3) := h
 clear h
 obtain ⟨y338, hy338⟩ : ∃ y_ : List Int, y_ = (([1, 1] : List Int)) := ⟨_, rfl⟩
 replace H : ((caduceusref01_Take.f k a0 y338).bind fun bt341 => (if bt341.2.2 = 0 then (if 0 < (bt341.1.length : Int) then (caduceusref14_Read.l0 k a0 bt341.2.1 0 bt341.1 bt341.2.1 bt341.2.2 ((rd_T81 bt341.1 0).f1) ([] : List (S62))) else (none)) else (some (0, ([] : List (S62)), 3)))) = some (r1, r2, r3) := by first | (rw [hy338]; with_reducible exact H)
 have Ny338 := Aside0.mk hy338
 clear hy338
 replace H := Option.bind_eq_some_iff.mp H
 obtain ⟨⟨t341, t344, t345⟩, A20, H⟩ := H
 replace H : (if t345 = 0 then (if 0 < (t341.length : Int) then (caduceusref14_Read.l0 k a0 t344 0 t341 t344 t345 ((rd_T81 t341 0).f1) ([] : List (S62))) else (none)) else (some (0, ([] : List (S62)), 3))) = some (r1, r2, r3) := H
 have A2 := Aside0.mk A20
 clear A20
 by_cases c3 : t345 = 0
 ·rw [if_pos c3] at H
  have c3b0 : (t345 == 0) = true := beq_iff_eq.mpr c3
  have c3b1 : (t345 != 0) = false := bne_eq_false_iff_eq.mpr c3
  clear c3
  by_cases c4 : 0 < (t341.length : Int)
  ·rw [if_pos c4] at H
   have c4b0 : decide (0 < (t341.length : Int)) = true := decide_eq_true c4
   have c4b1 : decide (0 < t341.length) = true := decide_eq_true (by omega)
   clear c4
   have H' := Aside0.mk H
   clear H
   go_enter Try.func27, Try.ntmps27
   go_wp2_with (first | ((with_reducible refine gate_dst (N := 2) rfl ?_); refine box_event ?hg (N := 2) ?hd (cs := #[.int .i64 0, .slice none 0 0]) (t := 32) ?hr ?_; (case hd => rfl); (case hg => rfl); (case hr => first | (go_simp; done) ); intro gb337 hg w5 hbox hb; have n0_ := Aside0.mk (below_step (by repeat (first | (with_reducible first | exact HB.out ) )) hb); have n1_ := Aside0.mk (hbox); have n2_ := Aside0.mk ((by rw [hg]; exact (below_size (by repeat (first | (with_reducible first | exact HB.out ) ))) : w.heap.size ≤ gb337)); have n3_ := Aside0.mk ((by rw [hg]; exact (below_size (by repeat (first | (with_reducible first | exact HB.out ) ))) : w.heap.size ≤ gb337)); clear HB; have HB := n0_; have BK337 := n1_; have GW337 := n2_; have GE337 := n3_; clear n0_ n1_ n2_ n3_; clear hb hbox hg) | ((with_reducible refine gate_dst (N := 10) rfl ?_); refine Kd.R_lit (Kd.int .i64) _ 3 ?hg (N := 10) ?hd (xs := ([1, 1] : List Int)) (inner := [.int .i64 1, .int .i64 1]) (ok := fun _ => True) (okp := fun _ => True) ?hr ?hp (fun _ hk => hk) trivial (Below.refl _ _) (Nat.le_refl _) (by simp) ?_; (case hd => rfl); (case hg => rfl); (case hr => first | (go_simp; done) ); (case hp => exact (Reps.one (show Kd.M (Kd.int .i64) _ _ _ 1 [.int .i64 1] from rfl) (Reps.one (show Kd.M (Kd.int .i64) _ _ _ 1 [.int .i64 1] from rfl) (Reps.none _ _)))); intro v339 w6 ho7 hb hg_ hnew_; clear hg_ hnew_; (first | rw [← Ny338.out] at ho7 ); have n0_ := Aside0.mk (Kd.R_lower ho7 (below_size (by repeat (first | (with_reducible first | exact HB.out ) )))); have n1_ := Aside0.mk (blk_below (g := gb337) (o := .cells #[.int .i64 0, .slice none 0 0] 32 (0, 0)) (by (with_reducible repeat (fail)); exact BK337.out) hb); have n2_ := Aside0.mk (below_step (by repeat (first | (with_reducible first | exact HB.out ) )) hb); clear BK337; clear HB; have HO340 := n0_; have BK337 := n1_; have HB := n2_; clear n0_ n1_ n2_; clear hb ho7; obtain ⟨Ao8, co8, eo8⟩ := Kd.R_slice HO340.out; subst eo8) | ((with_reducible refine gate_callee (f := 42) rfl ?_); refine goesL_ (some 11) rfl rfl Try.func42 (by kernel_rfl) rfl #[.string a0, .slice Ao8 y338.length co8] rfl (by (try simp only [List.map_toArray, List.map_cons, List.map_nil]); first | rfl ) ?_; (with_reducible refine (caduceusref01_Take.calls k a0 _ _ y338 t341 t344 t345 _ ?side1 ?side2 A2.out).mono ?_); (case side1 => repeat (first | exact (Kd.R_reads' HO340.out).2.2 )); (case side2 => exact (Kd.R_reads' HO340.out).2.1); rintro e w9 ⟨v342, rfl, ho0, hb⟩; refine ⟨_, rfl, ?_⟩; have n0_ := Aside0.mk (Kd.R_below (by (with_reducible repeat (fail)); exact HO340.out) hb); have n1_ := Aside0.mk (Kd.R_lower ho0 (below_size (by repeat (first | (with_reducible first | exact HB.out ) )))); have n2_ := Aside0.mk (blk_below (g := gb337) (o := .cells #[.int .i64 0, .slice none 0 0] 32 (0, 0)) (by (with_reducible repeat (fail)); exact BK337.out) hb); have n3_ := Aside0.mk (below_step (by repeat (first | (with_reducible first | exact HB.out ) )) hb); clear HO340; clear BK337; clear HB; have HO340 := n0_; have HO343 := n1_; have BK337 := n2_; have HB := n3_; clear n0_ n1_ n2_ n3_; (try clear hb); (try clear hb2); (try clear hk); (try clear hi); (try clear ho0)) | ((with_reducible refine gate_dst (N := 4) rfl ?_); refine box_event ?hg (N := 4) ?hd (cs := #[.slice none 0 0, .string (⟨#[]⟩ : ByteArray), .int .i64 0]) (t := 79) ?hr ?_; (case hd => rfl); (case hg => rfl); (case hr => first | (go_simp; done) ); intro gb346 hg w10 hbox hb; have n0_ := Aside0.mk (Kd.R_below (by (with_reducible repeat (fail)); exact HO340.out) hb); have n1_ := Aside0.mk (Kd.R_below (by (with_reducible repeat (fail)); exact HO343.out) hb); have n2_ := Aside0.mk (blk_below (g := gb337) (o := .cells #[.int .i64 0, .slice none 0 0] 32 (0, 0)) (by (with_reducible repeat (fail)); exact BK337.out) hb); have n3_ := Aside0.mk (below_step (by repeat (first | (with_reducible first | exact HB.out ) )) hb); have n4_ := Aside0.mk (hbox); have n5_ := Aside0.mk ((by rw [hg]; exact (below_size (by repeat (first | (with_reducible first | exact HB.out ) ))) : w.heap.size ≤ gb346)); have n6_ := Aside0.mk ((by rw [hg]; exact (below_size (by repeat (first | (with_reducible first | exact HB.out ) ))) : w.heap.size ≤ gb346)); have n7_ := Aside0.mk ((by rw [hg]; exact Nat.ne_of_lt (blk_lt (g := gb337) (o := .cells #[.int .i64 0, .slice none 0 0] 32 (0, 0)) (by (with_reducible repeat (fail)); exact BK337.out)) : gb337 ≠ gb346)); have n8_ := Aside0.mk ((by rw [hg]; exact Nat.ne_of_gt (blk_lt (g := gb337) (o := .cells #[.int .i64 0, .slice none 0 0] 32 (0, 0)) (by (with_reducible repeat (fail)); exact BK337.out)) : gb346 ≠ gb337)); clear HO340; clear HO343; clear BK337; clear HB; have HO340 := n0_; have HO343 := n1_; have BK337 := n2_; have HB := n3_; have BK346 := n4_; have GW346 := n5_; have GE346 := n6_; have NB337_346 := n7_; have NB346_337 := n8_; clear n0_ n1_ n2_ n3_ n4_ n5_ n6_ n7_ n8_; clear hb hbox hg; obtain ⟨Ao11, co11, eo11⟩ := Kd.R_slice HO343.out; subst eo11; have hnb12 := NB346_337.out; have hnc12 := NB337_346.out; have hcz13_0 : w10.cell? ⟨gb346, 0, none⟩ = some (.slice none 0 0) := (blk_cell BK346.out 0).trans rfl; have hcz13_1 : w10.cell? ⟨gb346, 1, none⟩ = some (.string (⟨#[]⟩ : ByteArray)) := (blk_cell BK346.out 1).trans rfl; have hcz13_2 : w10.cell? ⟨gb346, 2, none⟩ = some (.int .i64 0) := (blk_cell BK346.out 2).trans rfl; have hfz13_0 := blk_frozen BK346.out 0; have hfz13_1 := blk_frozen BK346.out 1; have hfz13_2 := blk_frozen BK346.out 2; have p347 : 0 ≤ (0 : Int) := (by omega); have q347 : 0 < (t341.length : Int) := of_decide_eq_true (by first | (with_reducible assumption) ); obtain ⟨ad347, e347, hx347_0, hx347_1, hx347_2⟩ := at_T81 (Kd.R_reads' HO343.out).2.2 0 p347 q347; cases e347; have qi347 : (0 < t341.length) = True := eq_true (by omega); (try rw [show ((0 : Int)).toNat = 0 from rfl] at hx347_0); (try rw [show 0 * 3 = 0 from rfl] at hx347_0); (try rw [Addr.add_zero'] at hx347_0); (try rw [show ((0 : Int)).toNat = 0 from rfl] at hx347_1); (try rw [show 0 * 3 = 0 from rfl] at hx347_1); (try rw [Addr.add_zero'] at hx347_1); (try rw [show ((0 : Int)).toNat = 0 from rfl] at hx347_2); (try rw [show 0 * 3 = 0 from rfl] at hx347_2); (try rw [Addr.add_zero'] at hx347_2); have hn347_0 : ad347.block ≠ gb346 := Kd.own_blk (Kd.R_ne HO343.out BK346.out (by decide)); have hn347_1 : ad347.block ≠ gb346 := Kd.own_blk (Kd.R_ne HO343.out BK346.out (by decide)); have hn347_2 : ad347.block ≠ gb346 := Kd.own_blk (Kd.R_ne HO343.out BK346.out (by decide)); replace hx347_0 := (cell_far (p := ⟨gb346, 0, none⟩) (by first | exact hn347_0) (.slice (some ad347) t341.length co11)).trans hx347_0; replace hx347_1 := (cell_far (p := ⟨gb346, 0, none⟩) (by first | exact hn347_0) (.slice (some ad347) t341.length co11)).trans hx347_1; replace hx347_2 := (cell_far (p := ⟨gb346, 0, none⟩) (by first | exact hn347_0) (.slice (some ad347) t341.length co11)).trans hx347_2; replace hx347_0 := (cell_far (p := ⟨gb346, 1, none⟩) (by first | exact hn347_1) (.string t344)).trans hx347_0; replace hx347_1 := (cell_far (p := ⟨gb346, 1, none⟩) (by first | exact hn347_1) (.string t344)).trans hx347_1; replace hx347_2 := (cell_far (p := ⟨gb346, 1, none⟩) (by first | exact hn347_1) (.string t344)).trans hx347_2; replace hx347_0 := (cell_far (p := ⟨gb346, 2, none⟩) (by first | exact hn347_2) (.int .i64 t345)).trans hx347_0; replace hx347_1 := (cell_far (p := ⟨gb346, 2, none⟩) (by first | exact hn347_2) (.int .i64 t345)).trans hx347_1; replace hx347_2 := (cell_far (p := ⟨gb346, 2, none⟩) (by first | exact hn347_2) (.int .i64 t345)).trans hx347_2; clear hn347_0; clear hn347_1; clear hn347_2; replace p347 := eq_true p347; replace q347 := eq_true q347) | ((with_reducible refine gate_dst (N := 5) rfl ?_); refine box_event ?hg (N := 5) ?hd (cs := #[.int .i64 0, .slice none 0 0]) (t := 32) ?hr ?_; (case hd => rfl); (case hg => rfl); (case hr => first | (go_simp; done) ); intro gb348 hg w14 hbox hb; have n0_ := Aside0.mk (Kd.R_below (by (with_reducible repeat (fail)); exact (Kd.R_mono (Kd.R_far (p := ⟨gb346, 2, none⟩) (Kd.R_far (p := ⟨gb346, 1, none⟩) (Kd.R_far (p := ⟨gb346, 0, none⟩) (Kd.R_types HO340.out BK346.out (by decide)) (fun _ hk => hk.2) (.slice (some ad347) t341.length co11)) (fun _ hk => hk.2) (.string t344)) (fun _ hk => hk.2) (.int .i64 t345)) (fun _ h_ => h_.1))) hb); have n1_ := Aside0.mk (Kd.R_below (by (with_reducible repeat (fail)); exact (Kd.R_mono (Kd.R_far (p := ⟨gb346, 2, none⟩) (Kd.R_far (p := ⟨gb346, 1, none⟩) (Kd.R_far (p := ⟨gb346, 0, none⟩) (Kd.R_types HO343.out BK346.out (by decide)) (fun _ hk => hk.2) (.slice (some ad347) t341.length co11)) (fun _ hk => hk.2) (.string t344)) (fun _ hk => hk.2) (.int .i64 t345)) (fun _ h_ => h_.1))) hb); have n2_ := Aside0.mk (blk_below (g := gb337) (o := .cells #[.int .i64 0, .slice none 0 0] 32 (0, 0)) (by (with_reducible repeat (fail)); refine blk_far ?_ NB337_346.out _; (with_reducible repeat (fail)); refine blk_far ?_ NB337_346.out _; (with_reducible repeat (fail)); refine blk_far ?_ NB337_346.out _; (with_reducible repeat (fail)); exact BK337.out) hb); have n3_ := Aside0.mk (blk_below (g := gb346) (o := .cells #[.slice (some ad347) t341.length co11, .string t344, .int .i64 t345] 79 (0, 0)) (by (with_reducible repeat (fail)); refine blk_put (cs := #[.slice (some ad347) t341.length co11, .string t344, .int .i64 0]) ?_ 2 _ rfl; (with_reducible repeat (fail)); refine blk_put (cs := #[.slice (some ad347) t341.length co11, .string (⟨#[]⟩ : ByteArray), .int .i64 0]) ?_ 1 _ rfl; (with_reducible repeat (fail)); refine blk_put (cs := #[.slice none 0 0, .string (⟨#[]⟩ : ByteArray), .int .i64 0]) ?_ 0 _ rfl; (with_reducible repeat (fail)); exact BK346.out) hb); have n4_ := Aside0.mk (below_step (by repeat (first | (with_reducible first | exact HB.out | refine below_set ?_ GE346.out) )) hb); have n5_ := Aside0.mk (hbox); have n6_ := Aside0.mk ((by rw [hg]; exact (below_size (by repeat (first | (with_reducible first | exact HB.out | refine below_set ?_ GE346.out) ))) : w.heap.size ≤ gb348)); have n7_ := Aside0.mk ((by rw [hg]; exact (below_size (by repeat (first | (with_reducible first | exact HB.out | refine below_set ?_ GE346.out) ))) : w.heap.size ≤ gb348)); have n8_ := Aside0.mk ((by rw [hg]; exact Nat.ne_of_lt (blk_lt (g := gb337) (o := .cells #[.int .i64 0, .slice none 0 0] 32 (0, 0)) (by (with_reducible repeat (fail)); refine blk_far ?_ NB337_346.out _; (with_reducible repeat (fail)); refine blk_far ?_ NB337_346.out _; (with_reducible repeat (fail)); refine blk_far ?_ NB337_346.out _; (with_reducible repeat (fail)); exact BK337.out)) : gb337 ≠ gb348)); have n9_ := Aside0.mk ((by rw [hg]; exact Nat.ne_of_gt (blk_lt (g := gb337) (o := .cells #[.int .i64 0, .slice none 0 0] 32 (0, 0)) (by (with_reducible repeat (fail)); refine blk_far ?_ NB337_346.out _; (with_reducible repeat (fail)); refine blk_far ?_ NB337_346.out _; (with_reducible repeat (fail)); refine blk_far ?_ NB337_346.out _; (with_reducible repeat (fail)); exact BK337.out)) : gb348 ≠ gb337)); have n10_ := Aside0.mk ((by rw [hg]; exact Nat.ne_of_lt (blk_lt (g := gb346) (o := .cells #[.slice (some ad347) t341.length co11, .string t344, .int .i64 t345] 79 (0, 0)) (by (with_reducible repeat (fail)); refine blk_put (cs := #[.slice (some ad347) t341.length co11, .string t344, .int .i64 0]) ?_ 2 _ rfl; (with_reducible repeat (fail)); refine blk_put (cs := #[.slice (some ad347) t341.length co11, .string (⟨#[]⟩ : ByteArray), .int .i64 0]) ?_ 1 _ rfl; (with_reducible repeat (fail)); refine blk_put (cs := #[.slice none 0 0, .string (⟨#[]⟩ : ByteArray), .int .i64 0]) ?_ 0 _ rfl; (with_reducible repeat (fail)); exact BK346.out)) : gb346 ≠ gb348)); have n11_ := Aside0.mk ((by rw [hg]; exact Nat.ne_of_gt (blk_lt (g := gb346) (o := .cells #[.slice (some ad347) t341.length co11, .string t344, .int .i64 t345] 79 (0, 0)) (by (with_reducible repeat (fail)); refine blk_put (cs := #[.slice (some ad347) t341.length co11, .string t344, .int .i64 0]) ?_ 2 _ rfl; (with_reducible repeat (fail)); refine blk_put (cs := #[.slice (some ad347) t341.length co11, .string (⟨#[]⟩ : ByteArray), .int .i64 0]) ?_ 1 _ rfl; (with_reducible repeat (fail)); refine blk_put (cs := #[.slice none 0 0, .string (⟨#[]⟩ : ByteArray), .int .i64 0]) ?_ 0 _ rfl; (with_reducible repeat (fail)); exact BK346.out)) : gb348 ≠ gb346)); clear HO340; clear HO343; clear BK337; clear BK346; clear HB; have HO340 := n0_; have HO343 := n1_; have BK337 := n2_; have BK346 := n3_; have HB := n4_; have BK348 := n5_; have GW348 := n6_; have GE348 := n7_; have NB337_348 := n8_; have NB348_337 := n9_; have NB346_348 := n10_; have NB348_346 := n11_; clear n0_ n1_ n2_ n3_ n4_ n5_ n6_ n7_ n8_ n9_ n10_ n11_; clear hb hbox hg; have hnb15 := NB348_337.out; have hnc15 := NB337_348.out; have hnb16 := NB348_346.out; have hnc16 := NB346_348.out; have hcz17_0 : w14.cell? ⟨gb348, 0, none⟩ = some (.int .i64 0) := (blk_cell BK348.out 0).trans rfl; have hcz17_1 : w14.cell? ⟨gb348, 1, none⟩ = some (.slice none 0 0) := (blk_cell BK348.out 1).trans rfl; have hfz17_0 := blk_frozen BK348.out 0; have hfz17_1 := blk_frozen BK348.out 1; have hcz18_0 : w14.cell? ⟨gb346, 0, none⟩ = some (.slice (some ad347) t341.length co11) := (blk_cell BK346.out 0).trans rfl; have hcz18_1 : w14.cell? ⟨gb346, 1, none⟩ = some (.string t344) := (blk_cell BK346.out 1).trans rfl; have hcz18_2 : w14.cell? ⟨gb346, 2, none⟩ = some (.int .i64 t345) := (blk_cell BK346.out 2).trans rfl; have hfz18_0 := blk_frozen BK346.out 0; have hfz18_1 := blk_frozen BK346.out 1; have hfz18_2 := blk_frozen BK346.out 2))
   go_loopg [6, 7] k (fun kq v6 v7 w' => ∃ (x6_1 : ByteArray) (x7_1 : Int) (x338000_1 : Int) (x349001_1 : List (S62)) (u349001 : Value), v6 = .string x6_1 ∧ v7 = .int .i64 x7_1 ∧ Aside0 (caduceusref14_Read.l0 kq a0 x6_1 x7_1 t341 t344 t345 ((rd_T81 t341 0).f1) x349001_1 = some (r1, r2, r3)) ∧ Aside0 (kq ≤ k) ∧ Aside0 (Kd.R k81 81 w' w.heap.size (fun _ => True) (.slice (some ad347) t341.length co11) t341) ∧ Aside0 (Kd.R k62 62 w' w.heap.size (fun _ => True) u349001 x349001_1) ∧ Aside0 (w'.heap[gb337]? = some (.cells #[.int .i64 x338000_1, (.slice none 0 0)] 32 (0, 0))) ∧ Aside0 (w'.heap[gb346]? = some (.cells #[(.slice (some ad347) t341.length co11), .string t344, .int .i64 t345] 79 (0, 0))) ∧ Aside0 (w'.heap[gb348]? = some (.cells #[.int .i64 ((rd_T81 t341 0).f1), u349001] 32 (0, 0))) ∧ Aside0 (Below w.heap.size w w'))
   case atStart => exact ⟨(t344), (0), (0), (([] : List (S62))), (.slice none 0 0), (by first | rfl ), (by first | rfl ), H', ⟨Nat.le_refl _⟩, ⟨by (with_reducible repeat (fail)); exact Kd.R_mono (Kd.R_far (p := ⟨gb348, 1, none⟩) (Kd.R_far (p := ⟨gb348, 0, none⟩) (Kd.R_types HO343.out BK348.out (by decide)) (fun _ hk => hk.2) (.int .i64 ((rd_T81 t341 0).f1))) (fun _ hk => hk.2) (.slice none 0 0)) (fun _ hk => trivial)⟩, ⟨by first | exact Kd.R_nil _ _ _ _ _ ⟩, ⟨by (with_reducible repeat (fail)); refine blk_far ?_ NB337_348.out _; (with_reducible repeat (fail)); refine blk_far ?_ NB337_348.out _; (with_reducible repeat (fail)); exact BK337.out⟩, ⟨by (with_reducible repeat (fail)); refine blk_far ?_ NB346_348.out _; (with_reducible repeat (fail)); refine blk_far ?_ NB346_348.out _; (with_reducible repeat (fail)); exact BK346.out⟩, ⟨by (with_reducible repeat (fail)); refine blk_put (cs := #[.int .i64 ((rd_T81 t341 0).f1), .slice none 0 0]) ?_ 1 _ rfl; (with_reducible repeat (fail)); refine blk_put (cs := #[.int .i64 0, .slice none 0 0]) ?_ 0 _ rfl; (with_reducible repeat (fail)); exact BK348.out⟩, ⟨by repeat (first | (with_reducible first | exact HB.out | refine below_set ?_ GE348.out) )⟩⟩
   case round =>
    clear H'
    try clear c1
    try clear c2
    try clear p2
    try clear c3
    try clear c3b0
    try clear c3b1
    try clear p3
    try clear q3
    try clear hx3
    try clear qi3
    try clear c4
    try clear c4b0
    try clear c4b1
    try clear c12
    try clear c15
    try clear c16
    try clear hcz13_0
    try clear hcz13_1
    try clear hcz13_2
    try clear hcz17_0
    try clear hcz17_1
    try clear hcz18_0
    try clear hcz18_1
    try clear hcz18_2
    try clear hfz13_0
    try clear hfz13_1
    try clear hfz13_2
    try clear hfz17_0
    try clear hfz17_1
    try clear hfz18_0
    try clear hfz18_1
    try clear hfz18_2
    try clear hx347_0
    try clear hx347_1
    try clear hx347_2
    try clear p347
    try clear q347
    obtain ⟨x6_1, x7_1, x338000_1, x349001_1, u349001, rfl, rfl, HA, HK1, HO_347000, HO_349001, BK337, BK346, BK348, HB⟩ := hrel
    cases gk with
    | zero => exact absurd HA.out (by simp [caduceusref14_Read.l0])
    | succ k1 =>
     have H := HA.out
     clear HA
     simp only [caduceusref14_Read.l0] at H
     have HC19 := Aside0.mk H
     clear H
     go_upto_region 7 with (fail)
     go_cut [34] (fun v34 wc => ∃ (kq : Nat) (x34_18 : Bool), v34 = .bool x34_18 ∧ Aside0 (caduceusref14_Read.j1 kq a0 x6_1 x7_1 x34_18 t341 t344 t345 ((rd_T81 t341 0).f1) x349001_1 = some (r1, r2, r3)) ∧ Aside0 (kq ≤ k1) ∧ Aside0 (Kd.R k81 81 wc w.heap.size (fun _ => True) (.slice (some ad347) t341.length co11) t341) ∧ Aside0 (Kd.R k62 62 wc w.heap.size (fun _ => True) u349001 x349001_1) ∧ Aside0 (wc.heap[gb337]? = some (.cells #[.int .i64 x338000_1, (.slice none 0 0)] 32 (0, 0))) ∧ Aside0 (wc.heap[gb346]? = some (.cells #[(.slice (some ad347) t341.length co11), .string t344, .int .i64 t345] 79 (0, 0))) ∧ Aside0 (wc.heap[gb348]? = some (.cells #[.int .i64 ((rd_T81 t341 0).f1), u349001] 32 (0, 0))) ∧ Aside0 (Below w.heap.size w wc))
     case first =>
      have H := HC19.out
      clear HC19
      by_cases c20 : 1 < (t341.length : Int)
      ·rw [if_pos c20] at H
       have c20b0 : decide (1 < (t341.length : Int)) = true := decide_eq_true c20
       have c20b1 : decide (1 < t341.length) = true := decide_eq_true (by omega)
       clear c20
       (first | skip)
       by_cases c21 : x7_1 < ((rd_T81 t341 1).f1)
       ·rw [if_pos c21] at H
        have c21b0 : decide (x7_1 < ((rd_T81 t341 1).f1)) = true := decide_eq_true c21
        clear c21
        have H' := Aside0.mk H
        clear H
        have hnb22 := NB346_337.out
        have hnc22 := NB337_346.out
        have hnb23 := NB346_348.out
        have hnc23 := NB348_346.out
        have hcz24_0 : wr.cell? ⟨gb346, 0, none⟩ = some (.slice (some ad347) t341.length co11) := (blk_cell BK346.out 0).trans rfl
        have hcz24_1 : wr.cell? ⟨gb346, 1, none⟩ = some (.string t344) := (blk_cell BK346.out 1).trans rfl
        have hcz24_2 : wr.cell? ⟨gb346, 2, none⟩ = some (.int .i64 t345) := (blk_cell BK346.out 2).trans rfl
        have hfz24_0 := blk_frozen BK346.out 0
        have hfz24_1 := blk_frozen BK346.out 1
        have hfz24_2 := blk_frozen BK346.out 2
        have p349 : 0 ≤ (1 : Int) := (by omega)
        have q349 : 1 < (t341.length : Int) := of_decide_eq_true (by first | (with_reducible assumption) )
        obtain ⟨ad349, e349, hx349_0, hx349_1, hx349_2⟩ := at_T81 (Kd.R_reads' HO_347000.out).2.2 1 p349 q349
        obtain rfl : ad347 = ad349 := (by injection e349)
        (try simp only [show (1 : Int).toNat = 1 from rfl, Nat.reduceMul, Nat.reduceEqDiff, Go.Addr.add, ↓reduceIte] at hx349_0)
        (try simp only [show (1 : Int).toNat = 1 from rfl, Nat.reduceMul, Nat.reduceEqDiff, Go.Addr.add, ↓reduceIte] at hx349_1)
        (try simp only [show (1 : Int).toNat = 1 from rfl, Nat.reduceMul, Nat.reduceEqDiff, Go.Addr.add, ↓reduceIte] at hx349_2)
        have qi349 : (1 < t341.length) = True := eq_true (by omega)
        (try rw [show ((1 : Int)).toNat = 1 from rfl] at hx349_0)
        (try rw [show 1 * 3 = 3 from rfl] at hx349_0)
        (try rw [show ((1 : Int)).toNat = 1 from rfl] at hx349_1)
        (try rw [show 1 * 3 = 3 from rfl] at hx349_1)
        (try rw [show ((1 : Int)).toNat = 1 from rfl] at hx349_2)
        (try rw [show 1 * 3 = 3 from rfl] at hx349_2)
        replace p349 := eq_true p349
        replace q349 := eq_true q349
        go_wp2
        go_meet
        case rel => exact ⟨_, (decide (x7_1 < 16)), (by first | rfl ), H', ⟨by have := HK1.out; first | omega ⟩, ⟨by (with_reducible repeat (fail)); exact HO_347000.out⟩, ⟨by (with_reducible repeat (fail)); exact HO_349001.out⟩, ⟨by (with_reducible repeat (fail)); exact BK337.out⟩, ⟨by (with_reducible repeat (fail)); exact BK346.out⟩, ⟨by (with_reducible repeat (fail)); exact BK348.out⟩, ⟨by repeat (first | (with_reducible first | exact HB.out ) )⟩⟩
       ·rw [if_neg c21] at H
        have c21b0 : decide (x7_1 < ((rd_T81 t341 1).f1)) = false := decide_eq_false c21
        clear c21
        have H' := Aside0.mk H
        clear H
        have hnb25 := NB346_337.out
        have hnc25 := NB337_346.out
        have hnb26 := NB346_348.out
        have hnc26 := NB348_346.out
        have hcz27_0 : wr.cell? ⟨gb346, 0, none⟩ = some (.slice (some ad347) t341.length co11) := (blk_cell BK346.out 0).trans rfl
        have hcz27_1 : wr.cell? ⟨gb346, 1, none⟩ = some (.string t344) := (blk_cell BK346.out 1).trans rfl
        have hcz27_2 : wr.cell? ⟨gb346, 2, none⟩ = some (.int .i64 t345) := (blk_cell BK346.out 2).trans rfl
        have hfz27_0 := blk_frozen BK346.out 0
        have hfz27_1 := blk_frozen BK346.out 1
        have hfz27_2 := blk_frozen BK346.out 2
        have p349 : 0 ≤ (1 : Int) := (by omega)
        have q349 : 1 < (t341.length : Int) := of_decide_eq_true (by first | (with_reducible assumption) )
        obtain ⟨ad349, e349, hx349_0, hx349_1, hx349_2⟩ := at_T81 (Kd.R_reads' HO_347000.out).2.2 1 p349 q349
        obtain rfl : ad347 = ad349 := (by injection e349)
        (try simp only [show (1 : Int).toNat = 1 from rfl, Nat.reduceMul, Nat.reduceEqDiff, Go.Addr.add, ↓reduceIte] at hx349_0)
        (try simp only [show (1 : Int).toNat = 1 from rfl, Nat.reduceMul, Nat.reduceEqDiff, Go.Addr.add, ↓reduceIte] at hx349_1)
        (try simp only [show (1 : Int).toNat = 1 from rfl, Nat.reduceMul, Nat.reduceEqDiff, Go.Addr.add, ↓reduceIte] at hx349_2)
        have qi349 : (1 < t341.length) = True := eq_true (by omega)
        (try rw [show ((1 : Int)).toNat = 1 from rfl] at hx349_0)
        (try rw [show 1 * 3 = 3 from rfl] at hx349_0)
        (try rw [show ((1 : Int)).toNat = 1 from rfl] at hx349_1)
        (try rw [show 1 * 3 = 3 from rfl] at hx349_1)
        (try rw [show ((1 : Int)).toNat = 1 from rfl] at hx349_2)
        (try rw [show 1 * 3 = 3 from rfl] at hx349_2)
        replace p349 := eq_true p349
        replace q349 := eq_true q349
        go_wp2
        go_meet
        case rel => exact ⟨_, (false), (by first | rfl ), H', ⟨by have := HK1.out; first | omega ⟩, ⟨by (with_reducible repeat (fail)); exact HO_347000.out⟩, ⟨by (with_reducible repeat (fail)); exact HO_349001.out⟩, ⟨by (with_reducible repeat (fail)); exact BK337.out⟩, ⟨by (with_reducible repeat (fail)); exact BK346.out⟩, ⟨by (with_reducible repeat (fail)); exact BK348.out⟩, ⟨by repeat (first | (with_reducible first | exact HB.out ) )⟩⟩
      ·rw [if_neg c20] at H
       exact absurd H (by simp)
     case rest =>
      clear HC19
      try clear c1
      try clear c2
      try clear p2
      try clear c3
      try clear c3b0
      try clear c3b1
      try clear p3
      try clear q3
      try clear hx3
      try clear qi3
      try clear c4
      try clear c4b0
      try clear c4b1
      try clear c12
      try clear c15
      try clear c16
      try clear c20
      try clear c20b0
      try clear c20b1
      try clear c21
      try clear c21b0
      try clear c22
      try clear c23
      try clear c25
      try clear c26
      try clear c27
      try clear hcz13_0
      try clear hcz13_1
      try clear hcz13_2
      try clear hcz17_0
      try clear hcz17_1
      try clear hcz18_0
      try clear hcz18_1
      try clear hcz18_2
      try clear hcz24_0
      try clear hcz24_1
      try clear hcz24_2
      try clear hcz27_0
      try clear hcz27_1
      try clear hcz27_2
      try clear hfz13_0
      try clear hfz13_1
      try clear hfz13_2
      try clear hfz17_0
      try clear hfz17_1
      try clear hfz18_0
      try clear hfz18_1
      try clear hfz18_2
      try clear hfz24_0
      try clear hfz24_1
      try clear hfz24_2
      try clear hfz27_0
      try clear hfz27_1
      try clear hfz27_2
      try clear hx347_0
      try clear hx347_1
      try clear hx347_2
      try clear hx349_0
      try clear hx349_1
      try clear hx349_2
      try clear p2
      try clear p3
      try clear p347
      try clear p349
      try clear q3
      try clear q347
      try clear q349
      obtain ⟨kq, x34_18, rfl, HA, HJ18, HO_347000, HO_349001, BK337, BK346, BK348, HB⟩ := hcut
      cases kq with
      | zero => exact absurd HA.out (by simp [caduceusref14_Read.j1])
      | succ kj18 =>
       have H := HA.out
       clear HA
       simp only [caduceusref14_Read.j1] at H
       by_cases c28 : x34_18 = true
       ·subst c28
        have H1 : ((caduceusref01_Take.f kj18 x6_1 (([1, 1, 3] : List Int))).bind fun bt353 => (if bt353.2.2 = 0 then (if 0 < (bt353.1.length : Int) then (if 1 < (bt353.1.length : Int) then (if 2 < (bt353.1.length : Int) then (if x349001_1.length < 5864062014805 then (caduceusref14_Read.l0 kj18 a0 bt353.2.1 (wrap64 (x7_1 + 1)) t341 t344 t345 ((rd_T81 t341 0).f1) (x349001_1 ++ [(⟨(rd_T81 bt353.1 0).f1, (rd_T81 bt353.1 1).f1, (((rd_T81 bt353.1 2).f1) == 1)⟩ : S62)])) else (none)) else (none)) else (none)) else (none)) else (some (0, ([] : List (S62)), 3)))) = some (r1, r2, r3) := by rw [if_pos rfl] at H; exact H
        clear H
        have H := H1
        clear H1
        obtain ⟨y350, hy350⟩ : ∃ y_ : List Int, y_ = (([1, 1, 3] : List Int)) := ⟨_, rfl⟩
        replace H : ((caduceusref01_Take.f kj18 x6_1 y350).bind fun bt353 => (if bt353.2.2 = 0 then (if 0 < (bt353.1.length : Int) then (if 1 < (bt353.1.length : Int) then (if 2 < (bt353.1.length : Int) then (if x349001_1.length < 5864062014805 then (caduceusref14_Read.l0 kj18 a0 bt353.2.1 (wrap64 (x7_1 + 1)) t341 t344 t345 ((rd_T81 t341 0).f1) (x349001_1 ++ [(⟨(rd_T81 bt353.1 0).f1, (rd_T81 bt353.1 1).f1, (((rd_T81 bt353.1 2).f1) == 1)⟩ : S62)])) else (none)) else (none)) else (none)) else (none)) else (some (0, ([] : List (S62)), 3)))) = some (r1, r2, r3) := by first | (rw [hy350]; with_reducible exact H)
        have Ny350 := Aside0.mk hy350
        clear hy350
        replace H := Option.bind_eq_some_iff.mp H
        obtain ⟨⟨t353, t356, t357⟩, A290, H⟩ := H
        replace H : (if t357 = 0 then (if 0 < (t353.length : Int) then (if 1 < (t353.length : Int) then (if 2 < (t353.length : Int) then (if x349001_1.length < 5864062014805 then (caduceusref14_Read.l0 kj18 a0 t356 (wrap64 (x7_1 + 1)) t341 t344 t345 ((rd_T81 t341 0).f1) (x349001_1 ++ [(⟨(rd_T81 t353 0).f1, (rd_T81 t353 1).f1, (((rd_T81 t353 2).f1) == 1)⟩ : S62)])) else (none)) else (none)) else (none)) else (none)) else (some (0, ([] : List (S62)), 3))) = some (r1, r2, r3) := H
        have A29 := Aside0.mk A290
        clear A290
        by_cases c30 : t357 = 0
        ·rw [if_pos c30] at H
         have c30b0 : (t357 == 0) = true := beq_iff_eq.mpr c30
         have c30b1 : (t357 != 0) = false := bne_eq_false_iff_eq.mpr c30
         clear c30
         by_cases c31 : 0 < (t353.length : Int)
         ·rw [if_pos c31] at H
          have c31b0 : decide (0 < (t353.length : Int)) = true := decide_eq_true c31
          have c31b1 : decide (0 < t353.length) = true := decide_eq_true (by omega)
          clear c31
          by_cases c32 : 1 < (t353.length : Int)
          ·rw [if_pos c32] at H
           have c32b0 : decide (1 < (t353.length : Int)) = true := decide_eq_true c32
           have c32b1 : decide (1 < t353.length) = true := decide_eq_true (by omega)
           clear c32
           by_cases c33 : 2 < (t353.length : Int)
           ·rw [if_pos c33] at H
            have c33b0 : decide (2 < (t353.length : Int)) = true := decide_eq_true c33
            have c33b1 : decide (2 < t353.length) = true := decide_eq_true (by omega)
            clear c33
            by_cases c34 : x349001_1.length < 5864062014805
            ·rw [if_pos c34] at H
             have LMc34 := Aside0.mk c34
             clear c34
             obtain ⟨y362, hy362⟩ : ∃ y_ : List (S62), y_ = (x349001_1 ++ [(⟨(rd_T81 t353 0).f1, (rd_T81 t353 1).f1, (((rd_T81 t353 2).f1) == 1)⟩ : S62)]) := ⟨_, rfl⟩
             replace H : (caduceusref14_Read.l0 kj18 a0 t356 (wrap64 (x7_1 + 1)) t341 t344 t345 ((rd_T81 t341 0).f1) y362) = some (r1, r2, r3) := by first | (rw [hy362]; with_reducible exact H)
             have Ny362 := Aside0.mk hy362
             clear hy362
             have H' := Aside0.mk H
             clear H
             try go_wp2_with (first | ((with_reducible refine gate_dst (N := 38) rfl ?_); refine Kd.R_lit (Kd.int .i64) _ 3 ?hg (N := 38) ?hd (xs := ([1, 1, 3] : List Int)) (inner := [.int .i64 1, .int .i64 1, .int .i64 3]) (ok := fun _ => True) (okp := fun _ => True) ?hr ?hp (fun _ hk => hk) trivial (Below.refl _ _) (Nat.le_refl _) (by simp) ?_; (case hd => rfl); (case hg => rfl); (case hr => first | (go_simp; done) ); (case hp => exact (Reps.one (show Kd.M (Kd.int .i64) _ _ _ 1 [.int .i64 1] from rfl) (Reps.one (show Kd.M (Kd.int .i64) _ _ _ 1 [.int .i64 1] from rfl) (Reps.one (show Kd.M (Kd.int .i64) _ _ _ 3 [.int .i64 3] from rfl) (Reps.none _ _))))); intro v351 w35 ho36 hb hg_ hnew_; clear hg_ hnew_; (first | rw [← Ny350.out] at ho36 ); have n0_ := Aside0.mk (Kd.R_below (by (with_reducible repeat (fail)); exact HO_347000.out) hb); have n1_ := Aside0.mk (Kd.R_below (by (with_reducible repeat (fail)); exact HO_349001.out) hb); have n2_ := Aside0.mk (Kd.R_lower ho36 (below_size (by repeat (first | (with_reducible first | exact HB.out ) )))); have n3_ := Aside0.mk (blk_below (g := gb337) (o := .cells #[.int .i64 x338000_1, .slice none 0 0] 32 (0, 0)) (by (with_reducible repeat (fail)); exact BK337.out) hb); have n4_ := Aside0.mk (blk_below (g := gb346) (o := .cells #[.slice (some ad347) t341.length co11, .string t344, .int .i64 t345] 79 (0, 0)) (by (with_reducible repeat (fail)); exact BK346.out) hb); have n5_ := Aside0.mk (blk_below (g := gb348) (o := .cells #[.int .i64 ((rd_T81 t341 0).f1), u349001] 32 (0, 0)) (by (with_reducible repeat (fail)); exact BK348.out) hb); have n6_ := Aside0.mk (below_step (by repeat (first | (with_reducible first | exact HB.out ) )) hb); clear HO_347000; clear HO_349001; clear BK337; clear BK346; clear BK348; clear HB; have HO_347000 := n0_; have HO_349001 := n1_; have HO352 := n2_; have BK337 := n3_; have BK346 := n4_; have BK348 := n5_; have HB := n6_; clear n0_ n1_ n2_ n3_ n4_ n5_ n6_; clear hb ho36; obtain ⟨Ao37, co37, eo37⟩ := Kd.R_slice HO352.out; subst eo37) | ((with_reducible refine gate_callee (f := 42) rfl ?_); refine goesL_ (some 39) rfl rfl Try.func42 (by kernel_rfl) rfl #[.string x6_1, .slice Ao37 y350.length co37] rfl (by (try simp only [List.map_toArray, List.map_cons, List.map_nil]); first | rfl ) ?_; (with_reducible refine (caduceusref01_Take.calls kj18 x6_1 _ _ y350 t353 t356 t357 _ ?side1 ?side2 A29.out).mono ?_); (case side1 => repeat (first | exact (Kd.R_reads' HO352.out).2.2 )); (case side2 => exact (Kd.R_reads' HO352.out).2.1); rintro e w38 ⟨v354, rfl, ho0, hb⟩; refine ⟨_, rfl, ?_⟩; have n0_ := Aside0.mk (Kd.R_elder' (by (with_reducible repeat (fail)); exact HO_347000.out) (Kd.R_base ho0) hb); have n1_ := Aside0.mk (Kd.R_below (by (with_reducible repeat (fail)); exact HO_349001.out) hb); have n2_ := Aside0.mk (Kd.R_below (by (with_reducible repeat (fail)); exact HO352.out) hb); have n3_ := Aside0.mk (Kd.R_lower (Kd.R_new' ho0 (Kd.R_lt (by (with_reducible repeat (fail)); exact HO_347000.out))) (below_size (by repeat (first | (with_reducible first | exact HB.out ) )))); have n4_ := Aside0.mk (blk_below (g := gb337) (o := .cells #[.int .i64 x338000_1, .slice none 0 0] 32 (0, 0)) (by (with_reducible repeat (fail)); exact BK337.out) hb); have n5_ := Aside0.mk (blk_below (g := gb346) (o := .cells #[.slice (some ad347) t341.length co11, .string t344, .int .i64 t345] 79 (0, 0)) (by (with_reducible repeat (fail)); exact BK346.out) hb); have n6_ := Aside0.mk (blk_below (g := gb348) (o := .cells #[.int .i64 ((rd_T81 t341 0).f1), u349001] 32 (0, 0)) (by (with_reducible repeat (fail)); exact BK348.out) hb); have n7_ := Aside0.mk (below_step (by repeat (first | (with_reducible first | exact HB.out ) )) hb); clear HO_347000; clear HO_349001; clear HO352; clear BK337; clear BK346; clear BK348; clear HB; have HO_347000 := n0_; have HO_349001 := n1_; have HO352 := n2_; have HO355 := n3_; have BK337 := n4_; have BK346 := n5_; have BK348 := n6_; have HB := n7_; clear n0_ n1_ n2_ n3_ n4_ n5_ n6_ n7_; (try clear hb); (try clear hb2); (try clear hk); (try clear hi); (try clear ho0)) | ((with_reducible refine gate_dst (N := 8) rfl ?_); refine box_event ?hg (N := 8) ?hd (cs := #[.slice none 0 0, .string (⟨#[]⟩ : ByteArray), .int .i64 0]) (t := 79) ?hr ?_; (case hd => rfl); (case hg => rfl); (case hr => first | (go_simp; done) ); intro gb358 hg w39 hbox hb; have n0_ := Aside0.mk (Kd.R_below (by (with_reducible repeat (fail)); exact HO_347000.out) hb); have n1_ := Aside0.mk (Kd.R_below (by (with_reducible repeat (fail)); exact HO_349001.out) hb); have n2_ := Aside0.mk (Kd.R_below (by (with_reducible repeat (fail)); exact HO352.out) hb); have n3_ := Aside0.mk (Kd.R_below (by (with_reducible repeat (fail)); exact HO355.out) hb); have n4_ := Aside0.mk (blk_below (g := gb337) (o := .cells #[.int .i64 x338000_1, .slice none 0 0] 32 (0, 0)) (by (with_reducible repeat (fail)); exact BK337.out) hb); have n5_ := Aside0.mk (blk_below (g := gb346) (o := .cells #[.slice (some ad347) t341.length co11, .string t344, .int .i64 t345] 79 (0, 0)) (by (with_reducible repeat (fail)); exact BK346.out) hb); have n6_ := Aside0.mk (blk_below (g := gb348) (o := .cells #[.int .i64 ((rd_T81 t341 0).f1), u349001] 32 (0, 0)) (by (with_reducible repeat (fail)); exact BK348.out) hb); have n7_ := Aside0.mk (below_step (by repeat (first | (with_reducible first | exact HB.out ) )) hb); have n8_ := Aside0.mk (hbox); have n9_ := Aside0.mk ((by rw [hg]; exact (below_size (by repeat (first | (with_reducible first | exact HB.out ) ))) : w.heap.size ≤ gb358)); have n10_ := Aside0.mk ((by rw [hg]; exact (below_size (by repeat (first | (with_reducible first | exact HB.out ) ))) : w.heap.size ≤ gb358)); have n11_ := Aside0.mk ((by rw [hg]; exact Nat.ne_of_lt (blk_lt (g := gb337) (o := .cells #[.int .i64 x338000_1, .slice none 0 0] 32 (0, 0)) (by (with_reducible repeat (fail)); exact BK337.out)) : gb337 ≠ gb358)); have n12_ := Aside0.mk ((by rw [hg]; exact Nat.ne_of_gt (blk_lt (g := gb337) (o := .cells #[.int .i64 x338000_1, .slice none 0 0] 32 (0, 0)) (by (with_reducible repeat (fail)); exact BK337.out)) : gb358 ≠ gb337)); have n13_ := Aside0.mk ((by rw [hg]; exact Nat.ne_of_lt (blk_lt (g := gb346) (o := .cells #[.slice (some ad347) t341.length co11, .string t344, .int .i64 t345] 79 (0, 0)) (by (with_reducible repeat (fail)); exact BK346.out)) : gb346 ≠ gb358)); have n14_ := Aside0.mk ((by rw [hg]; exact Nat.ne_of_gt (blk_lt (g := gb346) (o := .cells #[.slice (some ad347) t341.length co11, .string t344, .int .i64 t345] 79 (0, 0)) (by (with_reducible repeat (fail)); exact BK346.out)) : gb358 ≠ gb346)); have n15_ := Aside0.mk ((by rw [hg]; exact Nat.ne_of_lt (blk_lt (g := gb348) (o := .cells #[.int .i64 ((rd_T81 t341 0).f1), u349001] 32 (0, 0)) (by (with_reducible repeat (fail)); exact BK348.out)) : gb348 ≠ gb358)); have n16_ := Aside0.mk ((by rw [hg]; exact Nat.ne_of_gt (blk_lt (g := gb348) (o := .cells #[.int .i64 ((rd_T81 t341 0).f1), u349001] 32 (0, 0)) (by (with_reducible repeat (fail)); exact BK348.out)) : gb358 ≠ gb348)); clear HO_347000; clear HO_349001; clear HO352; clear HO355; clear BK337; clear BK346; clear BK348; clear HB; have HO_347000 := n0_; have HO_349001 := n1_; have HO352 := n2_; have HO355 := n3_; have BK337 := n4_; have BK346 := n5_; have BK348 := n6_; have HB := n7_; have BK358 := n8_; have GW358 := n9_; have GE358 := n10_; have NB337_358 := n11_; have NB358_337 := n12_; have NB346_358 := n13_; have NB358_346 := n14_; have NB348_358 := n15_; have NB358_348 := n16_; clear n0_ n1_ n2_ n3_ n4_ n5_ n6_ n7_ n8_ n9_ n10_ n11_ n12_ n13_ n14_ n15_ n16_; clear hb hbox hg; obtain ⟨Ao40, co40, eo40⟩ := Kd.R_slice HO355.out; subst eo40; have hnb41 := NB358_337.out; have hnc41 := NB337_358.out; have hnb42 := NB358_346.out; have hnc42 := NB346_358.out; have hnb43 := NB358_348.out; have hnc43 := NB348_358.out; have hcz44_0 : w39.cell? ⟨gb358, 0, none⟩ = some (.slice none 0 0) := (blk_cell BK358.out 0).trans rfl; have hcz44_1 : w39.cell? ⟨gb358, 1, none⟩ = some (.string (⟨#[]⟩ : ByteArray)) := (blk_cell BK358.out 1).trans rfl; have hcz44_2 : w39.cell? ⟨gb358, 2, none⟩ = some (.int .i64 0) := (blk_cell BK358.out 2).trans rfl; have hfz44_0 := blk_frozen BK358.out 0; have hfz44_1 := blk_frozen BK358.out 1; have hfz44_2 := blk_frozen BK358.out 2))
             have n0_ : Aside0 (Kd.R k81 81 (((w39.setCell ⟨gb358, 0, none⟩ (.slice Ao40 t353.length co40)).setCell ⟨gb358, 1, none⟩ (.string t356)).setCell ⟨gb358, 2, none⟩ (.int .i64 t357)) w.heap.size (fun k_ => some k_ ≠ (.slice Ao40 t353.length co40 : Value).ownBlock) (.slice (some ad347) t341.length co11) t341) := ⟨by (with_reducible repeat (fail)); exact Kd.R_mono (Kd.R_far (p := ⟨gb358, 2, none⟩) (Kd.R_far (p := ⟨gb358, 1, none⟩) (Kd.R_far (p := ⟨gb358, 0, none⟩) (Kd.R_types HO_347000.out BK358.out (by decide)) (fun _ hk => hk.2) (.slice Ao40 t353.length co40)) (fun _ hk => hk.2) (.string t356)) (fun _ hk => hk.2) (.int .i64 t357)) (fun _ hk => hk.1.2)⟩
             have n1_ : Aside0 (Kd.R k62 62 (((w39.setCell ⟨gb358, 0, none⟩ (.slice Ao40 t353.length co40)).setCell ⟨gb358, 1, none⟩ (.string t356)).setCell ⟨gb358, 2, none⟩ (.int .i64 t357)) w.heap.size (fun _ => True) u349001 x349001_1) := ⟨by (with_reducible repeat (fail)); exact Kd.R_mono (Kd.R_far (p := ⟨gb358, 2, none⟩) (Kd.R_far (p := ⟨gb358, 1, none⟩) (Kd.R_far (p := ⟨gb358, 0, none⟩) (Kd.R_types HO_349001.out BK358.out (by decide)) (fun _ hk => hk.2) (.slice Ao40 t353.length co40)) (fun _ hk => hk.2) (.string t356)) (fun _ hk => hk.2) (.int .i64 t357)) (fun _ hk => trivial)⟩
             have n2_ : Aside0 (Kd.R (Kd.int .i64) 3 (((w39.setCell ⟨gb358, 0, none⟩ (.slice Ao40 t353.length co40)).setCell ⟨gb358, 1, none⟩ (.string t356)).setCell ⟨gb358, 2, none⟩ (.int .i64 t357)) w.heap.size (fun _ => True) (.slice Ao37 y350.length co37) y350) := ⟨by (with_reducible repeat (fail)); exact Kd.R_mono (Kd.R_far (p := ⟨gb358, 2, none⟩) (Kd.R_far (p := ⟨gb358, 1, none⟩) (Kd.R_far (p := ⟨gb358, 0, none⟩) (Kd.R_types HO352.out BK358.out (by decide)) (fun _ hk => hk.2) (.slice Ao40 t353.length co40)) (fun _ hk => hk.2) (.string t356)) (fun _ hk => hk.2) (.int .i64 t357)) (fun _ hk => trivial)⟩
             have n3_ : Aside0 (Kd.R k81 81 (((w39.setCell ⟨gb358, 0, none⟩ (.slice Ao40 t353.length co40)).setCell ⟨gb358, 1, none⟩ (.string t356)).setCell ⟨gb358, 2, none⟩ (.int .i64 t357)) w.heap.size (fun k_ => some k_ ≠ (.slice (some ad347) t341.length co11 : Value).ownBlock) (.slice Ao40 t353.length co40) t353) := ⟨by (with_reducible repeat (fail)); exact Kd.R_mono (Kd.R_far (p := ⟨gb358, 2, none⟩) (Kd.R_far (p := ⟨gb358, 1, none⟩) (Kd.R_far (p := ⟨gb358, 0, none⟩) (Kd.R_types HO355.out BK358.out (by decide)) (fun _ hk => hk.2) (.slice Ao40 t353.length co40)) (fun _ hk => hk.2) (.string t356)) (fun _ hk => hk.2) (.int .i64 t357)) (fun _ hk => hk.1.2)⟩
             have n4_ : Aside0 ((((w39.setCell ⟨gb358, 0, none⟩ (.slice Ao40 t353.length co40)).setCell ⟨gb358, 1, none⟩ (.string t356)).setCell ⟨gb358, 2, none⟩ (.int .i64 t357)).heap[gb337]? = some (.cells #[.int .i64 x338000_1, .slice none 0 0] 32 (0, 0))) := ⟨by (with_reducible repeat (fail)); refine blk_far ?_ NB337_358.out _; (with_reducible repeat (fail)); refine blk_far ?_ NB337_358.out _; (with_reducible repeat (fail)); refine blk_far ?_ NB337_358.out _; (with_reducible repeat (fail)); exact BK337.out⟩
             have n5_ : Aside0 ((((w39.setCell ⟨gb358, 0, none⟩ (.slice Ao40 t353.length co40)).setCell ⟨gb358, 1, none⟩ (.string t356)).setCell ⟨gb358, 2, none⟩ (.int .i64 t357)).heap[gb346]? = some (.cells #[.slice (some ad347) t341.length co11, .string t344, .int .i64 t345] 79 (0, 0))) := ⟨by (with_reducible repeat (fail)); refine blk_far ?_ NB346_358.out _; (with_reducible repeat (fail)); refine blk_far ?_ NB346_358.out _; (with_reducible repeat (fail)); refine blk_far ?_ NB346_358.out _; (with_reducible repeat (fail)); exact BK346.out⟩
             have n6_ : Aside0 ((((w39.setCell ⟨gb358, 0, none⟩ (.slice Ao40 t353.length co40)).setCell ⟨gb358, 1, none⟩ (.string t356)).setCell ⟨gb358, 2, none⟩ (.int .i64 t357)).heap[gb348]? = some (.cells #[.int .i64 ((rd_T81 t341 0).f1), u349001] 32 (0, 0))) := ⟨by (with_reducible repeat (fail)); refine blk_far ?_ NB348_358.out _; (with_reducible repeat (fail)); refine blk_far ?_ NB348_358.out _; (with_reducible repeat (fail)); refine blk_far ?_ NB348_358.out _; (with_reducible repeat (fail)); exact BK348.out⟩
             have n7_ : Aside0 ((((w39.setCell ⟨gb358, 0, none⟩ (.slice Ao40 t353.length co40)).setCell ⟨gb358, 1, none⟩ (.string t356)).setCell ⟨gb358, 2, none⟩ (.int .i64 t357)).heap[gb358]? = some (.cells #[.slice Ao40 t353.length co40, .string t356, .int .i64 t357] 79 (0, 0))) := ⟨by (with_reducible repeat (fail)); refine blk_put (cs := #[.slice Ao40 t353.length co40, .string t356, .int .i64 0]) ?_ 2 _ rfl; (with_reducible repeat (fail)); refine blk_put (cs := #[.slice Ao40 t353.length co40, .string (⟨#[]⟩ : ByteArray), .int .i64 0]) ?_ 1 _ rfl; (with_reducible repeat (fail)); refine blk_put (cs := #[.slice none 0 0, .string (⟨#[]⟩ : ByteArray), .int .i64 0]) ?_ 0 _ rfl; (with_reducible repeat (fail)); exact BK358.out⟩
             have n8_ : Aside0 (Below w.heap.size w (((w39.setCell ⟨gb358, 0, none⟩ (.slice Ao40 t353.length co40)).setCell ⟨gb358, 1, none⟩ (.string t356)).setCell ⟨gb358, 2, none⟩ (.int .i64 t357))) := ⟨by repeat (first | (with_reducible first | exact HB.out | refine below_set ?_ GE358.out) )⟩
             (try clear HO_347000)
             (try clear HO_349001)
             (try clear HO352)
             (try clear HO355)
             (try clear BK337)
             (try clear BK346)
             (try clear BK348)
             (try clear BK358)
             (try clear HB)
             generalize (((w39.setCell ⟨gb358, 0, none⟩ (.slice Ao40 t353.length co40)).setCell ⟨gb358, 1, none⟩ (.string t356)).setCell ⟨gb358, 2, none⟩ (.int .i64 t357)) = w45 at n0_ n1_ n2_ n3_ n4_ n5_ n6_ n7_ n8_ ⊢
             have HO_347000 := n0_
             have HO_349001 := n1_
             have HO352 := n2_
             have HO355 := n3_
             have BK337 := n4_
             have BK346 := n5_
             have BK348 := n6_
             have BK358 := n7_
             have HB := n8_
             clear n0_ n1_ n2_ n3_ n4_ n5_ n6_ n7_ n8_
             have n0_ := Aside0.mk (Kd.R_drew HO_347000.out)
             have n1_ := Aside0.mk (Kd.R_drew HO_349001.out)
             have n2_ := Aside0.mk (Kd.R_drew HO352.out)
             have n3_ := Aside0.mk (Kd.R_drew HO355.out)
             have n4_ := Aside0.mk (blk_drew BK337.out)
             have n5_ := Aside0.mk (blk_drew BK346.out)
             have n6_ := Aside0.mk (blk_drew BK348.out)
             have n7_ := Aside0.mk (blk_drew BK358.out)
             have n8_ := Aside0.mk (below_drew1 HB.out)
             clear HO_347000
             clear HO_349001
             clear HO352
             clear HO355
             clear BK337
             clear BK346
             clear BK348
             clear BK358
             clear HB
             have HO_347000 := n0_
             have HO_349001 := n1_
             have HO352 := n2_
             have HO355 := n3_
             have BK337 := n4_
             have BK346 := n5_
             have BK348 := n6_
             have BK358 := n7_
             have HB := n8_
             clear n0_ n1_ n2_ n3_ n4_ n5_ n6_ n7_ n8_
             have p359 : 0 ≤ (0 : Int) := (by omega)
             have q359 : 0 < (t353.length : Int) := of_decide_eq_true (by first | (with_reducible assumption) )
             obtain ⟨ad359, e359, hx359_0, hx359_1, hx359_2⟩ := at_T81 (Kd.R_reads' HO355.out).2.2 0 p359 q359
             cases e359
             have qi359 : (0 < t353.length) = True := eq_true (by omega)
             (try rw [show ((0 : Int)).toNat = 0 from rfl] at hx359_0)
             (try rw [show 0 * 3 = 0 from rfl] at hx359_0)
             (try rw [Addr.add_zero'] at hx359_0)
             (try rw [show ((0 : Int)).toNat = 0 from rfl] at hx359_1)
             (try rw [show 0 * 3 = 0 from rfl] at hx359_1)
             (try rw [Addr.add_zero'] at hx359_1)
             (try rw [show ((0 : Int)).toNat = 0 from rfl] at hx359_2)
             (try rw [show 0 * 3 = 0 from rfl] at hx359_2)
             (try rw [Addr.add_zero'] at hx359_2)
             replace p359 := eq_true p359
             replace q359 := eq_true q359
             have p360 : 0 ≤ (1 : Int) := (by omega)
             have q360 : 1 < (t353.length : Int) := of_decide_eq_true (by first | (with_reducible assumption) )
             obtain ⟨ad360, e360, hx360_0, hx360_1, hx360_2⟩ := at_T81 (Kd.R_reads' HO355.out).2.2 1 p360 q360
             obtain rfl : ad359 = ad360 := (by injection e360)
             (try simp only [show (1 : Int).toNat = 1 from rfl, Nat.reduceMul, Nat.reduceEqDiff, Go.Addr.add, ↓reduceIte] at hx360_0)
             (try simp only [show (1 : Int).toNat = 1 from rfl, Nat.reduceMul, Nat.reduceEqDiff, Go.Addr.add, ↓reduceIte] at hx360_1)
             (try simp only [show (1 : Int).toNat = 1 from rfl, Nat.reduceMul, Nat.reduceEqDiff, Go.Addr.add, ↓reduceIte] at hx360_2)
             have qi360 : (1 < t353.length) = True := eq_true (by omega)
             (try rw [show ((1 : Int)).toNat = 1 from rfl] at hx360_0)
             (try rw [show 1 * 3 = 3 from rfl] at hx360_0)
             (try rw [show ((1 : Int)).toNat = 1 from rfl] at hx360_1)
             (try rw [show 1 * 3 = 3 from rfl] at hx360_1)
             (try rw [show ((1 : Int)).toNat = 1 from rfl] at hx360_2)
             (try rw [show 1 * 3 = 3 from rfl] at hx360_2)
             replace p360 := eq_true p360
             replace q360 := eq_true q360
             have p361 : 0 ≤ (2 : Int) := (by omega)
             have q361 : 2 < (t353.length : Int) := of_decide_eq_true (by first | (with_reducible assumption) )
             obtain ⟨ad361, e361, hx361_0, hx361_1, hx361_2⟩ := at_T81 (Kd.R_reads' HO355.out).2.2 2 p361 q361
             obtain rfl : ad359 = ad361 := (by injection e361)
             (try simp only [show (2 : Int).toNat = 2 from rfl, Nat.reduceMul, Nat.reduceEqDiff, Go.Addr.add, ↓reduceIte] at hx361_0)
             (try simp only [show (2 : Int).toNat = 2 from rfl, Nat.reduceMul, Nat.reduceEqDiff, Go.Addr.add, ↓reduceIte] at hx361_1)
             (try simp only [show (2 : Int).toNat = 2 from rfl, Nat.reduceMul, Nat.reduceEqDiff, Go.Addr.add, ↓reduceIte] at hx361_2)
             have qi361 : (2 < t353.length) = True := eq_true (by omega)
             (try rw [show ((2 : Int)).toNat = 2 from rfl] at hx361_0)
             (try rw [show 2 * 3 = 6 from rfl] at hx361_0)
             (try rw [show ((2 : Int)).toNat = 2 from rfl] at hx361_1)
             (try rw [show 2 * 3 = 6 from rfl] at hx361_1)
             (try rw [show ((2 : Int)).toNat = 2 from rfl] at hx361_2)
             (try rw [show 2 * 3 = 6 from rfl] at hx361_2)
             replace p361 := eq_true p361
             replace q361 := eq_true q361
             refine start_ (n := 23) (S := fun w' => w'.cell? ⟨gb348, 0, none⟩ = some (.int .i64 ((rd_T81 t341 0).f1)) ∧ w'.cell? ⟨gb348, 1, none⟩ = some (u349001) ∧ w'.cell? ⟨gb358, 0, none⟩ = some (.slice (some ad359) t353.length co40) ∧ w'.cell? ⟨gb358, 1, none⟩ = some (.string t356) ∧ w'.cell? ⟨gb358, 2, none⟩ = some (.int .i64 t357) ∧ w'.cell? ad359 = some (.int .i64 ((rd_T81 t353 0).f0)) ∧ w'.cell? ⟨ad359.block, ad359.off + 1, none⟩ = some (.int .i64 ((rd_T81 t353 0).f1)) ∧ w'.cell? ⟨ad359.block, ad359.off + 2, none⟩ = some (.string ((rd_T81 t353 0).f2)) ∧ w'.cell? ⟨ad359.block, ad359.off + 3, none⟩ = some (.int .i64 ((rd_T81 t353 1).f0)) ∧ w'.cell? ⟨ad359.block, ad359.off + 3 + 1, none⟩ = some (.int .i64 ((rd_T81 t353 1).f1)) ∧ w'.cell? ⟨ad359.block, ad359.off + 3 + 2, none⟩ = some (.string ((rd_T81 t353 1).f2)) ∧ w'.cell? ⟨ad359.block, ad359.off + 6, none⟩ = some (.int .i64 ((rd_T81 t353 2).f0)) ∧ w'.cell? ⟨ad359.block, ad359.off + 6 + 1, none⟩ = some (.int .i64 ((rd_T81 t353 2).f1)) ∧ w'.cell? ⟨ad359.block, ad359.off + 6 + 2, none⟩ = some (.string ((rd_T81 t353 2).f2))) (ds := [20, 22]) #[false, false, false, false, false, false, false, false, false, false, false, false, false, false, false, false, false, false, false, false, false, false, false] (by kernel_rfl) rfl rfl ⟨(blk_cell BK348.out 0).trans rfl, (blk_cell BK348.out 1).trans rfl, (blk_cell BK358.out 0).trans rfl, (blk_cell BK358.out 1).trans rfl, (blk_cell BK358.out 2).trans rfl, hx359_0, hx359_1, hx359_2, hx360_0, hx360_1, hx360_2, hx361_0, hx361_1, hx361_2⟩ (fun hHeld => ?_); refine with_tabW caduceusref14_Read.tab12 caduceusref14_Read.bits12 (fun HT_ HW_ => ?_)
             generalize w45.drew = w46 at HO_347000 HO_349001 HO352 HO355 BK337 BK346 BK348 BK358 HB hx359_0 hx359_1 hx359_2 hx360_0 hx360_1 hx360_2 hx361_0 hx361_1 hx361_2 hHeld ⊢
             refine pure_ (i := 0) (N := some 44) (v := ?_) (a' := ?_) #[true, false, false, false, false, false, false, false, false, false, false, false, false, false, false, false, false, false, false, false, false, false, false] rfl rfl (any_of HT_.out (by kernel_rfl)) (fun _ _ _ h => h) (Or.inl ⟨by rfl, ?_⟩) ?_ ?_
             rotate_left
             ·intro w'
              go_simp
              with_reducible rfl
             rotate_left
             ·simp only [Act.put, List.setIfInBounds_toArray, List.set_cons_zero, List.set_cons_succ, i64_w, i32_w]
              rfl
             refine pure_ (i := 2) (N := some 46) (v := ?_) (a' := ?_) #[true, false, true, false, false, false, false, false, false, false, false, false, false, false, false, false, false, false, false, false, false, false, false] rfl rfl (any_of HT_.out (by kernel_rfl)) (fun _ _ _ h => h) (Or.inl ⟨by rfl, ?_⟩) ?_ ?_
             rotate_left
             ·intro w'
              go_simp
              with_reducible rfl
             rotate_left
             ·simp only [Act.put, List.setIfInBounds_toArray, List.set_cons_zero, List.set_cons_succ, i64_w, i32_w]
              rfl
             refine pure_ (i := 7) (N := some 51) (v := ?_) (a' := ?_) #[true, false, true, false, false, false, false, true, false, false, false, false, false, false, false, false, false, false, false, false, false, false, false] rfl rfl (any_of HT_.out (by kernel_rfl)) (fun _ _ _ h => h) (Or.inl ⟨by rfl, ?_⟩) ?_ ?_
             rotate_left
             ·intro w'
              go_simp
              with_reducible rfl
             rotate_left
             ·simp only [Act.put, List.setIfInBounds_toArray, List.set_cons_zero, List.set_cons_succ, i64_w, i32_w]
              rfl
             refine pure_ (i := 12) (N := some 56) (v := ?_) (a' := ?_) #[true, false, true, false, false, false, false, true, false, false, false, false, true, false, false, false, false, false, false, false, false, false, false] rfl rfl (any_of HT_.out (by kernel_rfl)) (fun _ _ _ h => h) (Or.inl ⟨by rfl, ?_⟩) ?_ ?_
             rotate_left
             ·intro w'
              go_simp
              with_reducible rfl
             rotate_left
             ·simp only [Act.put, List.setIfInBounds_toArray, List.set_cons_zero, List.set_cons_succ, i64_w, i32_w]
              rfl
             refine take_ (i := 1) (N := some 45) (v := ?_) (a' := ?_) #[true, true, true, false, false, false, false, true, false, false, false, false, true, false, false, false, false, false, false, false, false, false, false] rfl rfl (take_ofW HT_.out HW_.out (by kernel_rfl)) (fun _ _ _ h => h) (Or.inl ⟨by rfl, ?_⟩) hHeld ?_ ?_
             rotate_left
             ·rintro w' ⟨s0, s1, s2, s3, s4, s5, s6, s7, s8, s9, s10, s11, s12, s13⟩
              go_simp
              with_reducible rfl
             rotate_left
             ·simp only [Act.put, List.setIfInBounds_toArray, List.set_cons_zero, List.set_cons_succ, i64_w, i32_w]
              rfl
             refine take_ (i := 3) (N := some 47) (v := ?_) (a' := ?_) #[true, true, true, true, false, false, false, true, false, false, false, false, true, false, false, false, false, false, false, false, false, false, false] rfl rfl (take_ofW HT_.out HW_.out (by kernel_rfl)) (fun _ _ _ h => h) (Or.inl ⟨by rfl, ?_⟩) hHeld ?_ ?_
             rotate_left
             ·rintro w' ⟨s0, s1, s2, s3, s4, s5, s6, s7, s8, s9, s10, s11, s12, s13⟩
              go_simp
              with_reducible rfl
             rotate_left
             ·simp only [Act.put, List.setIfInBounds_toArray, List.set_cons_zero, List.set_cons_succ, i64_w, i32_w]
              rfl
             refine pure_ (i := 4) (N := some 48) (v := ?_) (a' := ?_) #[true, true, true, true, true, false, false, true, false, false, false, false, true, false, false, false, false, false, false, false, false, false, false] rfl rfl (any_of HT_.out (by kernel_rfl)) (fun _ _ _ h => h) (Or.inl ⟨by rfl, ?_⟩) ?_ ?_
             rotate_left
             ·intro w'
              go_simp
              with_reducible rfl
             rotate_left
             ·simp only [Act.put, List.setIfInBounds_toArray, List.set_cons_zero, List.set_cons_succ, i64_w, i32_w]
              rfl
             refine pure_ (i := 5) (N := some 49) (v := ?_) (a' := ?_) #[true, true, true, true, true, true, false, true, false, false, false, false, true, false, false, false, false, false, false, false, false, false, false] rfl rfl (any_of HT_.out (by kernel_rfl)) (fun _ _ _ h => h) (Or.inl ⟨by rfl, ?_⟩) ?_ ?_
             rotate_left
             ·intro w'
              go_simp
              with_reducible rfl
             rotate_left
             ·simp only [Act.put, List.setIfInBounds_toArray, List.set_cons_zero, List.set_cons_succ, i64_w, i32_w]
              rfl
             refine take_ (i := 6) (N := some 50) (v := ?_) (a' := ?_) #[true, true, true, true, true, true, true, true, false, false, false, false, true, false, false, false, false, false, false, false, false, false, false] rfl rfl (take_ofW HT_.out HW_.out (by kernel_rfl)) (fun _ _ _ h => h) (Or.inl ⟨by rfl, ?_⟩) hHeld ?_ ?_
             rotate_left
             ·rintro w' ⟨s0, s1, s2, s3, s4, s5, s6, s7, s8, s9, s10, s11, s12, s13⟩
              go_simp
              with_reducible rfl
             rotate_left
             ·simp only [Act.put, List.setIfInBounds_toArray, List.set_cons_zero, List.set_cons_succ, i64_w, i32_w]
              rfl
             refine take_ (i := 8) (N := some 52) (v := ?_) (a' := ?_) #[true, true, true, true, true, true, true, true, true, false, false, false, true, false, false, false, false, false, false, false, false, false, false] rfl rfl (take_ofW HT_.out HW_.out (by kernel_rfl)) (fun _ _ _ h => h) (Or.inl ⟨by rfl, ?_⟩) hHeld ?_ ?_
             rotate_left
             ·rintro w' ⟨s0, s1, s2, s3, s4, s5, s6, s7, s8, s9, s10, s11, s12, s13⟩
              go_simp
              with_reducible rfl
             rotate_left
             ·simp only [Act.put, List.setIfInBounds_toArray, List.set_cons_zero, List.set_cons_succ, i64_w, i32_w]
              rfl
             refine pure_ (i := 9) (N := some 53) (v := ?_) (a' := ?_) #[true, true, true, true, true, true, true, true, true, true, false, false, true, false, false, false, false, false, false, false, false, false, false] rfl rfl (any_of HT_.out (by kernel_rfl)) (fun _ _ _ h => h) (Or.inl ⟨by rfl, ?_⟩) ?_ ?_
             rotate_left
             ·intro w'
              go_simp
              with_reducible rfl
             rotate_left
             ·simp only [Act.put, List.setIfInBounds_toArray, List.set_cons_zero, List.set_cons_succ, i64_w, i32_w]
              rfl
             refine pure_ (i := 10) (N := some 54) (v := ?_) (a' := ?_) #[true, true, true, true, true, true, true, true, true, true, true, false, true, false, false, false, false, false, false, false, false, false, false] rfl rfl (any_of HT_.out (by kernel_rfl)) (fun _ _ _ h => h) (Or.inl ⟨by rfl, ?_⟩) ?_ ?_
             rotate_left
             ·intro w'
              go_simp
              with_reducible rfl
             rotate_left
             ·simp only [Act.put, List.setIfInBounds_toArray, List.set_cons_zero, List.set_cons_succ, i64_w, i32_w]
              rfl
             refine take_ (i := 11) (N := some 55) (v := ?_) (a' := ?_) #[true, true, true, true, true, true, true, true, true, true, true, true, true, false, false, false, false, false, false, false, false, false, false] rfl rfl (take_ofW HT_.out HW_.out (by kernel_rfl)) (fun _ _ _ h => h) (Or.inl ⟨by rfl, ?_⟩) hHeld ?_ ?_
             rotate_left
             ·rintro w' ⟨s0, s1, s2, s3, s4, s5, s6, s7, s8, s9, s10, s11, s12, s13⟩
              go_simp
              with_reducible rfl
             rotate_left
             ·simp only [Act.put, List.setIfInBounds_toArray, List.set_cons_zero, List.set_cons_succ, i64_w, i32_w]
              rfl
             refine take_ (i := 13) (N := some 57) (v := ?_) (a' := ?_) #[true, true, true, true, true, true, true, true, true, true, true, true, true, true, false, false, false, false, false, false, false, false, false] rfl rfl (take_ofW HT_.out HW_.out (by kernel_rfl)) (fun _ _ _ h => h) (Or.inl ⟨by rfl, ?_⟩) hHeld ?_ ?_
             rotate_left
             ·rintro w' ⟨s0, s1, s2, s3, s4, s5, s6, s7, s8, s9, s10, s11, s12, s13⟩
              go_simp
              with_reducible rfl
             rotate_left
             ·simp only [Act.put, List.setIfInBounds_toArray, List.set_cons_zero, List.set_cons_succ, i64_w, i32_w]
              rfl
             refine pure_ (i := 14) (N := some 58) (v := ?_) (a' := ?_) #[true, true, true, true, true, true, true, true, true, true, true, true, true, true, true, false, false, false, false, false, false, false, false] rfl rfl (any_of HT_.out (by kernel_rfl)) (fun _ _ _ h => h) (Or.inl ⟨by rfl, ?_⟩) ?_ ?_
             rotate_left
             ·intro w'
              go_simp
              with_reducible rfl
             rotate_left
             ·simp only [Act.put, List.setIfInBounds_toArray, List.set_cons_zero, List.set_cons_succ, i64_w, i32_w]
              rfl
             refine pure_ (i := 15) (N := some 59) (v := ?_) (a' := ?_) #[true, true, true, true, true, true, true, true, true, true, true, true, true, true, true, true, false, false, false, false, false, false, false] rfl rfl (any_of HT_.out (by kernel_rfl)) (fun _ _ _ h => h) (Or.inl ⟨by rfl, ?_⟩) ?_ ?_
             rotate_left
             ·intro w'
              go_simp
              with_reducible rfl
             rotate_left
             ·simp only [Act.put, List.setIfInBounds_toArray, List.set_cons_zero, List.set_cons_succ, i64_w, i32_w]
              rfl
             refine take_ (i := 16) (N := some 60) (v := ?_) (a' := ?_) #[true, true, true, true, true, true, true, true, true, true, true, true, true, true, true, true, true, false, false, false, false, false, false] rfl rfl (take_ofW HT_.out HW_.out (by kernel_rfl)) (fun _ _ _ h => h) (Or.inl ⟨by rfl, ?_⟩) hHeld ?_ ?_
             rotate_left
             ·rintro w' ⟨s0, s1, s2, s3, s4, s5, s6, s7, s8, s9, s10, s11, s12, s13⟩
              go_simp
              with_reducible rfl
             rotate_left
             ·simp only [Act.put, List.setIfInBounds_toArray, List.set_cons_zero, List.set_cons_succ, i64_w, i32_w]
              rfl
             refine pure_ (i := 17) (N := some 61) (v := ?_) (a' := ?_) #[true, true, true, true, true, true, true, true, true, true, true, true, true, true, true, true, true, true, false, false, false, false, false] rfl rfl (any_of HT_.out (by kernel_rfl)) (fun _ _ _ h => h) (Or.inl ⟨by rfl, ?_⟩) ?_ ?_
             rotate_left
             ·intro w'
              go_simp
              with_reducible rfl
             rotate_left
             ·simp only [Act.put, List.setIfInBounds_toArray, List.set_cons_zero, List.set_cons_succ, i64_w, i32_w]
              rfl
             refine pure_ (i := 18) (N := some 62) (v := ?_) (a' := ?_) #[true, true, true, true, true, true, true, true, true, true, true, true, true, true, true, true, true, true, true, false, false, false, false] rfl rfl (any_of HT_.out (by kernel_rfl)) (fun _ _ _ h => h) (Or.inl ⟨by rfl, ?_⟩) ?_ ?_
             rotate_left
             ·intro w'
              go_simp
              with_reducible rfl
             rotate_left
             ·simp only [Act.put, List.setIfInBounds_toArray, List.set_cons_zero, List.set_cons_succ, i64_w, i32_w]
              rfl
             refine one_ (i := 19) (N := some 63) #[true, true, true, true, true, true, true, true, true, true, true, true, true, true, true, true, true, true, true, true, false, false, false] rfl rfl (one_of HT_.out (by kernel_rfl)) (by decide) (fun K hK => ?_)
             refine value_ (w1 := ?_) (v := ?_) (by rfl) rfl ?_ ?_
             rotate_left 2
             ·go_simp
              constructor
              ·rfl
              ·rfl
             refine hK.out _ _ ⟨(blk_cell (blk_alloc BK348.out _) 0).trans rfl, (blk_cell (blk_alloc BK348.out _) 1).trans rfl, (blk_cell (blk_alloc BK358.out _) 0).trans rfl, (blk_cell (blk_alloc BK358.out _) 1).trans rfl, (blk_cell (blk_alloc BK358.out _) 2).trans rfl, (World.cell?_alloc_lt _ _ _ (World.block_lt_of_cell? _ _ (hHeld.2.2.2.2.2.1))).trans (hHeld.2.2.2.2.2.1), (World.cell?_alloc_lt _ _ _ (World.block_lt_of_cell? _ _ (hHeld.2.2.2.2.2.2.1))).trans (hHeld.2.2.2.2.2.2.1), (World.cell?_alloc_lt _ _ _ (World.block_lt_of_cell? _ _ (hHeld.2.2.2.2.2.2.2.1))).trans (hHeld.2.2.2.2.2.2.2.1), (World.cell?_alloc_lt _ _ _ (World.block_lt_of_cell? _ _ (hHeld.2.2.2.2.2.2.2.2.1))).trans (hHeld.2.2.2.2.2.2.2.2.1), (World.cell?_alloc_lt _ _ _ (World.block_lt_of_cell? _ _ (hHeld.2.2.2.2.2.2.2.2.2.1))).trans (hHeld.2.2.2.2.2.2.2.2.2.1), (World.cell?_alloc_lt _ _ _ (World.block_lt_of_cell? _ _ (hHeld.2.2.2.2.2.2.2.2.2.2.1))).trans (hHeld.2.2.2.2.2.2.2.2.2.2.1), (World.cell?_alloc_lt _ _ _ (World.block_lt_of_cell? _ _ (hHeld.2.2.2.2.2.2.2.2.2.2.2.1))).trans (hHeld.2.2.2.2.2.2.2.2.2.2.2.1), (World.cell?_alloc_lt _ _ _ (World.block_lt_of_cell? _ _ (hHeld.2.2.2.2.2.2.2.2.2.2.2.2.1))).trans (hHeld.2.2.2.2.2.2.2.2.2.2.2.2.1), (World.cell?_alloc_lt _ _ _ (World.block_lt_of_cell? _ _ (hHeld.2.2.2.2.2.2.2.2.2.2.2.2.2))).trans (hHeld.2.2.2.2.2.2.2.2.2.2.2.2.2)⟩ (fun hHeld => ?_)
             clear hK K
             refine norm_ (a' := ?_) ?_ ?_
             rotate_left
             ·show Act.put _ (some 63) _ = _
              simp only [Act.put, List.setIfInBounds_toArray, List.set_cons_zero, List.set_cons_succ, i64_w, i32_w]
              rfl
             refine last_ (i := 20) (N := some 64) #[true, true, true, true, true, true, true, true, true, true, true, true, true, true, true, true, true, true, true, true, true, false, false] rfl rfl (one_of HT_.out (by kernel_rfl)) (by decide) (fun K hK => ?_)
             refine Kd.R_append_step k62 (w0 := w) w.heap.size (by rfl) (.tmp 45) (.tmp 63) 30 62 (.agg #[(.int .i64 0), (.int .i64 0), (.bool false)]) 24 rfl Try.underlying30 info62 rfl (by decide) (by omega) u349001 x349001_1 (⟨(rd_T81 t353 0).f1, (rd_T81 t353 1).f1, (((rd_T81 t353 2).f1) == 1)⟩ : S62) [.int .i64 ((rd_T81 t353 0).f1), .int .i64 ((rd_T81 t353 1).f1), .bool (((rd_T81 t353 2).f1) == 1)] (fun _ => True) (fun _ => False) rfl rfl ?aP (fun _ hk => hk.elim) ?aF ?aO ?aB ?aS ?aL ?_
             (case aP => exact k62_mkM _ _ _ (⟨(rd_T81 t353 0).f1, (rd_T81 t353 1).f1, (((rd_T81 t353 2).f1) == 1)⟩ : S62))
             (case aB => exact (by repeat (first | (with_reducible first | exact HB.out ) )))
             (case aF => exact (fun _ _ => trivial))
             (case aO => exact (by (with_reducible repeat (fail)); exact HO_349001.out))
             (case aS => exact (below_size (by repeat (first | (with_reducible first | exact HB.out ) ))))
             (case aL => have := LMc34.out; omega)
             intro v363 w47 ho hb hg hat
             rw [← Ny362.out] at ho
             have n0_ := Aside0.mk (Kd.R_over' (by (with_reducible repeat (fail)); exact HO_347000.out) (Kd.R_typed (by (with_reducible repeat (fail)); exact HO_349001.out)) (by decide) hg)
             have n1_ := Aside0.mk (blk_grown (g := gb337) (o := .cells #[.int .i64 x338000_1, .slice none 0 0] 32 (0, 0)) (by (with_reducible repeat (fail)); exact BK337.out) hg (Kd.R_ne HO_349001.out BK337.out (by decide)))
             have n2_ := Aside0.mk (blk_grown (g := gb346) (o := .cells #[.slice (some ad347) t341.length co11, .string t344, .int .i64 t345] 79 (0, 0)) (by (with_reducible repeat (fail)); exact BK346.out) hg (Kd.R_ne HO_349001.out BK346.out (by decide)))
             have n3_ := Aside0.mk (blk_grown (g := gb348) (o := .cells #[.int .i64 ((rd_T81 t341 0).f1), u349001] 32 (0, 0)) (by (with_reducible repeat (fail)); exact BK348.out) hg (Kd.R_ne HO_349001.out BK348.out (by decide)))
             have n4_ := Aside0.mk (Kd.R_over' (by (with_reducible repeat (fail)); exact HO352.out) (Kd.R_typed (by (with_reducible repeat (fail)); exact HO_349001.out)) (by decide) hg)
             have n5_ := Aside0.mk (Kd.R_over' (by (with_reducible repeat (fail)); exact HO355.out) (Kd.R_typed (by (with_reducible repeat (fail)); exact HO_349001.out)) (by decide) hg)
             have n6_ := Aside0.mk (blk_grown (g := gb358) (o := .cells #[.slice (some ad359) t353.length co40, .string t356, .int .i64 t357] 79 (0, 0)) (by (with_reducible repeat (fail)); exact BK358.out) hg (Kd.R_ne HO_349001.out BK358.out (by decide)))
             have n7_ := Aside0.mk (hb)
             have n8_ := Aside0.mk (ho)
             clear HO_347000
             clear BK337
             clear BK346
             clear BK348
             clear HO352
             clear HO355
             clear BK358
             clear HB
             clear HO_349001
             have HO_347000 := n0_
             have BK337 := n1_
             have BK346 := n2_
             have BK348 := n3_
             have HO352 := n4_
             have HO355 := n5_
             have BK358 := n6_
             have HB := n7_
             have HO364 := n8_
             clear n0_ n1_ n2_ n3_ n4_ n5_ n6_ n7_ n8_
             clear ho hb hg hat
             obtain ⟨Ao48, co48, eo48⟩ := Kd.R_slice HO364.out
             (first | subst eo48 )
             refine hK.out _ _ ?_
             clear hK K
             refine norm_ (a' := ?_) ?_ ?_
             rotate_left
             ·show Act.put _ (some 64) _ = _
              simp only [Act.put, List.setIfInBounds_toArray, List.set_cons_zero, List.set_cons_succ, i64_w, i32_w]
              rfl
             refine pure_ (i := 21) (N := some 65) (v := ?_) (a' := ?_) #[true, true, true, true, true, true, true, true, true, true, true, true, true, true, true, true, true, true, true, true, true, true, false] rfl rfl (any_of HT_.out (by kernel_rfl)) (fun _ _ _ h => h) (Or.inl ⟨by rfl, ?_⟩) ?_ ?_
             rotate_left
             ·intro w'
              go_simp
              with_reducible rfl
             rotate_left
             ·simp only [Act.put, List.setIfInBounds_toArray, List.set_cons_zero, List.set_cons_succ, i64_w, i32_w]
              rfl
             refine last_ (i := 22) (N := none) #[true, true, true, true, true, true, true, true, true, true, true, true, true, true, true, true, true, true, true, true, true, true, true] rfl rfl (one_of HT_.out (by kernel_rfl)) (by decide) (fun K hK => ?_)
             have hs49 : w47.cell? ⟨gb348, 1, none⟩ = some (u349001) := (blk_cell BK348.out 1).trans rfl
             have hfs49 := blk_frozen BK348.out 1
             have hns49_0 := NB337_348.out
             have hns49_1 := NB346_348.out
             have hns49_3 := NB358_348.out
             have hms49_0 := NB348_337.out
             have hms49_1 := NB348_346.out
             have hms49_3 := NB348_358.out
             refine skip_ (w1 := ?_) (by rfl) rfl ?_ ?_
             rotate_left
             ·go_simp
              rfl
             refine hK.out _ _ ?_
             clear hK K
             refine done_ (done_of HT_.out (by kernel_rfl)) ?_
             have hcz50_0 : w47.cell? ⟨gb358, 0, none⟩ = some (.slice (some ad359) t353.length co40) := (blk_cell BK358.out 0).trans rfl
             have hcz50_1 : w47.cell? ⟨gb358, 1, none⟩ = some (.string t356) := (blk_cell BK358.out 1).trans rfl
             have hcz50_2 : w47.cell? ⟨gb358, 2, none⟩ = some (.int .i64 t357) := (blk_cell BK358.out 2).trans rfl
             have hfz50_0 := blk_frozen BK358.out 0
             have hfz50_1 := blk_frozen BK358.out 1
             have hfz50_2 := blk_frozen BK358.out 2
             try go_wp2
             go_roundg kj18
             case measure => have := HK1.out; have := HJ18.out; omega
             case rel => exact ⟨(t356), (wrap64 (x7_1 + 1)), (x338000_1), (y362), (.slice Ao48 y362.length co48), (by first | rfl ), (by first | rfl ), H', ⟨by have := HK1.out; have := HJ18.out; omega⟩, ⟨by (with_reducible repeat (fail)); exact Kd.R_mono (Kd.R_far (p := ⟨gb348, 1, none⟩) (Kd.R_types HO_347000.out BK348.out (by decide)) (fun _ hk => hk.2) (.slice Ao48 y362.length co48)) (fun _ hk => trivial)⟩, ⟨by (with_reducible repeat (fail)); exact Kd.R_mono (Kd.R_far (p := ⟨gb348, 1, none⟩) (Kd.R_types HO364.out BK348.out (by decide)) (fun _ hk => hk.2) (.slice Ao48 y362.length co48)) (fun _ hk => trivial)⟩, ⟨by (with_reducible repeat (fail)); refine blk_far ?_ NB337_348.out _; (with_reducible repeat (fail)); exact BK337.out⟩, ⟨by (with_reducible repeat (fail)); refine blk_far ?_ NB346_348.out _; (with_reducible repeat (fail)); exact BK346.out⟩, ⟨by (with_reducible repeat (fail)); refine blk_put (cs := #[.int .i64 ((rd_T81 t341 0).f1), u349001]) ?_ 1 _ rfl; (with_reducible repeat (fail)); exact BK348.out⟩, ⟨by repeat (first | (with_reducible first | exact HB.out | refine below_set ?_ GE348.out ) )⟩⟩
            ·rw [if_neg c34] at H
             exact absurd H (by simp)
           ·rw [if_neg c33] at H
            exact absurd H (by simp)
          ·rw [if_neg c32] at H
           exact absurd H (by simp)
         ·rw [if_neg c31] at H
          exact absurd H (by simp)
        ·rw [if_neg c30] at H
         have c30b0 : (t357 == 0) = false := beq_eq_false_iff_ne.mpr c30
         have c30b1 : (t357 != 0) = true := bne_iff_ne.mpr c30
         simp only [Option.some.injEq, Prod.mk.injEq] at H
         obtain ⟨rfl, rfl, rfl⟩ := H
         go_wp2_with (first | ((with_reducible refine gate_dst (N := 38) rfl ?_); refine Kd.R_lit (Kd.int .i64) _ 3 ?hg (N := 38) ?hd (xs := ([1, 1, 3] : List Int)) (inner := [.int .i64 1, .int .i64 1, .int .i64 3]) (ok := fun _ => True) (okp := fun _ => True) ?hr ?hp (fun _ hk => hk) trivial (Below.refl _ _) (Nat.le_refl _) (by simp) ?_; (case hd => rfl); (case hg => rfl); (case hr => first | (go_simp; done) ); (case hp => exact (Reps.one (show Kd.M (Kd.int .i64) _ _ _ 1 [.int .i64 1] from rfl) (Reps.one (show Kd.M (Kd.int .i64) _ _ _ 1 [.int .i64 1] from rfl) (Reps.one (show Kd.M (Kd.int .i64) _ _ _ 3 [.int .i64 3] from rfl) (Reps.none _ _))))); intro v351 w51 ho52 hb hg_ hnew_; clear hg_ hnew_; (first | rw [← Ny350.out] at ho52 ); have n0_ := Aside0.mk (Kd.R_below (by (with_reducible repeat (fail)); exact HO_347000.out) hb); have n1_ := Aside0.mk (Kd.R_below (by (with_reducible repeat (fail)); exact HO_349001.out) hb); have n2_ := Aside0.mk (Kd.R_lower ho52 (below_size (by repeat (first | (with_reducible first | exact HB.out ) )))); have n3_ := Aside0.mk (blk_below (g := gb337) (o := .cells #[.int .i64 x338000_1, .slice none 0 0] 32 (0, 0)) (by (with_reducible repeat (fail)); exact BK337.out) hb); have n4_ := Aside0.mk (blk_below (g := gb346) (o := .cells #[.slice (some ad347) t341.length co11, .string t344, .int .i64 t345] 79 (0, 0)) (by (with_reducible repeat (fail)); exact BK346.out) hb); have n5_ := Aside0.mk (blk_below (g := gb348) (o := .cells #[.int .i64 ((rd_T81 t341 0).f1), u349001] 32 (0, 0)) (by (with_reducible repeat (fail)); exact BK348.out) hb); have n6_ := Aside0.mk (below_step (by repeat (first | (with_reducible first | exact HB.out ) )) hb); clear HO_347000; clear HO_349001; clear BK337; clear BK346; clear BK348; clear HB; have HO_347000 := n0_; have HO_349001 := n1_; have HO352 := n2_; have BK337 := n3_; have BK346 := n4_; have BK348 := n5_; have HB := n6_; clear n0_ n1_ n2_ n3_ n4_ n5_ n6_; clear hb ho52; obtain ⟨Ao53, co53, eo53⟩ := Kd.R_slice HO352.out; subst eo53) | ((with_reducible refine gate_callee (f := 42) rfl ?_); refine goesL_ (some 39) rfl rfl Try.func42 (by kernel_rfl) rfl #[.string x6_1, .slice Ao53 y350.length co53] rfl (by (try simp only [List.map_toArray, List.map_cons, List.map_nil]); first | rfl ) ?_; (with_reducible refine (caduceusref01_Take.calls kj18 x6_1 _ _ y350 t353 t356 t357 _ ?side1 ?side2 A29.out).mono ?_); (case side1 => repeat (first | exact (Kd.R_reads' HO352.out).2.2 )); (case side2 => exact (Kd.R_reads' HO352.out).2.1); rintro e w54 ⟨v354, rfl, ho0, hb⟩; refine ⟨_, rfl, ?_⟩; have n0_ := Aside0.mk (Kd.R_elder' (by (with_reducible repeat (fail)); exact HO_347000.out) (Kd.R_base ho0) hb); have n1_ := Aside0.mk (Kd.R_below (by (with_reducible repeat (fail)); exact HO_349001.out) hb); have n2_ := Aside0.mk (Kd.R_below (by (with_reducible repeat (fail)); exact HO352.out) hb); have n3_ := Aside0.mk (Kd.R_lower (Kd.R_new' ho0 (Kd.R_lt (by (with_reducible repeat (fail)); exact HO_347000.out))) (below_size (by repeat (first | (with_reducible first | exact HB.out ) )))); have n4_ := Aside0.mk (blk_below (g := gb337) (o := .cells #[.int .i64 x338000_1, .slice none 0 0] 32 (0, 0)) (by (with_reducible repeat (fail)); exact BK337.out) hb); have n5_ := Aside0.mk (blk_below (g := gb346) (o := .cells #[.slice (some ad347) t341.length co11, .string t344, .int .i64 t345] 79 (0, 0)) (by (with_reducible repeat (fail)); exact BK346.out) hb); have n6_ := Aside0.mk (blk_below (g := gb348) (o := .cells #[.int .i64 ((rd_T81 t341 0).f1), u349001] 32 (0, 0)) (by (with_reducible repeat (fail)); exact BK348.out) hb); have n7_ := Aside0.mk (below_step (by repeat (first | (with_reducible first | exact HB.out ) )) hb); clear HO_347000; clear HO_349001; clear HO352; clear BK337; clear BK346; clear BK348; clear HB; have HO_347000 := n0_; have HO_349001 := n1_; have HO352 := n2_; have HO355 := n3_; have BK337 := n4_; have BK346 := n5_; have BK348 := n6_; have HB := n7_; clear n0_ n1_ n2_ n3_ n4_ n5_ n6_ n7_; (try clear hb); (try clear hb2); (try clear hk); (try clear hi); (try clear ho0)) | ((with_reducible refine gate_dst (N := 8) rfl ?_); refine box_event ?hg (N := 8) ?hd (cs := #[.slice none 0 0, .string (⟨#[]⟩ : ByteArray), .int .i64 0]) (t := 79) ?hr ?_; (case hd => rfl); (case hg => rfl); (case hr => first | (go_simp; done) ); intro gb358 hg w55 hbox hb; have n0_ := Aside0.mk (Kd.R_below (by (with_reducible repeat (fail)); exact HO_347000.out) hb); have n1_ := Aside0.mk (Kd.R_below (by (with_reducible repeat (fail)); exact HO_349001.out) hb); have n2_ := Aside0.mk (Kd.R_below (by (with_reducible repeat (fail)); exact HO352.out) hb); have n3_ := Aside0.mk (Kd.R_below (by (with_reducible repeat (fail)); exact HO355.out) hb); have n4_ := Aside0.mk (blk_below (g := gb337) (o := .cells #[.int .i64 x338000_1, .slice none 0 0] 32 (0, 0)) (by (with_reducible repeat (fail)); exact BK337.out) hb); have n5_ := Aside0.mk (blk_below (g := gb346) (o := .cells #[.slice (some ad347) t341.length co11, .string t344, .int .i64 t345] 79 (0, 0)) (by (with_reducible repeat (fail)); exact BK346.out) hb); have n6_ := Aside0.mk (blk_below (g := gb348) (o := .cells #[.int .i64 ((rd_T81 t341 0).f1), u349001] 32 (0, 0)) (by (with_reducible repeat (fail)); exact BK348.out) hb); have n7_ := Aside0.mk (below_step (by repeat (first | (with_reducible first | exact HB.out ) )) hb); have n8_ := Aside0.mk (hbox); have n9_ := Aside0.mk ((by rw [hg]; exact (below_size (by repeat (first | (with_reducible first | exact HB.out ) ))) : w.heap.size ≤ gb358)); have n10_ := Aside0.mk ((by rw [hg]; exact (below_size (by repeat (first | (with_reducible first | exact HB.out ) ))) : w.heap.size ≤ gb358)); have n11_ := Aside0.mk ((by rw [hg]; exact Nat.ne_of_lt (blk_lt (g := gb337) (o := .cells #[.int .i64 x338000_1, .slice none 0 0] 32 (0, 0)) (by (with_reducible repeat (fail)); exact BK337.out)) : gb337 ≠ gb358)); have n12_ := Aside0.mk ((by rw [hg]; exact Nat.ne_of_gt (blk_lt (g := gb337) (o := .cells #[.int .i64 x338000_1, .slice none 0 0] 32 (0, 0)) (by (with_reducible repeat (fail)); exact BK337.out)) : gb358 ≠ gb337)); have n13_ := Aside0.mk ((by rw [hg]; exact Nat.ne_of_lt (blk_lt (g := gb346) (o := .cells #[.slice (some ad347) t341.length co11, .string t344, .int .i64 t345] 79 (0, 0)) (by (with_reducible repeat (fail)); exact BK346.out)) : gb346 ≠ gb358)); have n14_ := Aside0.mk ((by rw [hg]; exact Nat.ne_of_gt (blk_lt (g := gb346) (o := .cells #[.slice (some ad347) t341.length co11, .string t344, .int .i64 t345] 79 (0, 0)) (by (with_reducible repeat (fail)); exact BK346.out)) : gb358 ≠ gb346)); have n15_ := Aside0.mk ((by rw [hg]; exact Nat.ne_of_lt (blk_lt (g := gb348) (o := .cells #[.int .i64 ((rd_T81 t341 0).f1), u349001] 32 (0, 0)) (by (with_reducible repeat (fail)); exact BK348.out)) : gb348 ≠ gb358)); have n16_ := Aside0.mk ((by rw [hg]; exact Nat.ne_of_gt (blk_lt (g := gb348) (o := .cells #[.int .i64 ((rd_T81 t341 0).f1), u349001] 32 (0, 0)) (by (with_reducible repeat (fail)); exact BK348.out)) : gb358 ≠ gb348)); clear HO_347000; clear HO_349001; clear HO352; clear HO355; clear BK337; clear BK346; clear BK348; clear HB; have HO_347000 := n0_; have HO_349001 := n1_; have HO352 := n2_; have HO355 := n3_; have BK337 := n4_; have BK346 := n5_; have BK348 := n6_; have HB := n7_; have BK358 := n8_; have GW358 := n9_; have GE358 := n10_; have NB337_358 := n11_; have NB358_337 := n12_; have NB346_358 := n13_; have NB358_346 := n14_; have NB348_358 := n15_; have NB358_348 := n16_; clear n0_ n1_ n2_ n3_ n4_ n5_ n6_ n7_ n8_ n9_ n10_ n11_ n12_ n13_ n14_ n15_ n16_; clear hb hbox hg; obtain ⟨Ao56, co56, eo56⟩ := Kd.R_slice HO355.out; subst eo56; have hnb57 := NB358_337.out; have hnc57 := NB337_358.out; have hnb58 := NB358_346.out; have hnc58 := NB346_358.out; have hnb59 := NB358_348.out; have hnc59 := NB348_358.out; have hcz60_0 : w55.cell? ⟨gb358, 0, none⟩ = some (.slice none 0 0) := (blk_cell BK358.out 0).trans rfl; have hcz60_1 : w55.cell? ⟨gb358, 1, none⟩ = some (.string (⟨#[]⟩ : ByteArray)) := (blk_cell BK358.out 1).trans rfl; have hcz60_2 : w55.cell? ⟨gb358, 2, none⟩ = some (.int .i64 0) := (blk_cell BK358.out 2).trans rfl; have hfz60_0 := blk_frozen BK358.out 0; have hfz60_1 := blk_frozen BK358.out 1; have hfz60_2 := blk_frozen BK358.out 2; have hnb61 := NB337_346.out; have hnc61 := NB346_337.out; have hnb62 := NB337_348.out; have hnc62 := NB348_337.out; have hcz63_0 : w55.cell? ⟨gb337, 0, none⟩ = some (.int .i64 x338000_1) := (blk_cell BK337.out 0).trans rfl; have hcz63_1 : w55.cell? ⟨gb337, 1, none⟩ = some (.slice none 0 0) := (blk_cell BK337.out 1).trans rfl; have hfz63_0 := blk_frozen BK337.out 0; have hfz63_1 := blk_frozen BK337.out 1))
         refine bodyPost_ret (results_ct rfl _ _ gb337 32 #[.int .i64 0, .slice none 0 0] (0, 0) _ rfl (by (with_reducible repeat (fail)); refine blk_put (cs := #[.int .i64 0, .slice none 0 0]) ?_ 1 _ rfl; (with_reducible repeat (fail)); refine blk_put (cs := #[.int .i64 x338000_1, .slice none 0 0]) ?_ 0 _ rfl; (with_reducible repeat (fail)); refine blk_far ?_ NB337_358.out _; (with_reducible repeat (fail)); refine blk_far ?_ NB337_358.out _; (with_reducible repeat (fail)); refine blk_far ?_ NB337_358.out _; (with_reducible repeat (fail)); exact BK337.out) Try.underlying32 rfl (by kernel_rfl)) rfl ?_
         exact ⟨_, by first | rfl , by first | exact Kd.R_nil _ _ _ _ _ , by repeat (first | (with_reducible first | exact HB.out | refine below_set ?_ GE337.out | refine below_set ?_ GE358.out) )⟩
       ·replace c28 := Bool.eq_false_iff.mpr c28
        subst c28
        have H1 : (if a0.toList = ([] : List UInt8) then (some (0, ([] : List (S62)), 3)) else ((caduceusref14_Text.f kj18 ((rd_T81 t341 0).f1) x349001_1).bind fun t365 => (if t365.toList = a0.toList then (some (((rd_T81 t341 0).f1), x349001_1, 0)) else (some (0, ([] : List (S62)), 3))))) = some (r1, r2, r3) := by rw [if_neg (show ¬ (false = true) by decide)] at H; exact H
        clear H
        have H := H1
        clear H1
        by_cases c64 : a0.toList = ([] : List UInt8)
        ·rw [if_pos c64] at H
         have c64b0 : (a0.toList == ([] : List UInt8)) = true := beq_iff_eq.mpr c64
         have c64b1 : (a0.toList != ([] : List UInt8)) = false := bne_eq_false_iff_eq.mpr c64
         clear c64
         simp only [Option.some.injEq, Prod.mk.injEq] at H
         obtain ⟨rfl, rfl, rfl⟩ := H
         have hnb65 := NB337_346.out
         have hnc65 := NB346_337.out
         have hnb66 := NB337_348.out
         have hnc66 := NB348_337.out
         have hcz67_0 : wc.cell? ⟨gb337, 0, none⟩ = some (.int .i64 x338000_1) := (blk_cell BK337.out 0).trans rfl
         have hcz67_1 : wc.cell? ⟨gb337, 1, none⟩ = some (.slice none 0 0) := (blk_cell BK337.out 1).trans rfl
         have hfz67_0 := blk_frozen BK337.out 0
         have hfz67_1 := blk_frozen BK337.out 1
         go_wp2
         refine bodyPost_ret (results_ct rfl _ _ gb337 32 #[.int .i64 0, .slice none 0 0] (0, 0) _ rfl (by (with_reducible repeat (fail)); refine blk_put (cs := #[.int .i64 0, .slice none 0 0]) ?_ 1 _ rfl; (with_reducible repeat (fail)); refine blk_put (cs := #[.int .i64 x338000_1, .slice none 0 0]) ?_ 0 _ rfl; (with_reducible repeat (fail)); exact BK337.out) Try.underlying32 rfl (by kernel_rfl)) rfl ?_
         exact ⟨_, by first | rfl , by first | exact Kd.R_nil _ _ _ _ _ , by repeat (first | (with_reducible first | exact HB.out | refine below_set ?_ GE337.out ) )⟩
        ·rw [if_neg c64] at H
         have c64b0 : (a0.toList == ([] : List UInt8)) = false := beq_eq_false_iff_ne.mpr c64
         have c64b1 : (a0.toList != ([] : List UInt8)) = true := bne_iff_ne.mpr c64
         replace H := Option.bind_eq_some_iff.mp H
         obtain ⟨t365, A680, H⟩ := H
         replace H : (if t365.toList = a0.toList then (some (((rd_T81 t341 0).f1), x349001_1, 0)) else (some (0, ([] : List (S62)), 3))) = some (r1, r2, r3) := H
         have A68 := Aside0.mk A680
         clear A680
         by_cases c69 : t365.toList = a0.toList
         ·rw [if_pos c69] at H
          have c69b0 : (t365.toList == a0.toList) = true := beq_iff_eq.mpr c69
          have c69b1 : (t365.toList != a0.toList) = false := bne_eq_false_iff_eq.mpr c69
          clear c69
          simp only [Option.some.injEq, Prod.mk.injEq] at H
          obtain ⟨rfl, rfl, rfl⟩ := H
          have hnb70 := NB348_337.out
          have hnc70 := NB337_348.out
          have hnb71 := NB348_346.out
          have hnc71 := NB346_348.out
          have hcz72_0 : wc.cell? ⟨gb348, 0, none⟩ = some (.int .i64 ((rd_T81 t341 0).f1)) := (blk_cell BK348.out 0).trans rfl
          have hcz72_1 : wc.cell? ⟨gb348, 1, none⟩ = some (u349001) := (blk_cell BK348.out 1).trans rfl
          have hfz72_0 := blk_frozen BK348.out 0
          have hfz72_1 := blk_frozen BK348.out 1
          obtain ⟨Ao73, co73, eo73⟩ := Kd.R_slice HO_349001.out
          subst eo73
          go_wp2_with (first | (go_at_call 29; (with_reducible refine (caduceusref14_Text.calls kj18 ((rd_T81 t341 0).f1) _ _ x349001_1 t365 _ ?side1 ?side2 A68.out).mono ?_); (case side1 => repeat (first | exact (Kd.R_reads' HO_349001.out).2.2 )); (case side2 => exact (Kd.R_reads' HO_349001.out).2.1); rintro e w74 ⟨rfl, hb⟩; have n0_ := Aside0.mk (Kd.R_below (by (with_reducible repeat (fail)); exact HO_347000.out) hb); have n1_ := Aside0.mk (Kd.R_below (by (with_reducible repeat (fail)); exact HO_349001.out) hb); have n2_ := Aside0.mk (blk_below (g := gb337) (o := .cells #[.int .i64 x338000_1, .slice none 0 0] 32 (0, 0)) (by (with_reducible repeat (fail)); exact BK337.out) hb); have n3_ := Aside0.mk (blk_below (g := gb346) (o := .cells #[.slice (some ad347) t341.length co11, .string t344, .int .i64 t345] 79 (0, 0)) (by (with_reducible repeat (fail)); exact BK346.out) hb); have n4_ := Aside0.mk (blk_below (g := gb348) (o := .cells #[.int .i64 ((rd_T81 t341 0).f1), .slice Ao73 x349001_1.length co73] 32 (0, 0)) (by (with_reducible repeat (fail)); exact BK348.out) hb); have n5_ := Aside0.mk (below_step (by repeat (first | (with_reducible first | exact HB.out ) )) hb); clear HO_347000; clear HO_349001; clear BK337; clear BK346; clear BK348; clear HB; have HO_347000 := n0_; have HO_349001 := n1_; have BK337 := n2_; have BK346 := n3_; have BK348 := n4_; have HB := n5_; clear n0_ n1_ n2_ n3_ n4_ n5_; (try clear hb); (try clear hb2); (try clear hk); (try clear hi); have hcz75_0 : w74.cell? ⟨gb348, 0, none⟩ = some (.int .i64 ((rd_T81 t341 0).f1)) := (blk_cell BK348.out 0).trans rfl; have hcz75_1 : w74.cell? ⟨gb348, 1, none⟩ = some (.slice Ao73 x349001_1.length co73) := (blk_cell BK348.out 1).trans rfl; have hfz75_0 := blk_frozen BK348.out 0; have hfz75_1 := blk_frozen BK348.out 1; have hnb76 := NB337_346.out; have hnc76 := NB346_337.out; have hcz77_0 : w74.cell? ⟨gb337, 0, none⟩ = some (.int .i64 x338000_1) := (blk_cell BK337.out 0).trans rfl; have hcz77_1 : w74.cell? ⟨gb337, 1, none⟩ = some (.slice none 0 0) := (blk_cell BK337.out 1).trans rfl; have hfz77_0 := blk_frozen BK337.out 0; have hfz77_1 := blk_frozen BK337.out 1))
          refine bodyPost_ret (results_ct rfl _ _ gb337 32 #[.int .i64 ((rd_T81 t341 0).f1), .slice Ao73 x349001_1.length co73] (0, 0) _ rfl (by (with_reducible repeat (fail)); refine blk_put (cs := #[.int .i64 ((rd_T81 t341 0).f1), .slice none 0 0]) ?_ 1 _ rfl; (with_reducible repeat (fail)); refine blk_put (cs := #[.int .i64 x338000_1, .slice none 0 0]) ?_ 0 _ rfl; (with_reducible repeat (fail)); exact BK337.out) Try.underlying32 rfl (by kernel_rfl)) rfl ?_
          exact ⟨_, by first | rfl , by (with_reducible repeat (fail)); exact Kd.R_mono (Kd.R_far (p := ⟨gb337, 1, none⟩) (Kd.R_far (p := ⟨gb337, 0, none⟩) (Kd.R_types HO_349001.out BK337.out (by decide)) (fun _ hk => hk.2) (.int .i64 ((rd_T81 t341 0).f1))) (fun _ hk => hk.2) (.slice Ao73 x349001_1.length co73)) (fun _ hk => trivial), by repeat (first | (with_reducible first | exact HB.out | refine below_set ?_ GE337.out ) )⟩
         ·rw [if_neg c69] at H
          have c69b0 : (t365.toList == a0.toList) = false := beq_eq_false_iff_ne.mpr c69
          have c69b1 : (t365.toList != a0.toList) = true := bne_iff_ne.mpr c69
          simp only [Option.some.injEq, Prod.mk.injEq] at H
          obtain ⟨rfl, rfl, rfl⟩ := H
          have hnb78 := NB348_337.out
          have hnc78 := NB337_348.out
          have hnb79 := NB348_346.out
          have hnc79 := NB346_348.out
          have hcz80_0 : wc.cell? ⟨gb348, 0, none⟩ = some (.int .i64 ((rd_T81 t341 0).f1)) := (blk_cell BK348.out 0).trans rfl
          have hcz80_1 : wc.cell? ⟨gb348, 1, none⟩ = some (u349001) := (blk_cell BK348.out 1).trans rfl
          have hfz80_0 := blk_frozen BK348.out 0
          have hfz80_1 := blk_frozen BK348.out 1
          obtain ⟨Ao81, co81, eo81⟩ := Kd.R_slice HO_349001.out
          subst eo81
          go_wp2_with (first | (go_at_call 29; (with_reducible refine (caduceusref14_Text.calls kj18 ((rd_T81 t341 0).f1) _ _ x349001_1 t365 _ ?side1 ?side2 A68.out).mono ?_); (case side1 => repeat (first | exact (Kd.R_reads' HO_349001.out).2.2 )); (case side2 => exact (Kd.R_reads' HO_349001.out).2.1); rintro e w82 ⟨rfl, hb⟩; have n0_ := Aside0.mk (Kd.R_below (by (with_reducible repeat (fail)); exact HO_347000.out) hb); have n1_ := Aside0.mk (Kd.R_below (by (with_reducible repeat (fail)); exact HO_349001.out) hb); have n2_ := Aside0.mk (blk_below (g := gb337) (o := .cells #[.int .i64 x338000_1, .slice none 0 0] 32 (0, 0)) (by (with_reducible repeat (fail)); exact BK337.out) hb); have n3_ := Aside0.mk (blk_below (g := gb346) (o := .cells #[.slice (some ad347) t341.length co11, .string t344, .int .i64 t345] 79 (0, 0)) (by (with_reducible repeat (fail)); exact BK346.out) hb); have n4_ := Aside0.mk (blk_below (g := gb348) (o := .cells #[.int .i64 ((rd_T81 t341 0).f1), .slice Ao81 x349001_1.length co81] 32 (0, 0)) (by (with_reducible repeat (fail)); exact BK348.out) hb); have n5_ := Aside0.mk (below_step (by repeat (first | (with_reducible first | exact HB.out ) )) hb); clear HO_347000; clear HO_349001; clear BK337; clear BK346; clear BK348; clear HB; have HO_347000 := n0_; have HO_349001 := n1_; have BK337 := n2_; have BK346 := n3_; have BK348 := n4_; have HB := n5_; clear n0_ n1_ n2_ n3_ n4_ n5_; (try clear hb); (try clear hb2); (try clear hk); (try clear hi); have hnb83 := NB337_346.out; have hnc83 := NB346_337.out; have hcz84_0 : w82.cell? ⟨gb337, 0, none⟩ = some (.int .i64 x338000_1) := (blk_cell BK337.out 0).trans rfl; have hcz84_1 : w82.cell? ⟨gb337, 1, none⟩ = some (.slice none 0 0) := (blk_cell BK337.out 1).trans rfl; have hfz84_0 := blk_frozen BK337.out 0; have hfz84_1 := blk_frozen BK337.out 1))
          refine bodyPost_ret (results_ct rfl _ _ gb337 32 #[.int .i64 0, .slice none 0 0] (0, 0) _ rfl (by (with_reducible repeat (fail)); refine blk_put (cs := #[.int .i64 0, .slice none 0 0]) ?_ 1 _ rfl; (with_reducible repeat (fail)); refine blk_put (cs := #[.int .i64 x338000_1, .slice none 0 0]) ?_ 0 _ rfl; (with_reducible repeat (fail)); exact BK337.out) Try.underlying32 rfl (by kernel_rfl)) rfl ?_
          exact ⟨_, by first | rfl , by first | exact Kd.R_nil _ _ _ _ _ , by repeat (first | (with_reducible first | exact HB.out | refine below_set ?_ GE337.out ) )⟩
  ·rw [if_neg c4] at H
   exact absurd H (by simp)
 ·rw [if_neg c3] at H
  have c3b0 : (t345 == 0) = false := beq_eq_false_iff_ne.mpr c3
  have c3b1 : (t345 != 0) = true := bne_iff_ne.mpr c3
  simp only [Option.some.injEq, Prod.mk.injEq] at H
  obtain ⟨rfl, rfl, rfl⟩ := H
  go_enter Try.func27, Try.ntmps27
  go_wp2_with (first | ((with_reducible refine gate_dst (N := 2) rfl ?_); refine box_event ?hg (N := 2) ?hd (cs := #[.int .i64 0, .slice none 0 0]) (t := 32) ?hr ?_; (case hd => rfl); (case hg => rfl); (case hr => first | (go_simp; done) ); intro gb337 hg w85 hbox hb; have n0_ := Aside0.mk (below_step (by repeat (first | (with_reducible first | exact HB.out ) )) hb); have n1_ := Aside0.mk (hbox); have n2_ := Aside0.mk ((by rw [hg]; exact (below_size (by repeat (first | (with_reducible first | exact HB.out ) ))) : w.heap.size ≤ gb337)); have n3_ := Aside0.mk ((by rw [hg]; exact (below_size (by repeat (first | (with_reducible first | exact HB.out ) ))) : w.heap.size ≤ gb337)); clear HB; have HB := n0_; have BK337 := n1_; have GW337 := n2_; have GE337 := n3_; clear n0_ n1_ n2_ n3_; clear hb hbox hg) | ((with_reducible refine gate_dst (N := 10) rfl ?_); refine Kd.R_lit (Kd.int .i64) _ 3 ?hg (N := 10) ?hd (xs := ([1, 1] : List Int)) (inner := [.int .i64 1, .int .i64 1]) (ok := fun _ => True) (okp := fun _ => True) ?hr ?hp (fun _ hk => hk) trivial (Below.refl _ _) (Nat.le_refl _) (by simp) ?_; (case hd => rfl); (case hg => rfl); (case hr => first | (go_simp; done) ); (case hp => exact (Reps.one (show Kd.M (Kd.int .i64) _ _ _ 1 [.int .i64 1] from rfl) (Reps.one (show Kd.M (Kd.int .i64) _ _ _ 1 [.int .i64 1] from rfl) (Reps.none _ _)))); intro v339 w86 ho87 hb hg_ hnew_; clear hg_ hnew_; (first | rw [← Ny338.out] at ho87 ); have n0_ := Aside0.mk (Kd.R_lower ho87 (below_size (by repeat (first | (with_reducible first | exact HB.out ) )))); have n1_ := Aside0.mk (blk_below (g := gb337) (o := .cells #[.int .i64 0, .slice none 0 0] 32 (0, 0)) (by (with_reducible repeat (fail)); exact BK337.out) hb); have n2_ := Aside0.mk (below_step (by repeat (first | (with_reducible first | exact HB.out ) )) hb); clear BK337; clear HB; have HO340 := n0_; have BK337 := n1_; have HB := n2_; clear n0_ n1_ n2_; clear hb ho87; obtain ⟨Ao88, co88, eo88⟩ := Kd.R_slice HO340.out; subst eo88) | ((with_reducible refine gate_callee (f := 42) rfl ?_); refine goesL_ (some 11) rfl rfl Try.func42 (by kernel_rfl) rfl #[.string a0, .slice Ao88 y338.length co88] rfl (by (try simp only [List.map_toArray, List.map_cons, List.map_nil]); first | rfl ) ?_; (with_reducible refine (caduceusref01_Take.calls k a0 _ _ y338 t341 t344 t345 _ ?side1 ?side2 A2.out).mono ?_); (case side1 => repeat (first | exact (Kd.R_reads' HO340.out).2.2 )); (case side2 => exact (Kd.R_reads' HO340.out).2.1); rintro e w89 ⟨v342, rfl, ho0, hb⟩; refine ⟨_, rfl, ?_⟩; have n0_ := Aside0.mk (Kd.R_below (by (with_reducible repeat (fail)); exact HO340.out) hb); have n1_ := Aside0.mk (Kd.R_lower ho0 (below_size (by repeat (first | (with_reducible first | exact HB.out ) )))); have n2_ := Aside0.mk (blk_below (g := gb337) (o := .cells #[.int .i64 0, .slice none 0 0] 32 (0, 0)) (by (with_reducible repeat (fail)); exact BK337.out) hb); have n3_ := Aside0.mk (below_step (by repeat (first | (with_reducible first | exact HB.out ) )) hb); clear HO340; clear BK337; clear HB; have HO340 := n0_; have HO343 := n1_; have BK337 := n2_; have HB := n3_; clear n0_ n1_ n2_ n3_; (try clear hb); (try clear hb2); (try clear hk); (try clear hi); (try clear ho0)) | ((with_reducible refine gate_dst (N := 4) rfl ?_); refine box_event ?hg (N := 4) ?hd (cs := #[.slice none 0 0, .string (⟨#[]⟩ : ByteArray), .int .i64 0]) (t := 79) ?hr ?_; (case hd => rfl); (case hg => rfl); (case hr => first | (go_simp; done) ); intro gb346 hg w90 hbox hb; have n0_ := Aside0.mk (Kd.R_below (by (with_reducible repeat (fail)); exact HO340.out) hb); have n1_ := Aside0.mk (Kd.R_below (by (with_reducible repeat (fail)); exact HO343.out) hb); have n2_ := Aside0.mk (blk_below (g := gb337) (o := .cells #[.int .i64 0, .slice none 0 0] 32 (0, 0)) (by (with_reducible repeat (fail)); exact BK337.out) hb); have n3_ := Aside0.mk (below_step (by repeat (first | (with_reducible first | exact HB.out ) )) hb); have n4_ := Aside0.mk (hbox); have n5_ := Aside0.mk ((by rw [hg]; exact (below_size (by repeat (first | (with_reducible first | exact HB.out ) ))) : w.heap.size ≤ gb346)); have n6_ := Aside0.mk ((by rw [hg]; exact (below_size (by repeat (first | (with_reducible first | exact HB.out ) ))) : w.heap.size ≤ gb346)); have n7_ := Aside0.mk ((by rw [hg]; exact Nat.ne_of_lt (blk_lt (g := gb337) (o := .cells #[.int .i64 0, .slice none 0 0] 32 (0, 0)) (by (with_reducible repeat (fail)); exact BK337.out)) : gb337 ≠ gb346)); have n8_ := Aside0.mk ((by rw [hg]; exact Nat.ne_of_gt (blk_lt (g := gb337) (o := .cells #[.int .i64 0, .slice none 0 0] 32 (0, 0)) (by (with_reducible repeat (fail)); exact BK337.out)) : gb346 ≠ gb337)); clear HO340; clear HO343; clear BK337; clear HB; have HO340 := n0_; have HO343 := n1_; have BK337 := n2_; have HB := n3_; have BK346 := n4_; have GW346 := n5_; have GE346 := n6_; have NB337_346 := n7_; have NB346_337 := n8_; clear n0_ n1_ n2_ n3_ n4_ n5_ n6_ n7_ n8_; clear hb hbox hg; obtain ⟨Ao91, co91, eo91⟩ := Kd.R_slice HO343.out; subst eo91; have hnb92 := NB346_337.out; have hnc92 := NB337_346.out; have hcz93_0 : w90.cell? ⟨gb346, 0, none⟩ = some (.slice none 0 0) := (blk_cell BK346.out 0).trans rfl; have hcz93_1 : w90.cell? ⟨gb346, 1, none⟩ = some (.string (⟨#[]⟩ : ByteArray)) := (blk_cell BK346.out 1).trans rfl; have hcz93_2 : w90.cell? ⟨gb346, 2, none⟩ = some (.int .i64 0) := (blk_cell BK346.out 2).trans rfl; have hfz93_0 := blk_frozen BK346.out 0; have hfz93_1 := blk_frozen BK346.out 1; have hfz93_2 := blk_frozen BK346.out 2; have hcz94_0 : w90.cell? ⟨gb337, 0, none⟩ = some (.int .i64 0) := (blk_cell BK337.out 0).trans rfl; have hcz94_1 : w90.cell? ⟨gb337, 1, none⟩ = some (.slice none 0 0) := (blk_cell BK337.out 1).trans rfl; have hfz94_0 := blk_frozen BK337.out 0; have hfz94_1 := blk_frozen BK337.out 1))
  refine bodyPost_ret (results_ct rfl _ _ gb337 32 #[.int .i64 0, .slice none 0 0] (0, 0) _ rfl (by (with_reducible repeat (fail)); refine blk_put (cs := #[.int .i64 0, .slice none 0 0]) ?_ 1 _ rfl; (with_reducible repeat (fail)); refine blk_put (cs := #[.int .i64 0, .slice none 0 0]) ?_ 0 _ rfl; (with_reducible repeat (fail)); refine blk_far ?_ NB337_346.out _; (with_reducible repeat (fail)); refine blk_far ?_ NB337_346.out _; (with_reducible repeat (fail)); refine blk_far ?_ NB337_346.out _; (with_reducible repeat (fail)); exact BK337.out) Try.underlying32 rfl (by kernel_rfl)) rfl ?_
  exact ⟨_, by first | rfl , by first | exact Kd.R_nil _ _ _ _ _ , by repeat (first | (with_reducible first | exact HB.out | refine below_set ?_ GE337.out | refine below_set ?_ GE346.out) )⟩

end Go.Proofs.Ytpdalofhekmbeaa.PViewReads
