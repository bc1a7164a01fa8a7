/- The net's contracts with packets written out; the law NetNil's walk, given that the example is as it should be. -/
import Derived.Test.YtdibaeomepallaaNL
import Derived.Deep.RegionHeld3
import Derived.Deep.DrawnRows
namespace Go.Proofs.Ytdibaeomepallaa.NW
open Go.RowKit Go.Proofs.YtdibaeomepallaaW.PrintWords Go.Proofs.YtdibaeomepallaaW.PrintLast Go.Proofs.YtdibaeomepallaaW.PrintMore Go.Proofs.Ytdibaeomepallaa.PAll
set_option linter.unusedVariables false
set_option linter.unusedSimpArgs false
set_option maxRecDepth 100000
theorem keep_box {w W : World} {g : Nat} {o : Obj} (h : w.heap[g]? = some o) (hb : Below w.heap.size w W) : W.heap[g]? = some o := (hb.block g (blk_lt h)).trans h
theorem take_nil_x (w : World) (a b i : Int) : Calls Try.prog 24 #[.pointer none, .agg #[.int .i64 a, .int .i64 b], .int .i64 i] w fun e w' => e = .returned (.tuple #[.agg #[.int .i64 0, .int .i64 0, .int .i64 0, .int .i64 0, .int .i64 0, .int .i64 0, .string ⟨#[]⟩], .int .i64 1]) ∧ Below w.heap.size w w' := take_nil w a b i
theorem send_nil_x (w : World) (p : Pk) : Calls Try.prog 17 #[.pointer none, .agg #[.int .i64 p.f0, .int .i64 p.f1, .int .i64 p.f2, .int .i64 p.f3, .int .i64 p.f4, .int .i64 p.f5, .string p.f6]] w fun e w' => e = .returned (.int .i64 1) ∧ Below w.heap.size w w' := send_nil w p
theorem send_x {w : World} {F : Nat → Prop} {g : Nat} {q : List (List Pk)} {ap : List Bool} (p : Pk) (h : NetW w F g q ap) (hc : cnt q ≤ 1000) :
    Calls Try.prog 17 #[.pointer (some ⟨g, 0, none⟩), .agg #[.int .i64 p.f0, .int .i64 p.f1, .int .i64 p.f2, .int .i64 p.f3, .int .i64 p.f4, .int .i64 p.f5, .string p.f6]] w fun e w' => e = .returned (.int .i64 (sendE p q)) ∧ NetW w' (NW.grow F w w') g (sendQ p q) ap ∧ Mods F w w' := send_is p h hc
theorem take_x {w : World} {F : Nat → Prop} {g : Nat} {q : List (List Pk)} {ap : List Bool} (h : NetW w F g q ap) (hc : cnt q ≤ 1000) (a b i : Int) (p : Pk) (hp : p = takeP q ap a b i) : Calls Try.prog 24 #[.pointer (some ⟨g, 0, none⟩), .agg #[.int .i64 a, .int .i64 b], .int .i64 i] w fun e w' => e = .returned (.tuple #[.agg #[.int .i64 p.f0, .int .i64 p.f1, .int .i64 p.f2, .int .i64 p.f3, .int .i64 p.f4, .int .i64 p.f5, .string p.f6], .int .i64 (takeE q ap a b i)]) ∧ NetW w' (grow F w w') g (takeQ q ap a b i) ap ∧ Mods F w w' := by
  subst hp
  exact take_is h hc a b i
set_option maxHeartbeats 4000000 in
theorem nil_walk (hawake : ∀ w : World, Calls Try.prog 16 #[] w fun e w' => e = .returned (.bool true) ∧ Below w.heap.size w w') (p : Pk) (a b i : Int) (w : World) :
    Calls Try.prog 7 #[.agg #[.int .i64 p.f0, .int .i64 p.f1, .int .i64 p.f2, .int .i64 p.f3, .int .i64 p.f4, .int .i64 p.f5, .string p.f6], .agg #[.int .i64 a, .int .i64 b], .int .i64 i] w fun e w' => e = .returned (.bool true) ∧ Below w.heap.size w w' := by
  have hu28 := Try.underlying28
  have hu32 := Try.underlying32
  have HB := Aside0.mk (Below.refl w.heap.size w)
  have HA := Aside0.mk hawake
  clear hawake
  go_enter Try.func7, Try.ntmps7
  go_wp2_with (first
    | ((with_reducible refine gate_dst (N := 14) rfl ?_); refine goesL_ (some 14) rfl rfl Try.func24 (by kernel_rfl) rfl #[.pointer none, .agg #[.int .i64 a, .int .i64 b], .int .i64 i] rfl (by (try simp only [List.map_toArray, List.map_cons, List.map_nil]); rfl) ?_; refine (take_nil_x _ a b i).mono ?_; rintro e w14 ⟨rfl, hb14⟩; have HB_ := Aside0.mk (below_step (by repeat (first | (with_reducible first | exact HB.out | apply below_alloc | apply pw_below_drewN | apply below_drew1) | exact HB.out)) hb14); clear HB; have HB := HB_; clear HB_; refine ⟨_, rfl, ?_⟩)
    | ((with_reducible refine gate_dst (N := 17) rfl ?_); refine goesL_ (some 17) rfl rfl Try.func16 (by kernel_rfl) rfl #[] rfl (by (try simp only [List.map_toArray, List.map_cons, List.map_nil]); rfl) ?_; refine (HA.out _).mono ?_; rintro e w17 ⟨rfl, hb17⟩; have HB_ := Aside0.mk (below_step (by repeat (first | (with_reducible first | exact HB.out | apply below_alloc | apply pw_below_drewN | apply below_drew1) | exact HB.out)) hb17); clear HB; have HB := HB_; clear HB_; refine ⟨_, rfl, ?_⟩)
    )
  have b3 : w14.heap[w.heap.size]? = some (.cells #[.int .i64 p.f0, .int .i64 p.f1, .int .i64 p.f2, .int .i64 p.f3, .int .i64 p.f4, .int .i64 p.f5, .string p.f6] 28 (0, 0)) := keep_box (blk_alloc (blk_new w _) _) hb14
  have b4 : w14.heap[w.heap.size + 1]? = some (.cells #[.int .i64 a, .int .i64 b] 32 (0, 0)) := keep_box (by have hn := blk_new (w.alloc (.cells #[.int .i64 p.f0, .int .i64 p.f1, .int .i64 p.f2, .int .i64 p.f3, .int .i64 p.f4, .int .i64 p.f5, .string p.f6] 28 (0, 0))) (.cells #[.int .i64 a, .int .i64 b] 32 (0, 0)); simpa using hn) hb14
  have c3_0 : w14.cell? ⟨w.heap.size, 0, none⟩ = some (.int .i64 p.f0) := (blk_cell b3 0).trans rfl
  have c3_1 : w14.cell? ⟨w.heap.size, 1, none⟩ = some (.int .i64 p.f1) := (blk_cell b3 1).trans rfl
  have c3_2 : w14.cell? ⟨w.heap.size, 2, none⟩ = some (.int .i64 p.f2) := (blk_cell b3 2).trans rfl
  have c3_3 : w14.cell? ⟨w.heap.size, 3, none⟩ = some (.int .i64 p.f3) := (blk_cell b3 3).trans rfl
  have c3_4 : w14.cell? ⟨w.heap.size, 4, none⟩ = some (.int .i64 p.f4) := (blk_cell b3 4).trans rfl
  have c3_5 : w14.cell? ⟨w.heap.size, 5, none⟩ = some (.int .i64 p.f5) := (blk_cell b3 5).trans rfl
  have c3_6 : w14.cell? ⟨w.heap.size, 6, none⟩ = some (.string p.f6) := (blk_cell b3 6).trans rfl
  have c4_0 : w14.cell? ⟨w.heap.size + 1, 0, none⟩ = some (.int .i64 a) := (blk_cell b4 0).trans rfl
  have c4_1 : w14.cell? ⟨w.heap.size + 1, 1, none⟩ = some (.int .i64 b) := (blk_cell b4 1).trans rfl
  clear b3 b4 hb14
  simp only [List.append]
  go_region_held3 (fun w' => w'.cell? ⟨w.heap.size, 0, none⟩ = some (.int .i64 p.f0) ∧ w'.cell? ⟨w.heap.size, 1, none⟩ = some (.int .i64 p.f1) ∧ w'.cell? ⟨w.heap.size, 2, none⟩ = some (.int .i64 p.f2) ∧ w'.cell? ⟨w.heap.size, 3, none⟩ = some (.int .i64 p.f3) ∧ w'.cell? ⟨w.heap.size, 4, none⟩ = some (.int .i64 p.f4) ∧ w'.cell? ⟨w.heap.size, 5, none⟩ = some (.int .i64 p.f5) ∧ w'.cell? ⟨w.heap.size, 6, none⟩ = some (.string p.f6) ∧ w'.cell? ⟨w.heap.size + 1, 0, none⟩ = some (.int .i64 a) ∧ w'.cell? ⟨w.heap.size + 1, 1, none⟩ = some (.int .i64 b)) (((try dsimp only); (repeat' apply And.intro) <;> first | assumption | (refine pw_cell_below (below_drew (below_alloc (Below.refl _ _) _)) ?_; assumption) | (refine pw_cell_below hb1 ?_; simp only [*]))) (first | (go_at_call 17; refine (send_nil_x _ p).mono ?_; rintro e w1 ⟨rfl, hb1⟩) | (go_at_call 31; refine (lose_nil _ a b i).mono ?_; rintro e w1 ⟨rfl, hb1⟩) | (go_at_call 19; refine (twice_nil _ a b i).mono ?_; rintro e w1 ⟨rfl, hb1⟩) | (go_at_call 32; refine (apart_nil _ a b true).mono ?_; rintro e w1 ⟨rfl, hb1⟩) | (go_at_call 21; refine (count_nil _).mono ?_; rintro e w1 ⟨rfl, hb1⟩) | (go_at_call 28; refine (len_nil _ a b).mono ?_; rintro e w1 ⟨rfl, hb1⟩) | (go_at_call 20; refine (clear_nil _ i).mono ?_; rintro e w1 ⟨rfl, hb1⟩) | (go_at_call 33; refine (hops_nil _).mono ?_; rintro e w1 ⟨rfl, hb1⟩) | (go_at_call 25; refine (row_nil _ a b).mono ?_; rintro e w1 ⟨rfl, hb1⟩) | (go_at_call 29; refine (cut_nil _ a b).mono ?_; rintro e w1 ⟨rfl, hb1⟩) | (go_at_call 16; refine (HA.out _).mono ?_; rintro e w1 ⟨rfl, hb1⟩))
  go_wp2
  go_ret
  refine ⟨rfl, ?_⟩
  repeat (first | exact HB.out | refine below_step ?_ (by assumption) | apply below_drew | (refine below_alloc ?_ _))
end Go.Proofs.Ytdibaeomepallaa.NW
