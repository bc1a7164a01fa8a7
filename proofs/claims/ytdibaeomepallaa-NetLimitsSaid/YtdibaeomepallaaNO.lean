/- The net's example: awake. -/
import Derived.Test.YtdibaeomepallaaNN
namespace Go.Proofs.Ytdibaeomepallaa.NW
open Go.RowKit Go.Proofs.YtdibaeomepallaaW.PrintWords Go.Proofs.YtdibaeomepallaaW.PrintLast Go.Proofs.YtdibaeomepallaaW.PrintMore Go.Proofs.Ytdibaeomepallaa.PAll
set_option linter.unusedVariables false
set_option linter.unusedSimpArgs false
set_option maxRecDepth 100000
def pkA (n : Int) (s : ByteArray) : Pk := ⟨1, 2, 1, 1, n, 0, s⟩
def q0 : List (List Pk) := List.replicate 256 []
def a0 : List Bool := List.replicate 256 false
def q1 := sendQ (pkA 1 ⟨#[97]⟩) q0
def q2 := sendQ (pkA 2 ⟨#[98]⟩) q1
def q3 := twiceQ q2 1 2 0
def q4 := takeQ q3 a0 1 2 2
def a1 := apartA a0 2 1 true
def q5 := takeQ q4 a1 1 2 0
theorem r1 : sendE (pkA 1 ⟨#[97]⟩) q0 = 0 := by kernel_rfl
theorem r2 : sendE (pkA 2 ⟨#[98]⟩) q1 = 0 := by kernel_rfl
theorem r3 : twiceE q2 1 2 0 = 0 := by kernel_rfl
theorem r4 : takeE q3 a0 1 2 2 = 0 := by kernel_rfl
theorem r4p : takeP q3 a0 1 2 2 = pkA 1 ⟨#[97]⟩ := by kernel_rfl
theorem r5 : apartE 2 1 = 0 := by kernel_rfl
theorem r6 : takeE q4 a1 1 2 0 = 12 := by kernel_rfl
theorem r6p : takeP q4 a1 1 2 0 = pk0 := by kernel_rfl
theorem r7 : cnt q5 = 2 := by kernel_rfl
theorem r8 : hopsTo q5 a1 256 = [] := by kernel_rfl
theorem c0 : cnt q0 ≤ 1000 := of_decide_eq_true (by kernel_rfl)
theorem c1 : cnt q1 ≤ 1000 := of_decide_eq_true (by kernel_rfl)
theorem c2 : cnt q2 ≤ 1000 := of_decide_eq_true (by kernel_rfl)
theorem c3 : cnt q3 ≤ 1000 := of_decide_eq_true (by kernel_rfl)
theorem c4 : cnt q4 ≤ 1000 := of_decide_eq_true (by kernel_rfl)
theorem c5 : cnt q5 ≤ 1000 := of_decide_eq_true (by kernel_rfl)
set_option maxHeartbeats 1000000 in
theorem awake_is (w : World) : Calls Try.prog 16 #[] w fun e w' => e = .returned (.bool true) ∧ Below w.heap.size w w' := by
  have hu28 := Try.underlying28
  have hu32 := Try.underlying32
  go_enter Try.func16, Try.ntmps16
  go_wp2_with (first
    | ((with_reducible refine gate_dst (N := 10) rfl ?_); refine goesL_ (some 10) rfl rfl Try.func15 (by kernel_rfl) rfl #[] rfl (by simp) ?_; refine (St.new w _ (Below.refl _ _)).mono ?_; rintro e w10 ⟨rfl, hs⟩; have HS := Aside0.mk (show St w w.heap.size [] q0 a0 w10 from hs); clear hs; refine ⟨_, rfl, ?_⟩)
    | ((with_reducible refine gate_dst (N := 13) rfl ?_); refine goesL_ (some 13) rfl rfl Try.func18 (by kernel_rfl) rfl #[.int .i64 1, .int .i64 2, .int .i64 1, .string ⟨#[97]⟩] rfl (by first | (simp only [List.map_toArray, List.map_cons, List.map_nil]; rfl) | rfl) ?_; refine (caduceuslaw12_packet.calls 1 2 1 ⟨#[97]⟩ 1 2 1 1 1 0 ⟨#[97]⟩ _ rfl).mono ?_; rintro e w13 ⟨rfl, hb⟩; have HS_ := Aside0.mk (St.bel (by repeat (first | (with_reducible exact HS.out) | apply St.drew | apply St.drewN | apply St.alloc)) hb); clear HS; have HS := HS_; clear HS_; clear hb; refine ⟨_, rfl, ?_⟩)
    | ((with_reducible refine gate_dst (N := 14) rfl ?_); refine goesL_ (some 14) rfl rfl Try.func17 (by kernel_rfl) rfl #[.pointer (some ⟨w.heap.size, 0, none⟩), .agg #[.int .i64 1, .int .i64 2, .int .i64 1, .int .i64 1, .int .i64 1, .int .i64 0, .string ⟨#[97]⟩]] rfl (by first | (simp only [List.map_toArray, List.map_cons, List.map_nil]; rfl) | rfl) ?_; refine (St.send (w0 := w) (q := q0) (ap := a0) (by repeat (first | (with_reducible exact HS.out) | apply St.drew | apply St.drewN | apply St.alloc)) (pkA 1 ⟨#[97]⟩) c0).mono ?_; rintro e w14 ⟨rfl, hs⟩; rw [r1]; have HS_ := Aside0.mk (show St w w.heap.size _ q1 a0 w14 from hs); clear HS hs; have HS := HS_; clear HS_; refine ⟨_, rfl, ?_⟩)
    | ((with_reducible refine gate_dst (N := 16) rfl ?_); refine goesL_ (some 16) rfl rfl Try.func18 (by kernel_rfl) rfl #[.int .i64 1, .int .i64 2, .int .i64 2, .string ⟨#[98]⟩] rfl (by first | (simp only [List.map_toArray, List.map_cons, List.map_nil]; rfl) | rfl) ?_; refine (caduceuslaw12_packet.calls 1 2 2 ⟨#[98]⟩ 1 2 1 1 2 0 ⟨#[98]⟩ _ rfl).mono ?_; rintro e w16 ⟨rfl, hb⟩; have HS_ := Aside0.mk (St.bel (by repeat (first | (with_reducible exact HS.out) | apply St.drew | apply St.drewN | apply St.alloc)) hb); clear HS; have HS := HS_; clear HS_; clear hb; refine ⟨_, rfl, ?_⟩)
    | ((with_reducible refine gate_dst (N := 17) rfl ?_); refine goesL_ (some 17) rfl rfl Try.func17 (by kernel_rfl) rfl #[.pointer (some ⟨w.heap.size, 0, none⟩), .agg #[.int .i64 1, .int .i64 2, .int .i64 1, .int .i64 1, .int .i64 2, .int .i64 0, .string ⟨#[98]⟩]] rfl (by first | (simp only [List.map_toArray, List.map_cons, List.map_nil]; rfl) | rfl) ?_; refine (St.send (w0 := w) (q := q1) (ap := a0) (by repeat (first | (with_reducible exact HS.out) | apply St.drew | apply St.drewN | apply St.alloc)) (pkA 2 ⟨#[98]⟩) c1).mono ?_; rintro e w17 ⟨rfl, hs⟩; rw [r2]; have HS_ := Aside0.mk (show St w w.heap.size _ q2 a0 w17 from hs); clear HS hs; have HS := HS_; clear HS_; refine ⟨_, rfl, ?_⟩)
    | ((with_reducible refine gate_dst (N := 19) rfl ?_); refine wpList_load_row rfl 32 (.tmp 2) rfl w10.heap.size rfl 32 _ (0, 0) _ (St.box HS.out List.mem_cons_self) Try.underlying32 rfl info32s ?_)
    | ((with_reducible refine gate_dst (N := 20) rfl ?_); refine goesL_ (some 20) rfl rfl Try.func19 (by kernel_rfl) rfl #[.pointer (some ⟨w.heap.size, 0, none⟩), .agg #[.int .i64 1, .int .i64 2], .int .i64 0] rfl (by first | (simp only [List.map_toArray, List.map_cons, List.map_nil]; rfl) | rfl) ?_; refine (St.twice (w0 := w) (q := q2) (ap := a0) (by repeat (first | (with_reducible exact HS.out) | apply St.drew | apply St.drewN | apply St.alloc)) c2 1 2 0).mono ?_; rintro e w20 ⟨rfl, hs⟩; rw [r3]; have HS_ := Aside0.mk (show St w w.heap.size _ q3 a0 w20 from hs); clear HS hs; have HS := HS_; clear HS_; refine ⟨_, rfl, ?_⟩)
    | ((with_reducible refine gate_dst (N := 23) rfl ?_); refine wpList_load_row rfl 32 (.tmp 2) rfl w10.heap.size rfl 32 _ (0, 0) _ (St.box HS.out List.mem_cons_self) Try.underlying32 rfl info32s ?_)
    | ((with_reducible refine gate_dst (N := 24) rfl ?_); refine goesL_ (some 24) rfl rfl Try.func24 (by kernel_rfl) rfl #[.pointer (some ⟨w.heap.size, 0, none⟩), .agg #[.int .i64 1, .int .i64 2], .int .i64 2] rfl (by first | (simp only [List.map_toArray, List.map_cons, List.map_nil]; rfl) | rfl) ?_; refine (St.take (w0 := w) (q := q3) (ap := a0) (by repeat (first | (with_reducible exact HS.out) | apply St.drew | apply St.drewN | apply St.alloc)) c3 1 2 2 (⟨1, 2, 1, 1, 1, 0, ⟨#[97]⟩⟩ : S28) r4p).mono ?_; rintro e w24 ⟨rfl, hs⟩; rw [r4]; have HS_ := Aside0.mk (show St w w.heap.size _ q4 a0 w24 from hs); clear HS hs; have HS := HS_; clear HS_; refine ⟨_, rfl, ?_⟩)
    | ((with_reducible refine gate_dst (N := 28) rfl ?_); refine goesL_ (some 28) rfl rfl Try.func32 (by kernel_rfl) rfl #[.pointer (some ⟨w.heap.size, 0, none⟩), .int .i64 2, .int .i64 1, .bool true] rfl (by first | (simp only [List.map_toArray, List.map_cons, List.map_nil]; rfl) | rfl) ?_; refine (St.apart (w0 := w) (q := q4) (ap := a0) (by repeat (first | (with_reducible exact HS.out) | apply St.drew | apply St.drewN | apply St.alloc)) 2 1 true).mono ?_; rintro e w28 ⟨rfl, hs⟩; rw [r5]; have HS_ := Aside0.mk (show St w w.heap.size _ q4 a1 w28 from hs); clear HS hs; have HS := HS_; clear HS_; refine ⟨_, rfl, ?_⟩)
    | ((with_reducible refine gate_dst (N := 31) rfl ?_); refine wpList_load_row rfl 32 (.tmp 2) rfl w10.heap.size rfl 32 _ (0, 0) _ (St.box HS.out (List.mem_cons_of_mem _ List.mem_cons_self)) Try.underlying32 rfl info32s ?_)
    | ((with_reducible refine gate_dst (N := 32) rfl ?_); refine goesL_ (some 32) rfl rfl Try.func24 (by kernel_rfl) rfl #[.pointer (some ⟨w.heap.size, 0, none⟩), .agg #[.int .i64 1, .int .i64 2], .int .i64 0] rfl (by first | (simp only [List.map_toArray, List.map_cons, List.map_nil]; rfl) | rfl) ?_; refine (St.take (w0 := w) (q := q4) (ap := a1) (by repeat (first | (with_reducible exact HS.out) | apply St.drew | apply St.drewN | apply St.alloc)) c4 1 2 0 (⟨0, 0, 0, 0, 0, 0, ⟨#[]⟩⟩ : S28) r6p).mono ?_; rintro e w32 ⟨rfl, hs⟩; rw [r6]; have HS_ := Aside0.mk (show St w w.heap.size _ q5 a1 w32 from hs); clear HS hs; have HS := HS_; clear HS_; have ct : w32.cell? ⟨w24.heap.size, 6, none⟩ = some (.string ⟨#[97]⟩) := (blk_cell (St.box HS.out List.mem_cons_self) 6).trans rfl; have ct2 : (w32.alloc (.cells #[.int .i64 0, .int .i64 0, .int .i64 0, .int .i64 0, .int .i64 0, .int .i64 0, .string ⟨#[]⟩] 28 (0, 0))).cell? ⟨w24.heap.size, 6, none⟩ = some (.string ⟨#[97]⟩) := pw_cell_below (below_alloc (Below.refl _ _) _) ct; clear ct; refine ⟨_, rfl, ?_⟩)
    | ((with_reducible refine gate_dst (N := 60) rfl ?_); refine gate_guard (by rfl) ?_; dsimp only; refine goesL_ (some 60) rfl rfl Try.func21 (by kernel_rfl) rfl #[.pointer (some ⟨w.heap.size, 0, none⟩)] rfl (by first | (simp only [List.map_toArray, List.map_cons, List.map_nil]; rfl) | rfl) ?_; refine (St.count (w0 := w) (q := q5) (ap := a1) (by repeat (first | (with_reducible exact HS.out) | apply St.drew | apply St.drewN | apply St.alloc)) c5).mono ?_; rintro e w60 ⟨rfl, hs⟩; rw [r7]; have HS_ := Aside0.mk hs; clear HS; have HS := HS_; clear HS_; clear hs; refine ⟨_, rfl, ?_⟩)
    | ((with_reducible refine gate_dst (N := 65) rfl ?_); refine gate_guard (by rfl) ?_; dsimp only; refine goesL_ (some 65) rfl rfl Try.func33 (by kernel_rfl) rfl #[.pointer (some ⟨w.heap.size, 0, none⟩)] rfl (by first | (simp only [List.map_toArray, List.map_cons, List.map_nil]; rfl) | rfl) ?_; refine (St.hops (w0 := w) (q := q5) (ap := a1) (by repeat (first | (with_reducible exact HS.out) | apply St.drew | apply St.drewN | apply St.alloc))).mono ?_; rintro e w65 ⟨v, rfl, hr, hb, hs⟩; rw [r8] at hr; obtain ⟨A65, c65, rfl⟩ := Kd.R_slice hr; have HS_ := Aside0.mk hs; clear HS; have HS := HS_; clear HS_; clear hs hr hb; refine ⟨_, rfl, ?_⟩)
    )
  go_ret
  exact ⟨rfl, HS.out.below⟩
end Go.Proofs.Ytdibaeomepallaa.NW
