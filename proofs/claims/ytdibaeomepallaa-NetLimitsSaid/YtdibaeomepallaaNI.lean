/- The net, by hand: Len of any hop, Row. -/
import Derived.Test.YtdibaeomepallaaNH
import Derived.StillTailTactics
namespace Go.Proofs.Ytdibaeomepallaa.NW
open Go.RowKit Go.Proofs.YtdibaeomepallaaW.PrintWords Go.Proofs.YtdibaeomepallaaW.PrintLast Go.Proofs.YtdibaeomepallaaW.PrintMore Go.Proofs.Ytdibaeomepallaa.PAll
set_option linter.unusedVariables false
set_option linter.unusedSimpArgs false
set_option maxRecDepth 100000
/-- May a hop be? -/
def hopB (a b : Int) : Bool := decide (1 ≤ a ∧ a ≤ 15) && decide (1 ≤ b ∧ b ≤ 15) && decide (a ≠ b)
theorem hopB_iff {a b : Int} : hopB a b = true ↔ (1 ≤ a ∧ a ≤ 15) ∧ (1 ≤ b ∧ b ≤ 15) ∧ a ≠ b := by
  unfold hopB
  simp only [Bool.and_eq_true, decide_eq_true_eq]
  exact ⟨fun h => ⟨h.1.1, h.1.2, h.2⟩, fun h => ⟨⟨h.1, h.2.1⟩, h.2.2⟩⟩
theorem node_is (n : Int) : net_node.f n = some (decide (1 ≤ n ∧ n ≤ 15)) := by
  unfold net_node.f
  by_cases h : n ≥ 1
  · rw [if_pos h]
    congr 1
    exact decide_eq_decide.2 ⟨fun e => ⟨h, e⟩, fun e => e.2⟩
  · rw [if_neg h]
    congr 1
    exact (decide_eq_false (fun e => h e.1)).symm
theorem is_is (a b : Int) : net_is.f a b = some (hopB a b) := by
  unfold net_is.f hopB
  rw [node_is a, node_is b]
  simp only [Option.bind_some]
  by_cases h1 : 1 ≤ a ∧ a ≤ 15 <;> by_cases h2 : 1 ≤ b ∧ b ≤ 15 <;> by_cases h3 : a = b <;> simp [h1, h2, h3]
def rowAt (q : List (List Pk)) (a b : Int) : List Pk := if hopB a b = true then q.getD (at2 a b) [] else []
theorem NetW.row {w : World} {F : Nat → Prop} {g : Nat} {q : List (List Pk)} {ap : List Bool} (h : NetW w F g q ap) {a b : Int} (hb : hopB a b = true) : q[a.toNat * 16 + b.toNat]? = some (rowAt q a b) := by
  obtain ⟨h1, h2, h3⟩ := hopB_iff.1 hb
  unfold rowAt at2
  rw [if_pos hb, List.getD_eq_getElem?_getD, List.getElem?_eq_getElem (by rw [h.lq]; omega)]
  rfl
theorem NetW.bool {w : World} {F : Nat → Prop} {g : Nat} {q : List (List Pk)} {ap : List Bool} (h : NetW w F g q ap) {a b : Int} (hb : hopB a b = true) : ap[a.toNat * 16 + b.toNat]? = some (ap.getD (at2 a b) false) := by
  obtain ⟨h1, h2, h3⟩ := hopB_iff.1 hb
  unfold at2
  rw [List.getD_eq_getElem?_getD, List.getElem?_eq_getElem (by rw [h.la]; omega)]
  rfl
theorem len_no (w : World) (g : Nat) (a b : Int) (his : hopB a b = false) :
    Calls Try.prog 28 #[.pointer (some ⟨g, 0, none⟩), .agg #[.int .i64 a, .int .i64 b]] w fun e w' => e = .returned (.int .i64 0) ∧ Below w.heap.size w w' := by
  have hu32 := Try.underlying32
  have info32 : (Try.prog.info? 32).map (·.size) = some 2 := by kernel_rfl
  have hi : net_is.f a b = some false := by rw [is_is, his]
  have hB := below_alloc (Below.refl w.heap.size w) (Obj.cells #[Value.int IntKind.i64 a, Value.int IntKind.i64 b] 32)
  go_enter Try.func28, Try.ntmps28
  go_wp2_with ((with_reducible refine gate_callee (f := 71) rfl ?_); refine gate_guard (by rfl) ?_; dsimp only; refine goesL_ (some 9) rfl rfl Try.func71 (by kernel_rfl) rfl #[.agg #[.int .i64 a, .int .i64 b]] rfl (by (try simp only [List.map_toArray, List.map_cons, List.map_nil]); rfl) ?_; refine (net_is.calls a b false _ hi).mono ?_; rintro e w12 ⟨rfl, hb12⟩; refine ⟨_, rfl, ?_⟩)
  go_ret
  exact ⟨rfl, hB.trans (hb12.mono hB.size)⟩
theorem len_is {w : World} {F : Nat → Prop} {g : Nat} {q : List (List Pk)} {ap : List Bool} (h : NetW w F g q ap) (a b : Int) :
    Calls Try.prog 28 #[.pointer (some ⟨g, 0, none⟩), .agg #[.int .i64 a, .int .i64 b]] w fun e w' => e = .returned (.int .i64 ((rowAt q a b).length : Int)) ∧ Below w.heap.size w w' := by
  cases hb : hopB a b with
  | false =>
    have : rowAt q a b = [] := by unfold rowAt; rw [hb]; rfl
    rw [this]
    exact len_no w g a b hb
  | true =>
    obtain ⟨h1, h2, h3⟩ := hopB_iff.1 hb
    have hrow := h.row hb
    obtain ⟨vs, h, hin⟩ := h
    obtain ⟨v, hv⟩ : ∃ v, vs[a.toNat * 16 + b.toNat]? = some v := ⟨_, List.getElem?_eq_getElem (by rw [h.lv]; omega)⟩
    obtain ⟨A, c, rfl⟩ := h.slice hv hrow
    exact len_yes g a b w A _ c h1.1 h1.2 h2.1 h2.2 h3 (h.cell hv)
theorem row_is {w : World} {F : Nat → Prop} {g : Nat} {q : List (List Pk)} {ap : List Bool} (h : NetW w F g q ap) (a b : Int) (hl : (rowAt q a b).length ≤ 1000) :
    Calls Try.prog 25 #[.pointer (some ⟨g, 0, none⟩), .agg #[.int .i64 a, .int .i64 b]] w fun e w' => ∃ v, e = .returned v ∧ Kd.R k28 28 w' w.heap.size (fun _ => True) v (rowAt q a b) ∧ Below w.heap.size w w' := by
  have hu32 := Try.underlying32
  have info32 : (Try.prog.info? 32).map (·.size) = some 2 := by kernel_rfl
  have hB := below_alloc (Below.refl w.heap.size w) (Obj.cells #[Value.int IntKind.i64 a, Value.int IntKind.i64 b] 32)
  have hbox := blk_new w (Obj.cells #[Value.int IntKind.i64 a, Value.int IntKind.i64 b] 32)
  have hlen := len_is (h.below hB) a b
  cases hr : rowAt q a b with
  | nil =>
    rw [hr] at hlen
    go_enter Try.func25, Try.ntmps25
    go_wp2_with ((with_reducible refine gate_callee (f := 28) rfl ?_); refine goesL_ (some 7) rfl rfl Try.func28 (by kernel_rfl) rfl #[.pointer (some ⟨g, 0, none⟩), .agg #[.int .i64 a, .int .i64 b]] rfl (by (try simp only [List.map_toArray, List.map_cons, List.map_nil]); rfl) ?_; refine hlen.mono ?_; rintro e w1 ⟨rfl, hb1⟩; refine ⟨_, rfl, ?_⟩)
    go_ret
    exact ⟨_, rfl, Kd.R_nil _ _ _ _ _, hB.trans (hb1.mono hB.size)⟩
  | cons x0 r0 =>
    have hb : hopB a b = true := by
      cases hb : hopB a b with
      | true => rfl
      | false => unfold rowAt at hr; rw [hb] at hr; cases hr
    obtain ⟨h1, h2, h3⟩ := hopB_iff.1 hb
    have hrow := h.row hb
    obtain ⟨vs, h, hin⟩ := h
    obtain ⟨v, hv⟩ : ∃ v, vs[a.toNat * 16 + b.toNat]? = some v := ⟨_, List.getElem?_eq_getElem (by rw [h.lv]; omega)⟩
    rw [← hr]
    generalize rowAt q a b = row at *
    have hne : ((row.length : Int) == 0) = false := by rw [hr]; simp; omega
    have HR := Aside0.mk hr
    clear hr
    have hu117 := Try.underlying117
    have hu113 := Try.underlying113
    have hu112 := Try.underlying112
    have a0 : (0 : Int) ≤ a := by omega
    have a16 : a < 16 := by omega
    have b0 : (0 : Int) ≤ b := by omega
    have b16 : b < 16 := by omega
    go_enter Try.func25, Try.ntmps25
    go_wp2_with ((with_reducible refine gate_callee (f := 28) rfl ?_); refine goesL_ (some 7) rfl rfl Try.func28 (by kernel_rfl) rfl #[.pointer (some ⟨g, 0, none⟩), .agg #[.int .i64 a, .int .i64 b]] rfl (by (try simp only [List.map_toArray, List.map_cons, List.map_nil]); rfl) ?_; refine hlen.mono ?_; rintro e w1 ⟨rfl, hb1⟩; refine ⟨_, rfl, ?_⟩)
    have hbox1 := (hb1.block w.heap.size (by simp)).trans hbox
    have h11 := ((h.below hB).below hb1).below (w1 := w1.drew) (below_drew1 (Below.refl _ _))
    obtain ⟨A, c, rfl, hc, hC⟩ := row_C (h11.row _ _ _ hv hrow)
    have c0 : w1.drew.cell? ⟨w.heap.size, 0, none⟩ = some (.int .i64 a) := (blk_cell (blk_drew hbox1) 0).trans rfl
    have c1 : w1.drew.cell? ⟨w.heap.size, 1, none⟩ = some (.int .i64 b) := (blk_cell (blk_drew hbox1) 1).trans rfl
    have cr := h11.cell hv
    have HC := Aside0.mk hC
    clear hC
    go_still_tail 10, (by kernel_rfl)
    change wpList _ _ _ _ _ w1.drew
    have hB1 := below_drew1 (hB.trans (hb1.mono hB.size))
    refine goesL_ (some 19) rfl rfl Try.func70 (by kernel_rfl) rfl #[.slice A row.length c] rfl (by (try simp only [List.map_toArray, List.map_cons, List.map_nil]); rfl) ?_
    refine (clone_is A c row w1.drew HC.out hc hl).mono ?_
    rintro e w29 ⟨v0, rfl, hR, hb29⟩
    refine ⟨_, rfl, ?_⟩
    simp only [Act.put, List.setIfInBounds_toArray, List.set_cons_zero, List.set_cons_succ]
    go_wp2
    go_ret
    exact ⟨_, rfl, Kd.R_lower hR hB1.size, hB1.trans (hb29.mono hB1.size)⟩
end Go.Proofs.Ytdibaeomepallaa.NW
