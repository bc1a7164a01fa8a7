/- The laws' queue: what is offered, its bounds; arrays of five numbers beside it. By hand. -/
import Derived.Test.YtmcochnofkjhaaaDoorQw
import Derived.Test.YtmcochnofkjhaaaDoorQh
namespace Go.Proofs.YtmcochnofkjhaaaDoor.QU
open Go.RowKit Go.Proofs.YtmcochnofkjhaaaDoorW.PrintWords Go.Proofs.YtmcochnofkjhaaaDoorW.PrintLast Go.Proofs.YtmcochnofkjhaaaDoorW.PrintMore Go.Proofs.YtmcochnofkjhaaaDoor.PAll
set_option linter.unusedVariables false
set_option linter.unusedSimpArgs false
set_option maxRecDepth 100000
theorem Bq.mono {q : Qu} {k k' : Nat} (h : Bq q k) (hk : k ≤ k') : Bq q k' := ⟨h.r1, h.r, h.l, h.o, Nat.le_trans h.n hk⟩
theorem Bq.cut {q : Qu} {k : Nat} (h : Bq q k) (l : List S36) (hl : l.length ≤ q.l.length) : Bq { q with l := l } k := ⟨h.r1, h.r, Nat.le_trans hl h.l, h.o, h.n⟩
section
variable {w0 w w' : World} {g m : Nat} {q q' : Qu} {v v' : Value}
theorem QAt.foreign (h : QAt w g q v m) {ga t : Nat} {cs : Array Value} (ha : w.heap[ga]? = some (.cells cs t (0, 0))) (h1 : t ≠ 68) (h2 : t ≠ 36) : ¬ lf g v m ga := by
  rintro (e | e | e)
  · rw [e, h.blk] at ha
    injection ha with ha
    injection ha with _ ha
    exact h1 ha.symm
  · obtain ⟨es, c, hm⟩ := h.ov.form
    rw [e, hm] at ha
    injection ha with ha
    cases ha
  · obtain ⟨c, hc⟩ := h.own e
    rw [hc] at ha
    injection ha with ha
    injection ha with _ ha
    exact h2 ha.symm
theorem QStep.keep (s : QStep w g v m q' v' w') (h : QAt w g q v m) {ga t : Nat} {cs : Array Value} (ha : w.heap[ga]? = some (.cells cs t (0, 0))) (h1 : t ≠ 68) (h2 : t ≠ 36) : w'.heap[ga]? = some (.cells cs t (0, 0)) :=
  (s.mods.block ga (blk_lt ha) (h.foreign ha h1 h2)).trans ha
/-- A cell of another box is written. -/
theorem QAt.beside (h : QAt w g q v m) {ga t : Nat} {cs : Array Value} (ha : w.heap[ga]? = some (.cells cs t (0, 0))) (h1 : t ≠ 68) (h2 : 36 ≠ t) (h3 : 87 ≠ t) (j : Nat) (x : Value) : QAt (w.setCell ⟨ga, j, none⟩ x) g q v m := by
  have hn := h.foreign ha h1 (fun e => h2 e.symm)
  refine ⟨?_, Kd.R_set h.row ha (k36_types h2 h3) j x, h.ov.other ?_⟩
  · exact (Below.heap_setCell w ⟨ga, j, none⟩ x g (fun e => hn (.inl e.symm))).trans h.blk
  · exact Below.heap_setCell w ⟨ga, j, none⟩ x m (fun e => hn (.inr (.inl e.symm)))
theorem QS.beside (h : QS w0 w g m q v) {ga t : Nat} {cs : Array Value} (ha : w.heap[ga]? = some (.cells cs t (0, 0))) (hlo : w0.heap.size ≤ ga) (h1 : t ≠ 68) (h2 : 36 ≠ t) (h3 : 87 ≠ t) (j : Nat) (x : Value) : QS w0 (w.setCell ⟨ga, j, none⟩ x) g m q v :=
  ⟨h.qu.beside ha h1 h2 h3 j x, below_cell h.bel hlo x, h.low⟩
end
/-- A queue's elements are small. -/
def Sm (q : Qu) : Prop := ∀ G ∈ q.l, G.f2.f2.length ≤ 1000000
theorem Bq.fg {q : Qu} {k : Nat} (h : Bq q k) (sub : Int) : Bq (fgQ q sub) k := ⟨h.r1, h.r, Nat.le_trans (fl_le q sub) h.l, Nat.le_trans (List.length_filter_le _ _) h.o, h.n⟩
theorem Sm.fg {q : Qu} (h : Sm q) (sub : Int) : Sm (fgQ q sub) := fun G hG => h G (List.mem_filter.1 hG).1
end Go.Proofs.YtmcochnofkjhaaaDoor.QU
