/- A pair is made (fresh). By hand; the steps of the drawn region by a program of this session. -/
import Derived.Test.YtdibaeomepallaaLn
namespace Go.Proofs.Ytdibaeomepallaa.LK
open Go.RowKit Go.Proofs.YtdibaeomepallaaW.PrintWords Go.Proofs.YtdibaeomepallaaW.PrintLast Go.Proofs.YtdibaeomepallaaW.PrintMore Go.Proofs.Ytdibaeomepallaa.PAll Go.Proofs.Ytdibaeomepallaa.NW
set_option linter.unusedVariables false
set_option linter.unusedSimpArgs false
set_option maxRecDepth 100000
def xA (f : Int) : S65 := ⟨1, 1, 2, 1, f⟩
def xB (f : Int) : S65 := ⟨2, 1, 1, 1, f⟩
theorem may_AB {f : Int} (h1 : 1 ≤ f) (h2 : f ≤ 1099511627775) : mayL ⟨1, 1, 2, 1, f⟩ = true ∧ mayL ⟨2, 1, 1, 1, f⟩ = true := by
  unfold mayL
  simp only [Bool.and_eq_true, decide_eq_true_eq]
  omega
theorem boxes2L (w : World) (o1 o2 : Obj) : ∃ wq, wq = (w.alloc o1).alloc o2 ∧ Below w.heap.size w wq ∧ wq.heap[w.heap.size]? = some o1 ∧ wq.heap[w.heap.size + 1]? = some o2 := by
  refine ⟨_, rfl, below_alloc (below_alloc (Below.refl _ _) o1) o2, blk_alloc (blk_new w o1) o2, ?_⟩
  have hn := blk_new (w.alloc o1) o2
  rwa [show (w.alloc o1).heap.size = w.heap.size + 1 by simp] at hn
end Go.Proofs.Ytdibaeomepallaa.LK
