/- The law RingHops, plain: fingers and hops are the document's. -/
import Derived.Test.YtfmjhklejjohcaaDoorRP
import Derived.Test.YtfmjhklejjohcaaDoorPAllx7
namespace Go.Proofs.YtfmjhklejjohcaaDoor.Pure
open Go.Lib Go.Shelf Go.RowKit Go.Proofs.YtfmjhklejjohcaaDoor.PAll Go.Proofs.YtfmjhklejjohcaaDoorW.PrintWords Go.Proofs.YtfmjhklejjohcaaDoorW.PrintLast Go.Proofs.YtfmjhklejjohcaaDoorW.PrintMore
set_option linter.unusedSimpArgs false
set_option linter.unusedVariables false
open Go.Proofs.YtfmjhklejjohcaaDoor.RN Go.Proofs.YtfmjhklejjohcaaDoor.RN.RQ
theorem RingHops : caduceuslaw10_RingHops.Pure := by
  intro from_ key l _ hk _ _ _
  obtain ⟨a0, a1⟩ := u64_wf hk
  refine ⟨50000, ?_⟩
  unfold caduceuslaw10_RingHops.f
  rw [few_is, Option.bind_some]
  by_cases h : (l.length : Int) ≤ 40
  · have hl : l.length ≤ 40 := by omega
    rw [decide_eq_true h, if_pos rfl, ring_hop_is from_ key l (by omega) 50000 (by omega), Option.bind_some, ref_hop_is from_ key l (by omega) 50000 (by omega), Option.bind_some, awake_is 50000 (by omega), Option.bind_some, if_pos rfl, fingers_is from_ l (by omega) 50000 (by omega), Option.bind_some, ref_fingers_is from_ l (by omega) 50000 (by omega), Option.bind_some]
    have hfl : (fingersZ from_ l).length ≤ 64 := by
      unfold fingersZ
      split
      · exact fing_len
      · simp
    rw [same_self _ (by omega) 50000 (by omega), Option.bind_some, if_pos rfl]
    show (if hopZ key l from_ = hopZ key l from_ then _ else _) = _
    rw [if_pos rfl]
    show some (decide _ == decide _) = _
    rw [hopZ_pos a0 a1]
    simp
  · rw [decide_eq_false h, if_neg (by decide), awake_is 50000 (by omega)]
    rfl
end Go.Proofs.YtfmjhklejjohcaaDoor.Pure
