/- The law NameChecks, plain: the program's check and parts are the document's. -/
import Derived.Test.YtiaacpjibhnhiaaDoorNX
namespace Go.Proofs.YtiaacpjibhnhiaaDoor.Pure
open Go.RowKit Go.Lib Go.Proofs.YtiaacpjibhnhiaaDoor.PAll Go.Proofs.YtiaacpjibhnhiaaDoor.NQ Go.Proofs.YtiaacpjibhnhiaaDoorW.PrintWords Go.Proofs.YtiaacpjibhnhiaaDoorW.PrintLast Go.Proofs.YtiaacpjibhnhiaaDoorW.PrintMore
theorem NameChecks : caduceuslaw02_NameChecks.Pure := by
  intro a ha
  refine ⟨130005, ?_⟩
  unfold caduceuslaw02_NameChecks.f
  rw [awake_is _ (by omega), Option.bind_some]
  by_cases h : (a.size : Int) > 2000
  · rw [if_pos h]
  · have hp := partsB_len a
    rw [if_neg h, Option.bind_some, if_pos rfl, name_Check_is a (by omega), Option.bind_some, ref_Check_is a (by omega) _ (by omega), Option.bind_some, if_pos rfl, name_Parts_is a (by omega), Option.bind_some, ref_Parts_is a (by omega) _ (by omega), Option.bind_some, SameTexts_is _ (by omega) _ (by omega)]
    rfl
end Go.Proofs.YtiaacpjibhnhiaaDoor.Pure
