/- The law NameFolds, plain: whatever the text, folding it, its hash and its key are what the document says; no condition. -/
import Derived.Test.YtiaacpjibhnhiaaDoorNR
namespace Go.Proofs.YtiaacpjibhnhiaaDoor.Pure
open Go.RowKit Go.Lib Go.Proofs.YtiaacpjibhnhiaaDoor.PAll Go.Proofs.YtiaacpjibhnhiaaDoor.NQ Go.Proofs.YtiaacpjibhnhiaaDoorW.PrintWords Go.Proofs.YtiaacpjibhnhiaaDoorW.PrintLast Go.Proofs.YtiaacpjibhnhiaaDoorW.PrintMore
theorem NameFolds : caduceuslaw02_NameFolds.Pure := by
  intro s _
  refine ⟨9000, ?_⟩
  unfold caduceuslaw02_NameFolds.f
  by_cases h : (s.size : Int) > 2000
  · rw [if_pos h, awake_is _ (by omega)]
    rfl
  · have hz := fold_size s
    rw [if_neg h, ref_Fold_is s (by omega) _ (by omega), Option.bind_some, awake_is _ (by omega), Option.bind_some, if_pos rfl, name_Fold_is s (by omega), Option.bind_some, if_pos rfl, name_Hash_is s (by omega) _ (by omega), Option.bind_some, ref_Hash_is s (by omega) _ (by omega), Option.bind_some, if_pos rfl, name_Key_is s (by omega) _ (by omega), Option.bind_some, ref_Hash_is _ (by omega) _ (by omega), Option.bind_some]
    simp
end Go.Proofs.YtiaacpjibhnhiaaDoor.Pure
