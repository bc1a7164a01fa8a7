/- The law NameFolded, plain: a folded name is a name, folded it is itself, and what is no name is none folded, for the same reason; no condition. -/
import Derived.Test.YtiaacpjibhnhiaaDoorNT
namespace Go.Proofs.YtiaacpjibhnhiaaDoor.Pure
open Go.RowKit Go.Lib Go.Proofs.YtiaacpjibhnhiaaDoor.PAll Go.Proofs.YtiaacpjibhnhiaaDoor.NQ Go.Proofs.YtiaacpjibhnhiaaDoorW.PrintWords Go.Proofs.YtiaacpjibhnhiaaDoorW.PrintLast Go.Proofs.YtiaacpjibhnhiaaDoorW.PrintMore
theorem NameFolded : caduceuslaw02_NameFolded.Pure := by
  intro s _
  refine ⟨40000, ?_⟩
  unfold caduceuslaw02_NameFolded.f
  by_cases h : (s.size : Int) > 2000
  · rw [if_pos h, awake_is _ (by omega)]
    rfl
  · have hz := fold_size s
    have hlen : (rD (foldL s.data.toList)).length = (rD s.data.toList).length ∨ validD s.data.toList = false := by
      by_cases hv : validD s.data.toList = true
      · exact Or.inl (by rw [(fold_valid _ hv).2, List.length_map])
      · exact Or.inr (by simpa using hv)
    rw [if_neg h, name_Fold_is s (by omega), Option.bind_some, awake_is _ (by omega), Option.bind_some, if_pos rfl, name_Check_is _ (by omega), Option.bind_some, name_Check_is s (by omega), Option.bind_some, if_pos (by rw [fold_data, chk_fold]), name_Fold_is _ (by omega), Option.bind_some, if_pos (by rw [foldB_foldB]), name_Same_is s _ (by omega) (by omega), Option.bind_some, if_pos (by rw [fold_data, fold_fold]; simp), name_Compare_is s _ (by omega) (by omega) _ (by omega), Option.bind_some, if_pos (by rw [fold_data, fold_fold, cmpV_zero]), name_Key_is _ (by omega) _ (by omega), Option.bind_some, name_Key_is s (by omega) _ (by omega), Option.bind_some, if_pos (by rw [foldB_foldB]), name_Runes_is _ (by omega), Option.bind_some, name_Runes_is s (by omega), Option.bind_some]
    congr 1
    rw [beq_iff_eq, fold_data, fold_valid_eq]
    by_cases hv : validD s.data.toList = true
    · rw [if_pos hv, if_pos hv, (fold_valid _ hv).2, List.length_map]
    · rw [if_neg hv, if_neg hv]
end Go.Proofs.YtiaacpjibhnhiaaDoor.Pure
