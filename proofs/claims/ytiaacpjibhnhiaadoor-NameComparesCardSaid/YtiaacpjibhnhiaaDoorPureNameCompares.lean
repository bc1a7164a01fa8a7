/- The law NameCompares, plain: the program's Compare, Same and Under are the document's. -/
import Derived.Test.YtiaacpjibhnhiaaDoorNX
namespace Go.Proofs.YtiaacpjibhnhiaaDoor.Pure
open Go.RowKit Go.Lib Go.Proofs.YtiaacpjibhnhiaaDoor.PAll Go.Proofs.YtiaacpjibhnhiaaDoor.NQ Go.Proofs.YtiaacpjibhnhiaaDoorW.PrintWords Go.Proofs.YtiaacpjibhnhiaaDoorW.PrintLast Go.Proofs.YtiaacpjibhnhiaaDoorW.PrintMore
theorem NameCompares : caduceuslaw02_NameCompares.Pure := by
  intro a b _ _
  have hj0 : ∀ u : Bool, (u = false → a.size ≤ 2000 ∧ b.size ≤ 2000) → caduceuslaw02_NameCompares.j0 130005 a b u = some true := by
    intro u hu
    rw [caduceuslaw02_NameCompares.j0, awake_is _ (by omega), Option.bind_some, Option.bind_some]
    cases u with
    | true => rw [if_pos rfl]
    | false =>
      obtain ⟨ha, hb⟩ := hu rfl
      rw [if_neg (by decide), if_pos rfl, name_Compare_is a b (by omega) (by omega) _ (by omega), Option.bind_some, ref_Compare_is a b (by omega) (by omega) _ (by omega) (by omega), Option.bind_some, if_pos rfl, name_Same_is a b (by omega) (by omega), Option.bind_some, ref_Fold_is a (by omega) _ (by omega), Option.bind_some, ref_Fold_is b (by omega) _ (by omega), Option.bind_some, if_pos (by rw [NQ.toList_data, NQ.toList_data, fold_data, fold_data]; simp), name_Under_is a b (by omega) (by omega) _ (by omega), Option.bind_some, ref_Under_is a b (by omega) (by omega) _ (by omega), Option.bind_some]
      simp
  refine ⟨130005, ?_⟩
  unfold caduceuslaw02_NameCompares.f
  by_cases h1 : (a.size : Int) > 2000
  · rw [if_pos h1]; exact hj0 _ fun h => by cases h
  · rw [if_neg h1]
    exact hj0 _ fun h => by have := of_decide_eq_false h; omega
end Go.Proofs.YtiaacpjibhnhiaaDoor.Pure
