/- The law NameRunes, plain: whatever the rune and the text, which runes are letters, the small letter of each, and how many runes a text has are what the document says; no condition. -/
import Derived.Test.YtiaacpjibhnhiaaDoorNS
namespace Go.Proofs.YtiaacpjibhnhiaaDoor.Pure
open Go.RowKit Go.Lib Go.Proofs.YtiaacpjibhnhiaaDoor.PAll Go.Proofs.YtiaacpjibhnhiaaDoor.NQ Go.Proofs.YtiaacpjibhnhiaaDoorW.PrintWords Go.Proofs.YtiaacpjibhnhiaaDoorW.PrintLast Go.Proofs.YtiaacpjibhnhiaaDoorW.PrintMore
theorem NameRunes : caduceuslaw02_NameRunes.Pure := by
  intro c s hc _
  have hr : -2147483648 ≤ c ∧ c ≤ 2147483647 := by
    simp only [Lit.wf, Bool.and_eq_true, decide_eq_true_eq] at hc
    have h1 : IntKind.i32.min = -2147483648 := by decide
    have h2 : IntKind.i32.max = 2147483647 := by decide
    omega
  have hw : wrap64 c = c := wr c (by omega) (by omega)
  have hs : ∀ c : Int, -2147483648 ≤ c → c ≤ 2147483647 → -2147483648 ≤ NC.smallZ c ∧ NC.smallZ c ≤ 2147483679 := by
    intro c h1 h2
    unfold NC.smallZ
    split <;> omega
  have hz := hs c hr.1 hr.2
  have hj : ∀ (k : Nat) (x : Int), 4 ≤ k → s.size ≤ 2000 → x = (if validD s.data.toList = true then ((rD s.data.toList).length : Int) else -1) → caduceuslaw02_NameRunes.j0 k c s x = some true := by
    intro k x hk hsz hx
    obtain ⟨k, rfl⟩ : ∃ m, k = m + 1 := ⟨k - 1, by omega⟩
    rw [caduceuslaw02_NameRunes.j0, awake_is k (by omega), Option.bind_some, if_pos rfl, name_Letter.is k c (by omega), Option.bind_some, hw, ref_Letter_is k c (by omega), Option.bind_some, if_pos (by simp), name_Small.is c hr.1 hr.2, Option.bind_some, ref_Small_is c (by omega), Option.bind_some, if_pos (wr _ (by omega) (by omega)), name_Runes_is s (by omega), Option.bind_some, hx]
    simp
  refine ⟨9000, ?_⟩
  unfold caduceuslaw02_NameRunes.f
  by_cases h : (s.size : Int) > 2000
  · rw [if_pos h, awake_is _ (by omega)]
    rfl
  · rw [if_neg h, ref_Valid_is s (by omega) _ (by omega), Option.bind_some]
    by_cases hv : validD s.data.toList = true
    · rw [if_pos hv, ref_Runes_is s (by omega) _ (by omega) hv, Option.bind_some]
      exact hj _ _ (by omega) (by omega) (by rw [if_pos hv])
    · rw [if_neg hv]
      exact hj _ _ (by omega) (by omega) (by rw [if_neg hv])
end Go.Proofs.YtiaacpjibhnhiaaDoor.Pure
