/- QueueNil's walk. By hand. -/
import Derived.Test.YtmcochnofkjhaaaDoorQh
namespace Go.Proofs.YtmcochnofkjhaaaDoor.QU
open Go.RowKit Go.Proofs.YtmcochnofkjhaaaDoorW.PrintWords Go.Proofs.YtmcochnofkjhaaaDoorW.PrintLast Go.Proofs.YtmcochnofkjhaaaDoorW.PrintMore Go.Proofs.YtmcochnofkjhaaaDoor.PAll
set_option linter.unusedVariables false
set_option linter.unusedSimpArgs false
set_option maxRecDepth 100000
/-- The cells of what is done. -/
def ac (k n : Int) (G : S36) (v : Value) : Array Value := #[.int .i64 k, .int .i64 n, .int .i64 G.f0, .string G.f1, .int .i64 G.f2.f0.f0, .int .i64 G.f2.f0.f1, .int .i64 G.f2.f0.f2, .string G.f2.f1, v]
theorem fewA_some (l : List S87) : ∀ (n : Nat) (i : Int), 0 ≤ i → (l.length : Int) ≤ i + n → ∃ r, caduceuslaw04_FewAttrs.l0 (n + 1) l i = some r := by
  intro n
  induction n with
  | zero =>
    intro i h0 h1
    unfold caduceuslaw04_FewAttrs.l0
    exact ⟨true, if_neg (by omega)⟩
  | succ n ih =>
    intro i h0 h1
    unfold caduceuslaw04_FewAttrs.l0
    by_cases c1 : i < (l.length : Int)
    · rw [if_pos c1]
      by_cases c2 : i > 40
      · exact ⟨false, if_pos c2⟩
      · rw [if_neg c2, if_pos h0]
        by_cases c3 : (((rd_T87 l i).f0).size : Int) > 200
        · exact ⟨false, if_pos c3⟩
        · rw [if_neg c3]
          by_cases c4 : (((rd_T87 l i).f1.f2).size : Int) > 500
          · exact ⟨false, if_pos c4⟩
          · rw [if_neg c4, wrapId (by omega) (by omega)]
            exact ih (i + 1) (by omega) (by omega)
    · exact ⟨true, if_neg c1⟩
theorem few_some (x1 x2 : Int) (s1 : ByteArray) (G : S36) : ∃ k r, caduceuslaw18_few.f k x1 x2 G.f0 G.f1 G.f2.f0.f0 G.f2.f0.f1 G.f2.f0.f2 G.f2.f1 G.f2.f2 = some r := by
  obtain ⟨r, hr⟩ := fewA_some G.f2.f2 G.f2.f2.length 0 (Int.le_refl _) (by omega)
  refine ⟨G.f2.f2.length + 1, ?_⟩
  unfold caduceuslaw18_few.f caduceuslaw06_Few.f caduceuslaw04_FewAttrs.f
  rw [hr]
  by_cases h1 : (G.f1.size : Int) ≤ 200
  · by_cases h2 : (G.f2.f1.size : Int) ≤ 200
    · exact ⟨r, by rw [if_pos h1, if_pos h2]; rfl⟩
    · exact ⟨false, by rw [if_pos h1, if_neg h2]; rfl⟩
  · exact ⟨false, by rw [if_neg h1]⟩
end Go.Proofs.YtmcochnofkjhaaaDoor.QU
