/- The layer ring, plain: heirs. -/
import Derived.Test.YtfmjhklejjohcaaDoorRP
import Derived.Test.YtfmjhklejjohcaaDoorPAllx10
namespace Go.Proofs.YtfmjhklejjohcaaDoor.RN
open Go.Lib Go.Shelf Go.RowKit Go.Proofs.YtfmjhklejjohcaaDoor.PAll Go.Proofs.YtfmjhklejjohcaaDoorW.PrintWords Go.Proofs.YtfmjhklejjohcaaDoorW.PrintLast Go.Proofs.YtfmjhklejjohcaaDoorW.PrintMore
set_option linter.unusedSimpArgs false
set_option linter.unusedVariables false
open RQ
theorem ring_len {l : List Int} (h : nodesB l = true) : (ringZ l).length = l.length := (nodesB_ring h).perm.length_eq
theorem heirs_is (key : Int) (l : List Int) (most : Int) (hl : l.length < 4611686018427387904) (k : Nat) (hk : l.length < k) : ring_Heirs.f k key l most = some ((heirsZ pointZ key (ringZ l)).take (min (max most 0) (ringZ l).length).toNat) := by
  unfold ring_Heirs.f
  rw [ring_is l hl k hk, Option.bind_some]
  by_cases h : ringZ l = []
  · rw [h]; simp [heirsZ]
  · have hl0 : 0 < (ringZ l).length := List.length_pos_iff.2 h
    rw [if_neg (by omega)]
    obtain ⟨i, hi, h1, h2, h3⟩ := heirs_first (ring_ord l) key h
    rw [h1, Option.bind_some, h2]
    rfl
theorem heirs_all (key : Int) (l : List Int) : (heirsZ pointZ key (ringZ l)).take (min (max ((ringZ l).length : Int) 0) ((ringZ l).length : Int)).toNat = heirsZ pointZ key (ringZ l) := by
  rw [List.take_of_length_le]
  rw [heirs_len]
  omega
theorem heirs_full (key : Int) (l : List Int) (h : nodesB l = true) (k : Nat) (hk : l.length < k) : ring_Heirs.f k key l (l.length : Int) = some (heirsZ pointZ key (ringZ l)) := by
  have := nodesB_len h
  rw [heirs_is key l _ (by omega) k hk, ← ring_len h, heirs_all]
end Go.Proofs.YtfmjhklejjohcaaDoor.RN
