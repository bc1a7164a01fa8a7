/- The law RingOwners, plain: rings, owners, heirs and keepers are the document's. -/
import Derived.Test.YtfmjhklejjohcaaDoorRH
import Derived.Test.YtfmjhklejjohcaaDoorNR
import Derived.Test.YtfmjhklejjohcaaDoorPRingOwnersy
namespace Go.Proofs.YtfmjhklejjohcaaDoor.Pure
open Go.Lib Go.Shelf Go.RowKit Go.Proofs.YtfmjhklejjohcaaDoor.PAll Go.Proofs.YtfmjhklejjohcaaDoorW.PrintWords Go.Proofs.YtfmjhklejjohcaaDoorW.PrintLast Go.Proofs.YtfmjhklejjohcaaDoorW.PrintMore
set_option linter.unusedSimpArgs false
set_option linter.unusedVariables false
open Go.Proofs.YtfmjhklejjohcaaDoor.RN Go.Proofs.YtfmjhklejjohcaaDoor.RN.RQ
/-! RingOwners. -/
theorem mn_max (x : Int) (n : Nat) : mn (mx x 0) (n : Int) = min (max x 0) (n : Int) := by unfold mn mx; split <;> split <;> omega
theorem keeper_is (s : ByteArray) (l : List Int) (hs : s.size ≤ 4294967296) (hl : l.length < 4611686018427387904) (k : Nat) (hk : l.length < k) (hk2 : 4 * s.size + 1 ≤ k) : ring_Keeper.f k s l = some (ownZ (NQ.hashB (NC.foldB s)) (ringZ l), decide (ringZ l ≠ [])) := by
  unfold ring_Keeper.f
  rw [NQ.name_Key_is s hs k hk2, Option.bind_some, owner_is _ l hl k hk, Option.bind_some]
theorem RingOwners : caduceuslaw10_RingOwners.Pure := by
  intro key l x _ _ _ _
  refine ⟨60010, ?_⟩
  unfold caduceuslaw10_RingOwners.f
  rw [few_is, Option.bind_some]
  generalize x.f0 = N
  generalize x.f1 = S
  have hj0 : caduceuslaw10_RingOwners.j0 60010 key l true N S = some true := by
    simp only [caduceuslaw10_RingOwners.j0]
    rw [if_pos trivial, awake_is _ (by omega)]
    rfl
  by_cases h : (l.length : Int) ≤ 40
  · have hl : l.length < 4611686018427387904 := by omega
    rw [decide_eq_true h, if_pos rfl]
    by_cases hS : (S.size : Int) > 200
    · rw [decide_eq_true hS]; exact hj0
    · rw [decide_eq_false hS]
      have hz := NQ.fold_size S
      have h15 := ring_len15 l
      have hH : (heirsZ pointZ key (ringZ l)).length = (ringZ l).length := heirs_len key _
      simp only [caduceuslaw10_RingOwners.j0]
      rw [if_neg (by decide), ref_heirs_is key l hl _ (by omega) (by omega), Option.bind_some, owner_is key l hl _ (by omega), Option.bind_some, keeper_is S l (by omega) hl _ (by omega) (by omega), Option.bind_some, nodes_is l hl _ (by omega), Option.bind_some, ref_nodes_is l hl _ (by omega), Option.bind_some, if_neg (by simp), ring_is l hl _ (by omega), Option.bind_some, ref_ring_is l hl _ (by omega) (by omega), Option.bind_some, same_self _ (by omega) _ (by omega), Option.bind_some, if_pos rfl, heirs_is key l N hl _ (by omega), Option.bind_some, mn_max, if_pos (by omega), if_pos (by omega), hH, same_self _ (by rw [List.length_take]; omega) _ (by rw [List.length_take]; omega), Option.bind_some]
      simp only [caduceuslaw10_RingOwners.j1]
      have hd : decide (ringZ l ≠ []) = decide (((heirsZ pointZ key (ringZ l)).length : Int) > 0) := by
        rw [decide_eq_decide, hH]
        constructor
        · intro hh
          have := List.length_pos_iff.2 hh
          omega
        · intro hh e
          rw [e] at hh
          simp at hh
      rw [if_neg (by decide), awake_is _ (by omega), Option.bind_some, if_pos rfl, ← hd, if_pos (by simp), ref_owner_is key l hl _ (by omega) (by omega), Option.bind_some, if_pos rfl, if_pos (by simp), NQ.ref_Fold_is S (by omega) _ (by omega), Option.bind_some, NQ.ref_Hash_is _ (by omega) _ (by omega), Option.bind_some, ref_owner_is _ l hl _ (by omega) (by omega), Option.bind_some, if_pos rfl, point_is N _ (by omega), Option.bind_some, ref_point_is N _ (by omega), Option.bind_some]
      simp
  · rw [decide_eq_false h, if_neg (by decide)]; exact hj0
end Go.Proofs.YtfmjhklejjohcaaDoor.Pure
