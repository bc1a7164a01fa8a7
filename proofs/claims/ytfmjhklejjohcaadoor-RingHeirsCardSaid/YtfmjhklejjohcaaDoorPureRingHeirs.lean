/- The law RingHeirs, plain: the heirs are all nodes, the owner first; fewer are the first ones. -/
import Derived.Test.YtfmjhklejjohcaaDoorRH
import Derived.Test.YtfmjhklejjohcaaDoorPAllx11
namespace Go.Proofs.YtfmjhklejjohcaaDoor.Pure
open Go.Lib Go.Shelf Go.RowKit Go.Proofs.YtfmjhklejjohcaaDoor.PAll Go.Proofs.YtfmjhklejjohcaaDoorW.PrintWords Go.Proofs.YtfmjhklejjohcaaDoorW.PrintLast Go.Proofs.YtfmjhklejjohcaaDoorW.PrintMore
set_option linter.unusedSimpArgs false
set_option linter.unusedVariables false
open Go.Proofs.YtfmjhklejjohcaaDoor.RN Go.Proofs.YtfmjhklejjohcaaDoor.RN.RQ
/-! RingHeirs. -/
theorem ringHeirs_l0 (l : List Int) (most : Int) (H K : List Int) (hl : l.length ≤ 15) (hH : H.length ≤ 15) (hm : ∀ x, x ∈ l → x ∈ H) (hK : most < 0 ∧ K.length = 0 ∨ 0 ≤ most ∧ (K.length : Int) = mn most (l.length : Int)) : ∀ (d k i : Nat), i + d = l.length → d + 40100 < k → caduceuslaw10_RingHeirs.l0 k l most H K (i : Int) = some true := by
  intro d
  induction d with
  | zero =>
    intro k i h hk
    obtain ⟨k, rfl⟩ : ∃ m, k = m + 1 := ⟨k - 1, by omega⟩
    simp only [caduceuslaw10_RingHeirs.l0]
    rw [if_neg (by omega), awake_is k (by omega), Option.bind_some, if_pos rfl]
    rcases hK with ⟨h1, h2⟩ | ⟨h1, h2⟩
    · rw [if_pos h1, if_pos (by omega)]
    · rw [if_neg (by omega), if_pos (by omega), h2]
      simp
  | succ d ih =>
    intro k i h hk
    obtain ⟨k, rfl⟩ : ∃ m, k = m + 1 := ⟨k - 1, by omega⟩
    have hi : i < l.length := by omega
    simp only [caduceuslaw10_RingHeirs.l0]
    rw [if_pos (by omega), if_pos (by omega), rd_lt hi, has_is H _ (by omega) k (by omega), Option.bind_some, decide_eq_true (hm _ (List.getElem_mem hi)), if_pos rfl, wrap1 (by omega) (by omega)]
    exact ih k (i + 1) (by omega) (by omega)
theorem RingHeirs : caduceuslaw10_RingHeirs.Pure := by
  intro key l most _ _ _ _ _
  refine ⟨50010, ?_⟩
  unfold caduceuslaw10_RingHeirs.f
  rw [few_is, Option.bind_some]
  have ha : caduceuslaw10_RingHeirs.j0 50010 key l most true = some true := by
    simp only [caduceuslaw10_RingHeirs.j0]
    rw [if_pos trivial, awake_is _ (by omega)]
    rfl
  by_cases h : (l.length : Int) ≤ 40
  · rw [decide_eq_true h, if_pos rfl, ref_nodes_is l (by omega) _ (by omega), Option.bind_some]
    by_cases hn : nodesB l = true
    · rw [if_pos hn]
      by_cases h0 : (l.length : Int) = 0
      · rw [h0]; exact ha
      · rw [beq_eq_false_iff_ne.2 h0]
        have h15 := nodesB_len hn
        have hr := nodesB_ring hn
        have hlen := ring_len hn
        have hne : ringZ l ≠ [] := by intro e; rw [e] at hlen; simp at hlen; omega
        have hH : (heirsZ pointZ key (ringZ l)).length = l.length := by rw [heirs_len, hlen]
        simp only [caduceuslaw10_RingHeirs.j0]
        rw [if_neg (by decide), heirs_full key l hn _ (by omega), Option.bind_some, heirs_is key l most (by omega) _ (by omega), Option.bind_some, owner_is key l (by omega) _ (by omega), Option.bind_some, if_pos (by omega), if_pos (by omega), rd_head]
        obtain ⟨i, hi, _, _, h3⟩ := heirs_first (ring_ord l) key hne
        have ho : (heirsZ pointZ key (ringZ l)).headD 0 = ownZ key (ringZ l) := by unfold ownZ; rw [List.headD_eq_head?_getD]
        rw [if_pos ho]
        have hK : ((heirsZ pointZ key (ringZ l)).take (min (max most 0) ((ringZ l).length : Int)).toNat).length = (min (max most 0) ((ringZ l).length : Int)).toNat := by rw [List.length_take, heirs_len]; omega
        rw [if_neg (by rw [hK, heirs_len]; omega), if_pos (by omega), if_pos (by rw [hK, heirs_len]; omega)]
        have hs : (heirsZ pointZ key (ringZ l)).take ((((heirsZ pointZ key (ringZ l)).take (min (max most 0) ((ringZ l).length : Int)).toNat).length : Int)).toNat = (heirsZ pointZ key (ringZ l)).take (min (max most 0) ((ringZ l).length : Int)).toNat := by rw [hK, Int.toNat_natCast]
        rw [hs, same_self _ (by rw [hK]; omega) _ (by rw [hK]; omega), Option.bind_some]
        simp only [caduceuslaw10_RingHeirs.j1]
        rw [if_neg (by decide)]
        refine ringHeirs_l0 l most _ _ h15 (by omega) (fun x hx => (heirs_mem key _ x).2 (hr.perm.mem_iff.2 hx)) ?_ l.length _ 0 (by omega) (by omega)
        rw [hK]
        unfold mn
        by_cases hm : most < 0
        · exact .inl ⟨hm, by omega⟩
        · right
          refine ⟨by omega, ?_⟩
          split <;> omega
    · rw [if_neg hn]; exact ha
  · rw [decide_eq_false h, if_neg (by decide)]; exact ha
end Go.Proofs.YtfmjhklejjohcaaDoor.Pure
