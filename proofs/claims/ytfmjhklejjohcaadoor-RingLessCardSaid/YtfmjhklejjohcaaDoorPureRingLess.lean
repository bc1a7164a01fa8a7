/- The law RingLess, plain: without a node the heirs are the others, in their order. -/
import Derived.Test.YtfmjhklejjohcaaDoorRH
import Derived.Test.YtfmjhklejjohcaaDoorPAllx10
namespace Go.Proofs.YtfmjhklejjohcaaDoor.Pure
open Go.Lib Go.Shelf Go.RowKit Go.Proofs.YtfmjhklejjohcaaDoor.PAll Go.Proofs.YtfmjhklejjohcaaDoorW.PrintWords Go.Proofs.YtfmjhklejjohcaaDoorW.PrintLast Go.Proofs.YtfmjhklejjohcaaDoorW.PrintMore
set_option linter.unusedSimpArgs false
set_option linter.unusedVariables false
open Go.Proofs.YtfmjhklejjohcaaDoor.RN Go.Proofs.YtfmjhklejjohcaaDoor.RN.RQ
/-! RingLess. -/
theorem without_l0 (l : List Int) (n : Int) (hl : l.length ≤ 15) : ∀ (d k i : Nat), i + d = l.length → d < k → caduceuslaw10_without.l0 k l n ((l.take i).filter (fun x => !decide (x = n))) (i : Int) = some (l.filter (fun x => !decide (x = n))) := by
  intro d
  induction d with
  | zero =>
    intro k i h hk
    obtain ⟨k, rfl⟩ : ∃ m, k = m + 1 := ⟨k - 1, by omega⟩
    simp only [caduceuslaw10_without.l0]
    rw [if_neg (by omega), List.take_of_length_le (by omega)]
  | succ d ih =>
    intro k i h hk
    obtain ⟨k, rfl⟩ : ∃ m, k = m + 1 := ⟨k - 1, by omega⟩
    have hi : i < l.length := by omega
    have hq := ih k (i + 1) (by omega) (by omega)
    have hfl := List.length_filter_le (fun x => !decide (x = n)) (l.take i)
    have hfl2 : (l.take i).length ≤ 15 := by rw [List.length_take]; omega
    simp only [caduceuslaw10_without.l0]
    rw [if_pos (by omega), if_pos (by omega), rd_lt hi, wrap1 (by omega) (by omega), show ((i : Int) + 1) = ((i + 1 : Nat) : Int) from by omega, ← hq, List.take_succ_eq_append_getElem hi, List.filter_append]
    by_cases e : l[i] = n
    · rw [if_pos e, List.filter_cons_of_neg (by simp [e]), List.filter_nil, List.append_nil]
    · rw [if_neg e, if_pos (by omega), List.filter_cons_of_pos (by simp [e]), List.filter_nil]
theorem without_is (l : List Int) (n : Int) (hl : l.length ≤ 15) (k : Nat) (hk : l.length < k) : caduceuslaw10_without.f k l n = some (l.filter (fun x => !decide (x = n))) := without_l0 l n hl l.length k 0 (by omega) hk
theorem all_mem_okAt {l : List Int} (h : NL l) : nodesB l = true := by
  unfold nodesB
  rw [List.all_eq_true]
  intro i hi
  have hi : i < l.length := by simpa using hi
  unfold okAt
  rw [decide_eq_true_eq, List.getD_eq_getElem?_getD, List.getElem?_eq_getElem hi]
  have h1 := h.1 _ (List.getElem_mem hi)
  refine ⟨h1.1, h1.2, fun h0 => ?_⟩
  rw [List.getD_eq_getElem?_getD, List.getElem?_eq_getElem (show i - 1 < l.length by omega)]
  exact List.pairwise_iff_getElem.1 h.2 (i - 1) i (by omega) hi (by omega)
theorem nodesB_filter {l : List Int} (h : nodesB l = true) (p : Int → Bool) : nodesB (l.filter p) = true := all_mem_okAt ((nodesB_NL h).filter p)
theorem ring_filter {l : List Int} (h : nodesB l = true) (p : Int → Bool) : ringZ (l.filter p) = (ringZ l).filter p := IsRing.uniq (nodesB_ring (nodesB_filter h p)) ((nodesB_ring h).filter p)
theorem tmod_at (w : Int) (m : Nat) (hm : 0 < m) (hm2 : m ≤ 15) : 0 ≤ Int.tmod (wrap64 (Int.tmod w (m : Int) + (m : Int))) (m : Int) ∧ Int.tmod (wrap64 (Int.tmod w (m : Int) + (m : Int))) (m : Int) < (m : Int) := by
  have h1 : Int.tmod w (m : Int) < m := Int.tmod_lt_of_pos w (by omega)
  have h2 : -(m : Int) < Int.tmod w (m : Int) := Int.lt_tmod_of_pos w (by omega)
  have e : wrap64 (Int.tmod w (m : Int) + (m : Int)) = Int.tmod w (m : Int) + (m : Int) := by unfold wrap64; omega
  rw [e]
  exact ⟨Int.tmod_nonneg _ (by omega), Int.tmod_lt_of_pos _ (by omega)⟩
theorem RingLess : caduceuslaw10_RingLess.Pure := by
  intro key l which _ _ _ _ _
  refine ⟨50010, ?_⟩
  unfold caduceuslaw10_RingLess.f
  rw [few_is, Option.bind_some]
  have ha : caduceuslaw10_RingLess.j0 50010 key l which true = some true := by
    simp only [caduceuslaw10_RingLess.j0]
    rw [if_pos trivial, awake_is _ (by omega)]
    rfl
  by_cases h : (l.length : Int) ≤ 40
  · rw [decide_eq_true h, if_pos rfl, ref_nodes_is l (by omega) _ (by omega), Option.bind_some]
    by_cases hn : nodesB l = true
    · rw [if_pos hn]
      by_cases h0 : (l.length : Int) < 2
      · rw [decide_eq_true h0]; exact ha
      · rw [decide_eq_false h0]
        have h15 := nodesB_len hn
        have hr := nodesB_ring hn
        have hlen := ring_len hn
        obtain ⟨t0, t1⟩ := tmod_at which l.length (by omega) h15
        obtain ⟨j, hj⟩ : ∃ j : Nat, Int.tmod (wrap64 (Int.tmod which (l.length : Int) + (l.length : Int))) (l.length : Int) = (j : Int) := ⟨_, (Int.toNat_of_nonneg t0).symm⟩
        rw [hj] at t0 t1
        have hjl : j < l.length := by omega
        simp only [caduceuslaw10_RingLess.j0]
        rw [if_neg (by decide), if_neg (by omega), hj, if_pos t0, if_pos t1, heirs_full key l hn _ (by omega), Option.bind_some, rd_lt hjl]
        have hin : l[j] ∈ l := List.getElem_mem hjl
        generalize l[j] = n at hin
        rw [without_is l n h15 _ (by omega), Option.bind_some]
        have hm : nodesB (l.filter (fun x => !decide (x = n))) = true := nodesB_filter hn _
        have hm15 := nodesB_len hm
        have hrf := ring_filter hn (fun x => !decide (x = n))
        have hHf := heirs_filter (P := pointZ) key (ringZ l) (fun x => !decide (x = n))
        have hnd : (heirsZ pointZ key (ringZ l)).Nodup := (heirs_perm key _).nodup_iff.2 (ring_nodup l)
        have hH : (heirsZ pointZ key (ringZ l)).length = l.length := by rw [heirs_len, hlen]
        -- the first heirs
        obtain ⟨x, y, r, hxy⟩ : ∃ x y r, heirsZ pointZ key (ringZ l) = x :: y :: r := by
          cases hq : heirsZ pointZ key (ringZ l) with
          | nil => rw [hq] at hH; simp at hH; omega
          | cons x t =>
            cases t with
            | nil => rw [hq] at hH; simp at hH; omega
            | cons y r => exact ⟨x, y, r, rfl⟩
        have hxyne : x ≠ y := by rw [hxy] at hnd; simp at hnd; exact fun e => hnd.1.1 e
        have hown : ∃ t, heirsZ pointZ key (ringZ (l.filter (fun x => !decide (x = n)))) = (if x = n then y else x) :: t := by
          rw [hrf, hHf, hxy]
          by_cases e : x = n
          · rw [if_pos e, List.filter_cons_of_neg (by simp [e]), List.filter_cons_of_pos (by simp; rintro rfl; exact hxyne e)]
            exact ⟨_, rfl⟩
          · rw [if_neg e, List.filter_cons_of_pos (by simp [e])]
            exact ⟨_, rfl⟩
        obtain ⟨t, ht⟩ := hown
        have hne : ringZ (l.filter (fun x => !decide (x = n))) ≠ [] := by intro e; rw [e] at ht; simp [heirsZ] at ht
        rw [owner_is key _ (by omega) _ (by omega), Option.bind_some]
        show (if decide (ringZ (l.filter (fun x => !decide (x = n))) ≠ []) = true then _ else _) = _
        rw [decide_eq_true hne, if_pos rfl]
        have hw : ownZ key (ringZ (l.filter (fun x => !decide (x = n)))) = if x = n then y else x := by unfold ownZ; rw [ht]; rfl
        show caduceuslaw10_RingLess.j1 _ key n _ _ (ownZ key (ringZ (l.filter (fun x => !decide (x = n))))) _ = _
        rw [hw, show (((heirsZ pointZ key (ringZ l)).length : Int) != (l.length : Int)) = false by rw [hH]; simp]
        simp only [caduceuslaw10_RingLess.j1]
        rw [if_neg (by decide), if_pos (by omega)]
        have hj2 : caduceuslaw10_RingLess.j2 50008 key n (heirsZ pointZ key (ringZ l)) (l.filter (fun x => !decide (x = n))) (if x = n then y else x) (if x = n then y else x) = some true := by
          simp only [caduceuslaw10_RingLess.j2]
          rw [awake_is _ (by omega), Option.bind_some, if_pos rfl, if_pos trivial, heirs_full key _ hm _ (by omega), Option.bind_some, without_is _ n (by omega) _ (by omega), Option.bind_some, hrf, hHf, same_self _ (by have := List.length_filter_le (fun x => !decide (x = n)) (heirsZ pointZ key (ringZ l)); omega) _ (by have := List.length_filter_le (fun x => !decide (x = n)) (heirsZ pointZ key (ringZ l)); omega)]
          rfl
        have hr0 : rd (heirsZ pointZ key (ringZ l)) 0 = x := by rw [hxy]; rfl
        have hr1 : rd (heirsZ pointZ key (ringZ l)) 1 = y := by rw [hxy]; rfl
        rw [hr0, hr1]
        by_cases e : x = n
        · rw [if_pos e, if_pos (by omega)]
          rw [if_pos e] at hj2 ⊢
          exact hj2
        · rw [if_neg e]
          rw [if_neg e] at hj2 ⊢
          exact hj2
    · rw [if_neg hn]; exact ha
  · rw [decide_eq_false h, if_neg (by decide)]; exact ha
end Go.Proofs.YtfmjhklejjohcaaDoor.Pure
