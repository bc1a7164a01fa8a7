/- The law RingWays, plain: the way ends at the owner, by no node twice. -/
import Derived.Test.YtfmjhklejjohcaaDoorRP
import Derived.Test.YtfmjhklejjohcaaDoorPAllx9
namespace Go.Proofs.YtfmjhklejjohcaaDoor.Pure
open Go.Lib Go.Shelf Go.RowKit Go.Proofs.YtfmjhklejjohcaaDoor.PAll Go.Proofs.YtfmjhklejjohcaaDoorW.PrintWords Go.Proofs.YtfmjhklejjohcaaDoorW.PrintLast Go.Proofs.YtfmjhklejjohcaaDoorW.PrintMore
set_option linter.unusedSimpArgs false
set_option linter.unusedVariables false
open Go.Proofs.YtfmjhklejjohcaaDoor.RN Go.Proofs.YtfmjhklejjohcaaDoor.RN.RQ
/-! RingWays. -/
theorem way_l0 (key : Int) (l : List Int) (a0 : 0 ≤ key) (a1 : key < 18446744073709551616) (h : nodesB l = true) :
    ∀ (w : List Int) (a : Int) (out : List Int) (k : Nat), IsWay (ringZ l) (hopZ key l) (ownZ key (ringZ l)) (a :: w) → out.length + w.length < l.length → w.length + 500 < k → ring_Way.l0 k key l (out ++ [a]) = some (out ++ a :: w) := by
  intro w
  have h15 := nodesB_len h
  induction w with
  | nil =>
    intro a out k hw hl hk
    simp only [List.length_nil] at hl hk
    obtain ⟨k, rfl⟩ : ∃ m, k = m + 1 := ⟨k - 1, by omega⟩
    have hao : a = ownZ key (ringZ l) := by have := hw.last; simpa using this
    simp only [ring_Way.l0]
    have hl1 : ((out ++ [a]).length : Int) = (out.length : Int) + 1 := by simp
    have e1 : wrap64 (((out ++ [a]).length : Int) - 1) = (out.length : Int) := by rw [hl1]; unfold wrap64; omega
    have e2 : rd (out ++ [a]) (out.length : Int) = a := by rw [rd_lt (by simp)]; simp
    rw [if_pos (by omega), e1, if_pos (by omega), if_pos (by omega), e2, ring_hop_is a key l (by omega) k (by omega), Option.bind_some]
    show (if decide (nodesB l = true ∧ a ∈ l ∧ ownZ key (ringZ l) ≠ a) = true then _ else _) = _
    rw [decide_eq_false (fun hc => hc.2.2 hao.symm), if_neg (by decide)]
  | cons b w ih =>
    intro a out k hw hl hk
    simp only [List.length_cons] at hl hk
    obtain ⟨k, rfl⟩ : ∃ m, k = m + 1 := ⟨k - 1, by omega⟩
    obtain ⟨hao, hab⟩ := hw.step 0 a b rfl rfl
    have ham : a ∈ l := (ring_node (hw.mem a List.mem_cons_self)).2.1
    simp only [ring_Way.l0]
    have hl1 : ((out ++ [a]).length : Int) = (out.length : Int) + 1 := by simp
    have e1 : wrap64 (((out ++ [a]).length : Int) - 1) = (out.length : Int) := by rw [hl1]; unfold wrap64; omega
    have e2 : rd (out ++ [a]) (out.length : Int) = a := by rw [rd_lt (by simp)]; simp
    rw [if_pos (by omega), e1, if_pos (by omega), if_pos (by omega), e2, ring_hop_is a key l (by omega) k (by omega), Option.bind_some]
    show (if decide (nodesB l = true ∧ a ∈ l ∧ ownZ key (ringZ l) ≠ a) = true then (if _ then ring_Way.l0 k key l ((out ++ [a]) ++ [hopZ key l a]) else _) else _) = _
    rw [decide_eq_true (show nodesB l = true ∧ a ∈ l ∧ ownZ key (ringZ l) ≠ a from ⟨h, ham, fun e => hao e.symm⟩), if_pos rfl, if_pos (by omega), hab]
    have := ih b (out ++ [a]) k ⟨fun x hx => hw.mem x (List.mem_cons_of_mem _ hx), by have := hw.last; rwa [List.getLast?_cons_cons] at this, fun i x y h1 h2 => hw.step (i + 1) x y (by simpa using h1) (by simpa using h2), (List.nodup_cons.1 hw.nodup).2⟩ (by simp; omega) (by omega)
    rw [this, List.append_assoc]
    rfl
theorem ways_l0 (key : Int) (l w : List Int) (o : Int) (hl : l.length ≤ 15) (hw : IsWay (ringZ l) (hopZ key l) o w) (hwl : w.length ≤ 15) : ∀ (d k i : Nat), i + d = w.length → 1 ≤ i → d + 41000 < k → caduceuslaw10_RingWays.l0 k key l w (i : Int) = some true := by
  intro d
  induction d with
  | zero =>
    intro k i h h1 hk
    obtain ⟨k, rfl⟩ : ∃ m, k = m + 1 := ⟨k - 1, by omega⟩
    simp only [caduceuslaw10_RingWays.l0]
    rw [if_neg (by omega), awake_is k (by omega)]
    rfl
  | succ d ih =>
    intro k i h h1 hk
    obtain ⟨k, rfl⟩ : ∃ m, k = m + 1 := ⟨k - 1, by omega⟩
    have hi : i < w.length := by omega
    have hi1 : i - 1 < w.length := by omega
    have ih2 := ih k (i + 1) (by omega) (by omega) (by omega)
    simp only [caduceuslaw10_RingWays.l0]
    have hn : w[i] ∉ w.take i := by
      intro hm
      obtain ⟨j, hj, e⟩ := List.getElem_of_mem hm
      rw [List.getElem_take] at e
      simp at hj
      have := List.pairwise_iff_getElem.1 hw.nodup j i (by omega) hi (by omega)
      exact this e
    have hs := (hw.step (i - 1) w[i - 1] w[i] (List.getElem?_eq_getElem hi1) (by rw [show i - 1 + 1 = i from by omega]; exact List.getElem?_eq_getElem hi)).2
    rw [if_pos (by omega), if_pos (by omega), if_pos (by omega), Int.toNat_natCast, rd_lt hi, has_is _ _ (by rw [List.length_take]; omega) k (by rw [List.length_take]; omega), Option.bind_some, decide_eq_false hn, if_neg (by decide), wrapm (by omega) (by omega), if_pos (by omega), if_pos (by omega), show ((i : Int) - 1) = ((i - 1 : Nat) : Int) from by omega, rd_lt hi1, ref_hop_is _ _ l (by omega) k (by omega), Option.bind_some, if_pos hs, wrap1 (by omega) (by omega)]
    exact ih2
theorem RingWays : caduceuslaw10_RingWays.Pure := by
  intro a key l _ hk _ _ _
  obtain ⟨a0, a1⟩ := u64_wf hk
  refine ⟨50010, ?_⟩
  unfold caduceuslaw10_RingWays.f
  rw [few_is, Option.bind_some]
  by_cases h : (l.length : Int) ≤ 40
  · have hno : (¬ (nodesB l = true ∧ a ∈ l)) → ring_Way.f 50010 a key l = some [] := by
      intro hh
      unfold ring_Way.f
      rw [nodes_is l (by omega) _ (by omega), Option.bind_some, contains_is l a (by omega) _ (by omega), Option.bind_some]
      have hj : ring_Way.j0 50010 a key l true = some [] := by simp [ring_Way.j0]
      by_cases h1 : nodesB l = true
      · rw [if_pos h1, decide_eq_false (fun h2 => hh ⟨h1, h2⟩)]; exact hj
      · rw [if_neg h1]; exact hj
    have hj0 : caduceuslaw10_RingWays.j0 50010 a key l [] true = some true := by
      simp only [caduceuslaw10_RingWays.j0]
      rw [if_pos trivial, awake_is _ (by omega), Option.bind_some, if_pos rfl]
      rfl
    rw [decide_eq_true h, if_pos rfl]
    simp only [ref_nodes_is l (show l.length < 4611686018427387904 by omega) 50010 (by omega), has_is l a (show l.length < 4611686018427387904 by omega) 50010 (by omega), Option.bind_some]
    by_cases h1 : nodesB l = true
    · by_cases h2 : a ∈ l
      · have h15 := nodesB_len h1
        have hr := nodesB_ne h1 h2
        have ho := ownZ_own key hr
        have hD : ∀ x, 0 ≤ far pointZ key x := fun x => Int.emod_nonneg _ (by omega)
        obtain ⟨w, hw, _⟩ := way_of (hop := hopZ key l) (D := far pointZ key) ho.1 hD (fun x hx hne => hop_ring a0 a1 h1 (ring_node hx).2.1 hne) ((far pointZ key a).toNat + 1) a ((nodesB_ring h1).perm.mem_iff.2 h2) (by omega)
        have hwl : (a :: w).length ≤ l.length := nodup_sub_len hw.nodup (fun x hx => (ring_node (hw.mem x hx)).2.1)
        have hway : ring_Way.f 50010 a key l = some (a :: w) := by
          unfold ring_Way.f
          rw [nodes_is l (by omega) _ (by omega), Option.bind_some, contains_is l a (by omega) _ (by omega), Option.bind_some, if_pos h1, decide_eq_true h2]
          simp only [ring_Way.j0]
          rw [if_neg (by decide)]
          exact way_l0 key l a0 a1 h1 w a [] _ hw (by simp only [List.length_cons] at hwl; simp only [List.length_nil]; omega) (by simp only [List.length_cons] at hwl; omega)
        rw [hway, Option.bind_some, if_pos h1, decide_eq_true h2]
        simp only [caduceuslaw10_RingWays.j0]
        have hlast : rd (a :: w) (w.length : Int) = ownZ key (ringZ l) := by
          rw [rd_lt (by simp)]
          have := hw.last
          rw [List.getLast?_eq_getElem?] at this
          simp only [List.length_cons, Nat.add_sub_cancel] at this
          rw [List.getElem?_eq_getElem (by simp)] at this
          exact Option.some.inj this
        have hlc : ((a :: w).length : Int) = (w.length : Int) + 1 := by simp
        have e1 : wrap64 (((a :: w).length : Int) - 1) = (w.length : Int) := by rw [hlc]; simp only [List.length_cons] at hwl; unfold wrap64; omega
        rw [if_neg (by decide), if_neg (by omega), if_pos (by omega), if_pos (show rd (a :: w) 0 = a from rfl), e1, if_pos (by omega), if_pos (by omega), ref_owner_is key l (by omega) _ (by omega) (by omega), Option.bind_some, if_pos hlast, decide_eq_false (by omega)]
        simp only [caduceuslaw10_RingWays.j1]
        rw [if_neg (by decide)]
        refine ways_l0 key l (a :: w) _ h15 hw (by omega) w.length _ 1 (by simp; omega) (by omega) (by simp only [List.length_cons] at hwl; omega)
      · rw [hno (fun hh => h2 hh.2), Option.bind_some, if_pos h1, decide_eq_false h2]; exact hj0
    · rw [hno (fun hh => h1 hh.1), Option.bind_some, if_neg h1]; exact hj0
  · rw [decide_eq_false h, if_neg (by decide), awake_is 50010 (by omega)]
    rfl
end Go.Proofs.YtfmjhklejjohcaaDoor.Pure
