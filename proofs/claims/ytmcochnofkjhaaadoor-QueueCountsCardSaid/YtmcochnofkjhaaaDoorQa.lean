/- A map from numbers to counts, in memory: what did not come in. By hand; no program in sight. -/
import Derived.Test.YtmcochnofkjhaaaDoorWWords
import Derived.Maps.OwnSet
namespace Go.Proofs.YtmcochnofkjhaaaDoor.QU
open Go.RowKit Go.Proofs.YtmcochnofkjhaaaDoorW.PrintWords
set_option linter.unusedVariables false
set_option linter.unusedSimpArgs false
set_option linter.unusedSectionVars false
set_option maxRecDepth 100000
section
open Go.Maps
variable {P : Program} {kt et mt : TypeId} {w w' : World} {b N : Nat} {os : List Int}
/-- The map in block b: each number with how often it stands in the list. -/
def OvAt (P : Program) (kt et : TypeId) (w : World) (b N : Nat) (os : List Int) : Prop := os.length ≤ 1000000 ∧ ∃ D : DataW Nat, w.ownsMap P kt (plainElem P et) b N D ∧ ∀ k : Int, D.atKey (.int .i64 k) (.lit (.int .i64 0)) = .lit (.int .i64 (os.count k))
theorem OvAt.lt (h : OvAt P kt et w b N os) : b < w.heap.size := by obtain ⟨_, D, h1, _⟩ := h; exact h1.lt
theorem OvAt.form (h : OvAt P kt et w b N os) : ∃ es c, w.heap[b]? = some (.map es c) := by obtain ⟨_, D, ⟨es, c, hb, _⟩, _⟩ := h; exact ⟨es, c, hb⟩
theorem OvAt.other (h : OvAt P kt et w b N os) (hm : w'.heap[b]? = w.heap[b]?) : OvAt P kt et w' b N os := by
  obtain ⟨hl, D, ⟨es, c, hb, r⟩, hD⟩ := h
  exact ⟨hl, D, ⟨es, c, hm.trans hb, r⟩, hD⟩
theorem ov_new (P : Program) (kt et : TypeId) (w : World) : OvAt P kt et (w.alloc (.map #[] 0)) w.heap.size 0 [] :=
  ⟨Nat.zero_le _, .map [], World.ownsMap_made w P kt _, fun _ => rfl⟩
variable (hk : P.underlying kt = some (.int .i64)) (he : P.underlying et = some (.int .i64)) (ht : P.underlying mt = some (.map kt et))
include hk he ht
/-- 'm[k]'. -/
theorem OvAt.look (h : OvAt P kt et w b N os) (hz : (zeroValue et).run P w = .ok (.int .i64 0) w) {k : Int} (hw : (Lit.int .i64 k).wf = true) : (Instr.lookup mt (.map (some b)) (.int .i64 k) false).run P w = .ok (.int .i64 (os.count k)) w := by
  obtain ⟨hL, D, h1, h2⟩ := h
  obtain ⟨c, hr, hc, _⟩ := h1.lookup_int (int_keyed hk) ht he hz (keyOf_int_mk hk hw)
  rw [h2 k] at hc
  injection hc with hc
  injection hc with _ hc
  rw [hr, ← hc]
/-- 'm[k] = c + 1'. -/
theorem OvAt.more (h : OvAt P kt et w b N os) {k : Int} (hw : (Lit.int .i64 k).wf = true) (hl : os.length < 1000000) (hN : N ≤ 1000000) :
    ∃ w', (Instr.mapUpdate mt (.map (some b)) (.int .i64 k) (.int .i64 ((os.count k : Nat) + 1))).run P w = .ok () w' ∧ OvAt P kt et w' b (N + 1) (os ++ [k]) ∧ w.grownBy w' (some b) ∧ w'.heap.size = w.heap.size := by
  obtain ⟨hL, D, h1, h2⟩ := h
  have hcl : os.count k ≤ os.length := List.count_le_length
  have hwc : (Lit.int .i64 ((os.count k : Nat) + 1)).wf = true := WalkArith.wf_i64 ⟨by omega, by omega⟩
  have hi := h1.isMap
  obtain ⟨w', hr, ho, hg⟩ := h1.store (int_keyed hk) ht (by unfold maxLen; omega) (keyOf_int_mk hk hw) (plainElem_int he hwc)
  refine ⟨w', hr, ⟨by rw [List.length_append]; show _ + 1 ≤ _; omega, _, ho, fun j => ?_⟩, hg.grown, by obtain ⟨_, _, _, _, _, rfl⟩ := hg; simp [Go.ChangeMaps.setBlock]⟩
  by_cases e : j = k
  · subst e
    rw [atKey_put_same hi (by trivial), List.count_append, List.count_singleton_self]
    simp
  · rw [atKey_put_other (by simpa using e), h2 j, List.count_append]
    have : List.count j [k] = 0 := List.count_eq_zero.2 (by simpa using e)
    rw [this]
    simp
/-- 'delete(m, k)'. -/
theorem OvAt.drop (h : OvAt P kt et w b N os) {k : Int} (hw : (Lit.int .i64 k).wf = true) (ty : TypeId) :
    ∃ w', (Builtin.delete_ #[mt, kt] ty #[.map (some b), .int .i64 k]).run P w = .ok (.tuple #[]) w' ∧ OvAt P kt et w' b N (os.filter (· != k)) ∧ w.grownBy w' (some b) ∧ w'.heap.size = w.heap.size := by
  obtain ⟨hL, D, h1, h2⟩ := h
  obtain ⟨w', hr, ho, hg⟩ := h1.drop (int_keyed hk) ht (keyOf_int_mk hk hw) ty
  refine ⟨w', hr, ⟨Nat.le_trans (List.length_filter_le _ _) hL, _, ho, fun j => ?_⟩, hg.grown, by obtain ⟨_, _, _, _, _, rfl⟩ := hg; simp [Go.ChangeMaps.setBlock]⟩
  by_cases e : j = k
  · subst e
    rw [Maps.atKey_of_not_has (D := D.del (.int .i64 j)) (k := .int .i64 j) has_del_same]
    have : List.count j (os.filter (· != j)) = 0 := List.count_eq_zero.2 (by simp)
    rw [this]
    rfl
  · rw [atKey_del_other (by simpa using e), h2 j]
    rw [List.count_filter (by simpa using e)]
end
end Go.Proofs.YtmcochnofkjhaaaDoor.QU
