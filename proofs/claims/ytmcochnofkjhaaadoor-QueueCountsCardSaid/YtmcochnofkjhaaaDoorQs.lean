/- DeleteFunc, plain: what its loop keeps. By hand. -/
import Derived.Test.YtmcochnofkjhaaaDoorQr
namespace Go.Proofs.YtmcochnofkjhaaaDoor.QU
open Go.RowKit Go.Proofs.YtmcochnofkjhaaaDoorW.PrintWords Go.Proofs.YtmcochnofkjhaaaDoorW.PrintLast Go.Proofs.YtmcochnofkjhaaaDoorW.PrintMore Go.Proofs.YtmcochnofkjhaaaDoor.PAll
set_option linter.unusedVariables false
/-- The loop's state: the row xs, where the next one goes (i), where it looks (j). -/
structure DelI (p : S36 → Bool) (l xs : List S36) (i j : Nat) : Prop where
  len : xs.length = l.length
  le : i ≤ j
  lj : j ≤ l.length
  pre : xs.take i = (l.take j).filter (fun x => !p x)
  post : xs.drop j = l.drop j
theorem take_set_next (xs : List S36) (i : Nat) (x : S36) (h : i < xs.length) : (xs.set i x).take (i + 1) = xs.take i ++ [x] := by
  rw [List.take_add_one, List.take_set_of_le (Nat.le_refl i), List.getElem?_set_self h]
  rfl
theorem drop_set_later (xs : List S36) (i j : Nat) (x : S36) (h : i < j) : (xs.set i x).drop j = xs.drop j := by
  rw [List.drop_set, if_pos h]
theorem DelI.skip {p : S36 → Bool} {l xs : List S36} {i j : Nat} (h : DelI p l xs i j) (hj : j < l.length) (hp : p l[j] = true) : DelI p l xs i (j + 1) := by
  refine ⟨h.len, by have := h.le; omega, by omega, ?_, ?_⟩
  · rw [h.pre, List.take_add_one, List.filter_append, List.getElem?_eq_getElem hj]
    simp [hp]
  · have := congrArg (List.drop 1) h.post
    simpa [List.drop_drop] using this
theorem DelI.keep {p : S36 → Bool} {l xs : List S36} {i j : Nat} (h : DelI p l xs i j) (hj : j < l.length) (hp : p l[j] = false) : DelI p l (xs.set i l[j]) (i + 1) (j + 1) := by
  have hl := h.len
  have hle := h.le
  refine ⟨by rw [List.length_set]; exact hl, by omega, by omega, ?_, ?_⟩
  · rw [take_set_next _ _ _ (by omega), h.pre, List.take_add_one, List.filter_append, List.getElem?_eq_getElem hj]
    simp [hp]
  · rw [drop_set_later _ _ _ _ (by omega)]
    have := congrArg (List.drop 1) h.post
    simpa [List.drop_drop] using this
theorem DelI.done {p : S36 → Bool} {l xs : List S36} {i : Nat} (h : DelI p l xs i l.length) : xs.take i = l.filter (fun x => !p x) := by
  rw [h.pre, List.take_length]
theorem idxF_none {p : S36 → Bool} : ∀ (l : List S36) (i : Int), 0 ≤ i → idxF p l i = -1 → l.filter (fun x => !p x) = l
  | [], _, _, _ => rfl
  | x :: l, i, h0, h => by
    unfold idxF at h
    cases hp : p x with
    | true => rw [hp, if_pos rfl] at h; omega
    | false =>
      rw [hp] at h
      rw [List.filter_cons_of_pos (by simp [hp]), idxF_none l (i + 1) (by omega) (by simpa using h)]
theorem idxF_some {p : S36 → Bool} : ∀ (l : List S36) (i : Int), 0 ≤ i → idxF p l i ≠ -1 → ∃ n : Nat, idxF p l i = i + n ∧ ∃ h : n < l.length, p l[n] = true ∧ (l.take n).filter (fun x => !p x) = l.take n
  | [], _, _, h => absurd rfl h
  | x :: l, i, h0, h => by
    unfold idxF at h ⊢
    cases hp : p x with
    | true => exact ⟨0, by simp, by simp, by simpa using hp, rfl⟩
    | false =>
      rw [hp] at h
      obtain ⟨n, h1, h2, h3, h4⟩ := idxF_some l (i + 1) (by omega) (by simpa using h)
      refine ⟨n + 1, by rw [if_neg (by simp), h1]; omega, by simp; omega, by simpa using h3, ?_⟩
      rw [List.take_succ_cons, List.filter_cons_of_pos (by simp [hp]), h4]
end Go.Proofs.YtmcochnofkjhaaaDoor.QU
