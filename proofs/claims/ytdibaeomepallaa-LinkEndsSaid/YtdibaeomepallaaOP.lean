/- Plain facts on how arguments read: what reads as a datum of a type is a Lean value of its kind. No program in sight. -/
import Derived.Test.YtdibaeomepallaaWMore
import Derived.Deep.Slices
import Derived.Deep.Fields
import Derived.ChangeSame
namespace Go.Proofs.Ytdibaeomepallaa.OP
open Go.ChangeShapes Go.WideShapes Go.Deep Go.Proofs.YtdibaeomepallaaW.PrintWords

/-- Whatever reads as a datum of type t is a Lean value of kind k, of which G holds. -/
structure Opens {α : Type} (P : Program) (t : TypeId) (k : Kd α) (G : α → Prop) : Prop where
  size : P.cellsOf t = k.sz
  opens : ∀ {H : Type} {enc : TypeId × Value → H} {w : World} {base : Nat} {spare : Nat → Bool} {held : Bool} {fuel : Nat} {cs : List Value} {x : DataW H × List MemPlace},
    DataW.trod enc P w base spare held fuel t cs = some x → ∃ a, k.K w a cs ∧ G a
variable {P : Program}
theorem opens_bool {t : TypeId} (ht : P.underlying t = some .bool) (hs : P.cellsOf t = 1) : Opens P t Kd.bool (fun _ => True) :=
  ⟨hs, fun h => by obtain ⟨n, rfl, _⟩ := DataW.trod_bool ht h; exact ⟨n, rfl, trivial⟩⟩
theorem opens_slice {α : Type} {t e : TypeId} {k : Kd α} {G : α → Prop} (ht : P.underlying t = some (.slice e)) (hs : P.cellsOf t = 1) (ho : Opens P e k G) : Opens P t (Kd.slice e k) (fun l => ∀ x ∈ l, G x) := by
  refine ⟨hs, fun {H enc w base spare held fuel cs x} h => ?_⟩
  rcases open_slice ht h with ⟨rfl, _⟩ | ⟨a, len, cap, m, n, D, Pl, rfl, _, hl, hm, hmm, _, hi⟩
  · exact ⟨[], ⟨none, 0, rfl, Nat.le_refl _, Kd.C_nil k w⟩, fun x hx => by cases hx⟩
  · have hlm : len ≤ m := by rw [hmm]; split <;> omega
    have each : ∀ i, i < len → ∃ b cs', k.K w b cs' ∧ G b ∧ w.cells? base (a.add (i * P.cellsOf e)) (P.cellsOf e) = some cs' := by
      intro i hi'
      obtain ⟨cs', hc, ht'⟩ := hi i (by omega)
      obtain ⟨b, hb, hg⟩ := ho.opens ht'
      exact ⟨b, cs', hb, hg, hc⟩
    have build : ∀ j, j ≤ len → ∃ l : List α, l.length = j ∧ ∀ i b, l[i]? = some b → G b ∧ ∃ cs', k.K w b cs' ∧ w.cells? base (a.add (i * P.cellsOf e)) (P.cellsOf e) = some cs' := by
      intro j
      induction j with
      | zero => exact fun _ => ⟨[], rfl, fun i b h => by simp at h⟩
      | succ j ih =>
        intro hj
        obtain ⟨l, hl1, hl2⟩ := ih (by omega)
        obtain ⟨b, cs', hb, hg, hc⟩ := each j (by omega)
        refine ⟨l ++ [b], by simp [hl1], fun i b' h' => ?_⟩
        rcases Nat.lt_or_ge i l.length with q | q
        · rw [List.getElem?_append_left q] at h'
          exact hl2 i b' h'
        · have qi : i = j := by
            have := (List.getElem?_eq_some_iff.1 h').1
            simp at this; omega
          subst qi
          have : b = b' := by
            rw [List.getElem?_append_right q, hl1] at h'
            simpa using h'
          subst this
          exact ⟨hg, cs', hb, hc⟩
    obtain ⟨l, hl1, hl2⟩ := build len (Nat.le_refl _)
    refine ⟨l, ⟨some a, cap, by rw [hl1], by omega, by omega, by unfold maxLen at hm; omega, fun _ => ⟨a, rfl, fun j p hp => ?_⟩⟩, fun x hx => ?_⟩
    · obtain ⟨_, cs', hk, hc⟩ := hl2 j p hp
      obtain ⟨_, hcl, hat⟩ := World.cells?_some hc
      refine ⟨cs', by rw [hcl, ho.size], hk, fun i u hu => ?_⟩
      have hi' : i < P.cellsOf e := by rw [← hcl]; exact (List.getElem?_eq_some_iff.1 hu).1
      rw [← Go.Deep.add_add, ← ho.size, hat i hi', hu]
    · obtain ⟨i, hi'⟩ := List.getElem?_of_mem hx
      exact (hl2 i x hi').1

end Go.Proofs.Ytdibaeomepallaa.OP
