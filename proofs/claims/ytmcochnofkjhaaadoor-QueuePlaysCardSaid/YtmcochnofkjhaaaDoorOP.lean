/- Plain facts on how arguments read: what reads as a datum of a type is a Lean value of its kind. No program in sight. -/
import Derived.Test.YtmcochnofkjhaaaDoorWMore
import Derived.Deep.Slices
import Derived.Deep.Fields
import Derived.ChangeSame
namespace Go.Proofs.YtmcochnofkjhaaaDoor.OP
open Go.ChangeShapes Go.WideShapes Go.Deep Go.Proofs.YtmcochnofkjhaaaDoorW.PrintWords

/-- Whatever reads as a datum of type t is a Lean value of kind k, of which G holds. -/
structure Opens {α : Type} (P : Program) (t : TypeId) (k : Kd α) (G : α → Prop) : Prop where
  size : P.cellsOf t = k.sz
  opens : ∀ {H : Type} {enc : TypeId × Value → H} {w : World} {base : Nat} {spare : Nat → Bool} {held : Bool} {fuel : Nat} {cs : List Value} {x : DataW H × List MemPlace},
    DataW.trod enc P w base spare held fuel t cs = some x → ∃ a, k.K w a cs ∧ G a
variable {P : Program}
theorem opens_int {t : TypeId} {k : IntKind} (ht : P.underlying t = some (.int k)) (hs : P.cellsOf t = 1) : Opens P t (Kd.int k) (fun n => (Lit.int k n).wf = true) :=
  ⟨hs, fun h => by obtain ⟨n, rfl, _, hw⟩ := DataW.trod_int ht h; exact ⟨n, rfl, hw⟩⟩
theorem opens_string {t : TypeId} (ht : P.underlying t = some .string) (hs : P.cellsOf t = 1) : Opens P t Kd.string (fun s => s.size ≤ maxLen) :=
  ⟨hs, fun h => by obtain ⟨n, rfl, _, hw⟩ := DataW.trod_string ht h; exact ⟨n, rfl, hw⟩⟩
theorem opens_slice {α : Type} {t e : TypeId} {k : Kd α} {G : α → Prop} (ht : P.underlying t = some (.slice e)) (hs : P.cellsOf t = 1) (ho : Opens P e k G) : Opens P t (Kd.slice e k) (fun l => ∀ x ∈ l, G x) := by
  refine ⟨hs, fun {H enc w base spare held fuel cs x} h => ?_⟩
  rcases open_slice ht h with ⟨rfl, _⟩ | ⟨a, len, cap, m, n, D, Pl, rfl, _, hl, hm, hmm, _, hi⟩
  · exact ⟨[], ⟨none, 0, rfl, Nat.le_refl _, Kd.C_nil k w⟩, fun x hx => by cases hx⟩
  · have hlm : len ≤ m := by rw [hmm]; split <;> omega
    have each : ∀ i, i < len → ∃ b cs', k.K w b cs' ∧ G b ∧ w.cells? base (a.add (i * P.cellsOf e)) (P.cellsOf e) = some cs' := by
      intro i hi'
      obtain ⟨cs', hc, ht'⟩ := hi i (by omega)
      obtain ⟨b, hb, hg⟩ := ho.opens ht'
      exact ⟨b, cs', hb, hg, hc⟩
    have build : ∀ j, j ≤ len → ∃ l : List α, l.length = j ∧ ∀ i b, l[i]? = some b → G b ∧ ∃ cs', k.K w b cs' ∧ w.cells? base (a.add (i * P.cellsOf e)) (P.cellsOf e) = some cs' := by
      intro j
      induction j with
      | zero => exact fun _ => ⟨[], rfl, fun i b h => by simp at h⟩
      | succ j ih =>
        intro hj
        obtain ⟨l, hl1, hl2⟩ := ih (by omega)
        obtain ⟨b, cs', hb, hg, hc⟩ := each j (by omega)
        refine ⟨l ++ [b], by simp [hl1], fun i b' h' => ?_⟩
        rcases Nat.lt_or_ge i l.length with q | q
        · rw [List.getElem?_append_left q] at h'
          exact hl2 i b' h'
        · have qi : i = j := by
            have := (List.getElem?_eq_some_iff.1 h').1
            simp at this; omega
          subst qi
          have : b = b' := by
            rw [List.getElem?_append_right q, hl1] at h'
            simpa using h'
          subst this
          exact ⟨hg, cs', hb, hc⟩
    obtain ⟨l, hl1, hl2⟩ := build len (Nat.le_refl _)
    refine ⟨l, ⟨some a, cap, by rw [hl1], by omega, by omega, by unfold maxLen at hm; omega, fun _ => ⟨a, rfl, fun j p hp => ?_⟩⟩, fun x hx => ?_⟩
    · obtain ⟨_, cs', hk, hc⟩ := hl2 j p hp
      obtain ⟨_, hcl, hat⟩ := World.cells?_some hc
      refine ⟨cs', by rw [hcl, ho.size], hk, fun i u hu => ?_⟩
      have hi' : i < P.cellsOf e := by rw [← hcl]; exact (List.getElem?_eq_some_iff.1 hu).1
      rw [← Go.Deep.add_add, ← ho.size, hat i hi', hu]
    · obtain ⟨i, hi'⟩ := List.getElem?_of_mem hx
      exact (hl2 i x hi').1

/-- A struct's fields from field i on, which begin at cell off. -/
structure OpensFields {α : Type} (P : Program) (fs : Array Field) (i off : Nat) (k : Kd α) (G : α → Prop) : Prop where
  opens : ∀ {H : Type} {enc : TypeId × Value → H} {w : World} {base : Nat} {spare : Nat → Bool} {held : Bool} {n : Nat} {cs : List Value} {ys : List (DataW H × List MemPlace)},
    (∀ (j : Nat) (f : Field), fs[j]? = some f → DataW.trod enc P w base spare held n f.type ((cs.drop f.offset).take (P.cellsOf f.type)) = ys[j]?) → ys.length = fs.size → cs.length = off + k.sz → ∃ a, k.K w a (cs.drop off) ∧ G a
theorem fields_last {α : Type} {fs : Array Field} {i off : Nat} {k : Kd α} {G : α → Prop} {f : Field} (hf : fs[i]? = some f) (hoff : f.offset = off) (ho : Opens P f.type k G) : OpensFields P fs i off k G := by
  refine ⟨fun {H enc w base spare held n cs ys} h hl hc => ?_⟩
  have h1 := h i f hf
  have hi : i < ys.length := by rw [hl]; exact (Array.getElem?_eq_some_iff.1 hf).1
  rw [hoff, List.take_of_length_le (by rw [List.length_drop, ho.size]; omega), List.getElem?_eq_getElem hi] at h1
  exact ho.opens h1
theorem fields_cons {α β : Type} {fs : Array Field} {i off : Nat} {k : Kd α} {G : α → Prop} {k2 : Kd β} {G2 : β → Prop} {f : Field} (hf : fs[i]? = some f) (hoff : f.offset = off) (ho : Opens P f.type k G)
    (hr : OpensFields P fs (i + 1) (off + k.sz) k2 G2) : OpensFields P fs i off (Kd.pair k k2) (fun x => G x.1 ∧ G2 x.2) := by
  refine ⟨fun {H enc w base spare held n cs ys} h hl hc => ?_⟩
  have h1 := h i f hf
  have hi : i < ys.length := by rw [hl]; exact (Array.getElem?_eq_some_iff.1 hf).1
  rw [hoff, List.getElem?_eq_getElem hi, ho.size] at h1
  have hc' : cs.length = off + (k.sz + k2.sz) := hc
  obtain ⟨a, ha, hga⟩ := ho.opens h1
  obtain ⟨b, hb, hgb⟩ := hr.opens h hl (by omega)
  refine ⟨(a, b), ⟨_, _, ?_, ha, hb⟩, hga, hgb⟩
  rw [← List.drop_drop, List.take_append_drop]
theorem opens_struct {α β : Type} {t : TypeId} {fs : Array Field} {k : Kd α} {G : α → Prop} (ht : P.underlying t = some (.struct fs)) (hs : P.cellsOf t = k.sz) (hr : OpensFields P fs 0 0 k G) (f : β → α) (g : α → β) (hfg : ∀ a, f (g a) = a) :
    Opens P t (Kd.iso k f) (fun x => G (f x)) := by
  refine ⟨hs, fun {H enc w base spare held fuel cs x} h => ?_⟩
  obtain ⟨xs, n, _, _, hcl, hxl, hg⟩ := DataW.trod_struct ht h
  obtain ⟨a, ha, hga⟩ := hr.opens hg hxl (by omega)
  rw [List.drop_zero] at ha
  refine ⟨g a, ?_, ?_⟩
  · show k.K w (f (g a)) cs
    rw [hfg]; exact ha
  · show G (f (g a))
    rw [hfg]; exact hga
end Go.Proofs.YtmcochnofkjhaaaDoor.OP
