/- The row of the law LinkGoes, out of its walk. Written by a program of this session. -/
import Derived.Test.YtdibaeomepallaaRows
import Derived.Test.YtdibaeomepallaaLu
import Derived.Test.YtdibaeomepallaaOP
import Derived.Test.YtdibaeomepallaaKD
import Derived.WalkKit
import Derived.ProofKit
import Derived.OpenShut
import Derived.ShutString
import Derived.ChangeOld
import Derived.Below
import Derived.SizedLaws
import Derived.Carry
import Derived.ChangeSlices
namespace Go.Proofs.Ytdibaeomepallaa.linkGoes
open Go.ChangeShapes Go.WideShapes Go.ChangeAt Go.RowKit
open Go.ChangeMaps (open_string shut_string)
open Go.Proofs.Ytdibaeomepallaa.PAll Go.Proofs.YtdibaeomepallaaW.PrintWords Go.Proofs.Ytdibaeomepallaa.NW Go.Proofs.Ytdibaeomepallaa.LK
open Go.Proofs.Ytdibaeomepallaa
set_option linter.unusedVariables false
theorem own : ownKnob Try.prog.godebug = none := by kernel_rfl
theorem laidOut : laidOutB Try.prog = true := by kernel_rfl
theorem op_T109 : OP.Opens Try.prog 109 k109 (fun x : S109 => ((Lit.int .i64 x.f0).wf = true) ∧ ((Lit.int .i64 x.f1).wf = true) ∧ ((Lit.int .i64 x.f2).wf = true) ∧ (x.f3.size ≤ maxLen)) := by
  have h := OP.opens_struct Try.underlying109 (by kernel_rfl) (OP.fields_cons (f := _) rfl rfl (OP.opens_int Try.underlying3 (by kernel_rfl)) (OP.fields_cons (f := _) rfl rfl (OP.opens_int Try.underlying3 (by kernel_rfl)) (OP.fields_cons (f := _) rfl rfl (OP.opens_int Try.underlying3 (by kernel_rfl)) (OP.fields_last (f := _) rfl rfl (OP.opens_string Try.underlying9 (by kernel_rfl)))))) (fun x : S109 => (x.f0, x.f1, x.f2, x.f3)) (fun y => (⟨y.1, y.2.1, y.2.2.1, y.2.2.2⟩ : S109)) (fun _ => rfl)
  exact h
set_option maxRecDepth 100000 in
theorem lifted (os : Os) (started : os.Started) (H : Type) (enc : TypeId × Value → H) :
    ReturnsInHanded {} Try.checked os 13 .any (Rows.linkGoesSpec.pre6 enc Try.prog Try.f13 Rows.linkGoesRow.domain false) (Rows.linkGoesSpec.post enc Try.prog Try.f13 false true false false) := by
  refine returnsInHanded_of_change_sized (C := Try.checked) own started (by kernel_rfl) Try.func13
    (ChangeSpec.witness6 (enc := enc) (C := Try.checked) false ⟨#[], #[.slice none 0 0], []⟩ 12 (by kernel_rfl) (by kernel_rfl) (by kernel_rfl) (by kernel_rfl)) ?_
  intro W base args ds gs before hval0 hW hcnd hsz0 _
  have hsz : (DataW.weightsEach Try.prog (Try.f13.params.toList ++ Rows.linkGoesSpec.plain.varTypes Try.prog) (ds ++ gs)).all (· ≤ reachBytes) = true := hsz0
  have hval : ∀ (j : Nat) t v, Try.f13.params[j]? = some t → args[j]? = some v → Value.okWide Try.prog W .any base t v := hval0
  have hW' := hW
  obtain ⟨p, q, hA0, hV, rfl, hfz, hnd⟩ := hW
  have hA : DataW.TrodAll enc Try.prog W 0 (fun _ => true) true Try.f13.params.toList args.toList ds p := hA0
  rw [Try.params13] at hA hval hsz
  obtain ⟨v0, vs0, d0, ds0, p0, q0, hargs, rfl, rfl, h0, r0⟩ := trodAll_cons hA
  obtain ⟨rfl, rfl, rfl⟩ := trodAll_nil r0
  obtain rfl : args = #[v0] := by cases args; simp_all
  obtain ⟨rfl, rfl⟩ := trodVars_none hV
  have k0 := h0
  have lt0 : ∀ x ∈ p0, x.block < W.heap.size := by obtain ⟨m, hm⟩ := k0; exact DataW.trod_lt m _ _ _ hm
  obtain ⟨A0, len0, c0, rfl⟩ := okWide_slice Try.underlying106 (hval 0 106 v0 rfl rfl)
  obtain ⟨fu0, hf0⟩ := h0
  obtain ⟨l0, ⟨B0, b0, hcs0, hc0, hr0⟩, g0⟩ := (OP.opens_slice Try.underlying106 (by kernel_rfl) op_T109).opens hf0
  obtain ⟨rfl, rfl, rfl⟩ : A0 = B0 ∧ len0 = l0.length ∧ c0 = b0 := by simpa [Value.cells] using hcs0
  have hm0 : l0.length ≤ maxLen := by have := Kd.C_max hr0; unfold maxLen; omega
  clear hA0 hval0 hsz0 hsz
  refine (linkGoes_is A0 c0 l0 W hr0 hc0 g0 hm0).mono fun e W' ⟨he, bel0⟩ => ?_
  have bel : Below W.heap.size W W' := bel0
  subst he
  exact ⟨_, rfl, _, _, _, [], _, [], hW', trodAll_mk1 (shut_bool Try.underlying4 _), (trodAll_cons_mk (Below.trod laidOut (by kernel_rfl) (of_decide_eq_true (by kernel_rfl)) k0 bel lt0) trodAll_mk0), rfl, bel.frame _, fun h => by cases h⟩
theorem over : Rows.linkGoesRow.holds Try.pinned (OpenSpec.ofChange Rows.linkGoesSpec) :=
  OpenClaim.holds_of_wide 13 Try.f13 rfl rfl rfl rfl rfl rfl rfl ⟨rfl, rfl, rfl, rfl, rfl⟩ rfl rfl rfl rfl rfl (by kernel_rfl) Try.func13 (by kernel_rfl)
    (of_decide_eq_true (by kernel_rfl)) (by unfold Func.isWrapper; first | (rw [if_pos (by decide +kernel)]; kernel_rfl) | (rw [if_neg (by decide +kernel)]; exact ⟨rfl, rfl⟩))
    (fun os started H enc _ => lifted os started H enc)
theorem proved : Rows.LinkGoesSaid := over
#print axioms proved
end Go.Proofs.Ytdibaeomepallaa.linkGoes
namespace Go.Proofs.Ytdibaeomepallaa
/-- The row, under a short name, for the claim. -/
theorem linkGoes_holds : Rows.LinkGoesSaid := linkGoes.proved
end Go.Proofs.Ytdibaeomepallaa
