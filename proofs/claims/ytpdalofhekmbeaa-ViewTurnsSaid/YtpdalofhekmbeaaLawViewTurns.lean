/- The row of the law ViewTurns, out of its plain statement and the printed walk. Written by a program of this session. -/
import Derived.Test.YtpdalofhekmbeaaRows
import Derived.Test.YtpdalofhekmbeaaPViewTurnsy
import Derived.Test.YtpdalofhekmbeaaPureViewTurns
import Derived.Test.YtpdalofhekmbeaaOP
import Derived.WalkKit
import Derived.ProofKit
import Derived.OpenShut
import Derived.ShutString
import Derived.ChangeOld
import Derived.Below
import Derived.SizedLaws
import Derived.Carry
import Derived.ChangeSlices
namespace Go.Proofs.Ytpdalofhekmbeaa.viewTurns
open Go.ChangeShapes Go.WideShapes Go.ChangeAt Go.RowKit
open Go.ChangeMaps (open_string shut_string)
open Go.Proofs.Ytpdalofhekmbeaa.PViewTurns Go.Proofs.YtpdalofhekmbeaaW.PrintWords
open Go.Proofs.Ytpdalofhekmbeaa
set_option linter.unusedVariables false
theorem own : ownKnob Try.prog.godebug = none := by kernel_rfl
theorem laidOut : laidOutB Try.prog = true := by kernel_rfl
theorem op_T53 : OP.Opens Try.prog 53 k53 (fun x : S53 => ((Lit.int .i64 x.f0).wf = true) ∧ ((Lit.int .i64 x.f1).wf = true) ∧ (True)) := by
  have h := OP.opens_struct Try.underlying53 (by kernel_rfl) (OP.fields_cons (f := _) rfl rfl (OP.opens_int Try.underlying3 (by kernel_rfl)) (OP.fields_cons (f := _) rfl rfl (OP.opens_int Try.underlying3 (by kernel_rfl)) (OP.fields_last (f := _) rfl rfl (OP.opens_bool Try.underlying4 (by kernel_rfl))))) (fun x : S53 => (x.f0, x.f1, x.f2)) (fun y => (⟨y.1, y.2.1, y.2.2⟩ : S53)) (fun _ => rfl)
  exact h
theorem op_T24 : OP.Opens Try.prog 24 k24 (fun x : S24 => ((Lit.int .i64 x.f0).wf = true) ∧ (∀ y1 ∈ x.f1, ((Lit.int .i64 y1.f0).wf = true) ∧ ((Lit.int .i64 y1.f1).wf = true) ∧ (True))) := by
  have h := OP.opens_struct Try.underlying24 (by kernel_rfl) (OP.fields_cons (f := _) rfl rfl (OP.opens_int Try.underlying3 (by kernel_rfl)) (OP.fields_last (f := _) rfl rfl (OP.opens_slice Try.underlying22 (by kernel_rfl) op_T53))) (fun x : S24 => (x.f0, x.f1)) (fun y => (⟨y.1, y.2⟩ : S24)) (fun _ => rfl)
  exact h
set_option maxRecDepth 100000 in
theorem lifted (os : Os) (started : os.Started) (H : Type) (enc : TypeId × Value → H) :
    ReturnsInHanded {} Try.checked os 3 .any (Rows.viewTurnsSpec.pre6 enc Try.prog Try.f3 Rows.viewTurnsRow.domain false) (Rows.viewTurnsSpec.post enc Try.prog Try.f3 false true false false) := by
  refine returnsInHanded_of_change_sized (C := Try.checked) own started (by kernel_rfl) Try.func3
    (ChangeSpec.witness6 (enc := enc) (C := Try.checked) false ⟨#[], #[.agg #[.int .i64 0, .slice none 0 0], .int .i64 0], []⟩ 12 (by kernel_rfl) (by kernel_rfl) (by kernel_rfl) (by kernel_rfl)) ?_
  intro W base args ds gs before hval0 hW hcnd hsz0 _
  have hsz : (DataW.weightsEach Try.prog (Try.f3.params.toList ++ Rows.viewTurnsSpec.plain.varTypes Try.prog) (ds ++ gs)).all (· ≤ reachBytes) = true := hsz0
  have hval : ∀ (j : Nat) t v, Try.f3.params[j]? = some t → args[j]? = some v → Value.okWide Try.prog W .any base t v := hval0
  have hW' := hW
  obtain ⟨p, q, hA0, hV, rfl, hfz, hnd⟩ := hW
  have hA : DataW.TrodAll enc Try.prog W 0 (fun _ => true) true Try.f3.params.toList args.toList ds p := hA0
  rw [Try.params3] at hA hval hsz
  obtain ⟨v0, vs0, d0, ds0, p0, q0, hargs, rfl, rfl, h0, r0⟩ := trodAll_cons hA
  obtain ⟨v1, vs1, d1, ds1, p1, q1, rfl, rfl, rfl, h1, r1⟩ := trodAll_cons r0
  obtain ⟨rfl, rfl, rfl⟩ := trodAll_nil r1
  obtain rfl : args = #[v0, v1] := by cases args; simp_all
  obtain ⟨rfl, rfl⟩ := trodVars_none hV
  have k0 := h0
  have lt0 : ∀ x ∈ p0, x.block < W.heap.size := by obtain ⟨m, hm⟩ := k0; exact DataW.trod_lt m _ _ _ hm
  obtain ⟨cs0, rfl, _⟩ := okWide_struct Try.underlying24 (hval 0 24 v0 rfl rfl)
  obtain ⟨fu0, hf0⟩ := h0
  obtain ⟨a0, ha0, g0⟩ := op_T24.opens hf0
  have hk0 := k24_open ha0
  clear ha0
  obtain ⟨A0_1, c0_1, hcs0, hc0_1, hr0_1⟩ := hk0
  obtain rfl : cs0 = #[.int .i64 a0.f0, .slice A0_1 a0.f1.length c0_1] := by apply Array.toList_inj.1; simpa [Value.cells] using hcs0
  obtain ⟨a1, rfl, rfl, rfl, w1⟩ := open_int Try.underlying3 (hval 1 3 v1 rfl rfl) h1
  clear hA0 hval0 hsz0 hsz
  obtain ⟨k, h⟩ := Pure.ViewTurns a0 a1 g0 w1
  refine (caduceuslaw14_ViewTurns.calls k ((a0.f0)) A0_1 c0_1 (a0.f1) a1 true W hr0_1 hc0_1 h).mono fun e W' ⟨he, bel0⟩ => ?_
  have bel : Below W.heap.size W W' := bel0
  subst he
  exact ⟨_, rfl, _, _, _, [], _, [], hW', trodAll_mk1 (shut_bool Try.underlying4 _), (trodAll_cons_mk (Below.trod laidOut (by kernel_rfl) (of_decide_eq_true (by kernel_rfl)) k0 bel lt0) (trodAll_cons_mk (shut_int Try.underlying3 w1) trodAll_mk0)), rfl, bel.frame _, fun h => by cases h⟩
theorem over : Rows.viewTurnsRow.holds Try.pinned (OpenSpec.ofChange Rows.viewTurnsSpec) :=
  OpenClaim.holds_of_wide 3 Try.f3 rfl rfl rfl rfl rfl rfl rfl ⟨rfl, rfl, rfl, rfl, rfl⟩ rfl rfl rfl rfl rfl (by kernel_rfl) Try.func3 (by kernel_rfl)
    (of_decide_eq_true (by kernel_rfl)) (by unfold Func.isWrapper; first | (rw [if_pos (by decide +kernel)]; kernel_rfl) | (rw [if_neg (by decide +kernel)]; exact ⟨rfl, rfl⟩))
    (fun os started H enc _ => lifted os started H enc)
theorem proved : Rows.ViewTurnsSaid := over
#print axioms proved
end Go.Proofs.Ytpdalofhekmbeaa.viewTurns
namespace Go.Proofs.Ytpdalofhekmbeaa
/-- The row, under a short name, for the claim. -/
theorem viewTurns_holds : Rows.ViewTurnsSaid := viewTurns.proved
end Go.Proofs.Ytpdalofhekmbeaa
