/- The row of the law LinkPlays, out of its walk. Written by a program of this session. -/
import Derived.Test.YtdibaeomepallaaRows
import Derived.Test.YtdibaeomepallaaMg
import Derived.Test.YtdibaeomepallaaOP
import Derived.Test.YtdibaeomepallaaKD
import Derived.WalkKit
import Derived.ProofKit
import Derived.OpenShut
import Derived.ShutString
import Derived.ChangeOld
import Derived.Below
import Derived.SizedLaws
import Derived.Carry
import Derived.ChangeSlices
namespace Go.Proofs.Ytdibaeomepallaa.linkPlays
open Go.ChangeShapes Go.WideShapes Go.ChangeAt Go.RowKit
open Go.ChangeMaps (open_string shut_string)
open Go.Proofs.Ytdibaeomepallaa.PAll Go.Proofs.YtdibaeomepallaaW.PrintWords Go.Proofs.Ytdibaeomepallaa.NW Go.Proofs.Ytdibaeomepallaa.LK
open Go.Proofs.Ytdibaeomepallaa
set_option linter.unusedVariables false
theorem own : ownKnob Try.prog.godebug = none := by kernel_rfl
theorem laidOut : laidOutB Try.prog = true := by kernel_rfl
theorem op_T65 : OP.Opens Try.prog 65 k65 (fun x : S65 => ((Lit.int .i64 x.f0).wf = true) ∧ ((Lit.int .i64 x.f1).wf = true) ∧ ((Lit.int .i64 x.f2).wf = true) ∧ ((Lit.int .i64 x.f3).wf = true) ∧ ((Lit.int .i64 x.f4).wf = true)) := by
  have h := OP.opens_struct Try.underlying65 (by kernel_rfl) (OP.fields_cons (f := _) rfl rfl (OP.opens_int Try.underlying3 (by kernel_rfl)) (OP.fields_cons (f := _) rfl rfl (OP.opens_int Try.underlying3 (by kernel_rfl)) (OP.fields_cons (f := _) rfl rfl (OP.opens_int Try.underlying3 (by kernel_rfl)) (OP.fields_cons (f := _) rfl rfl (OP.opens_int Try.underlying3 (by kernel_rfl)) (OP.fields_last (f := _) rfl rfl (OP.opens_int Try.underlying3 (by kernel_rfl))))))) (fun x : S65 => (x.f0, x.f1, x.f2, x.f3, x.f4)) (fun y => (⟨y.1, y.2.1, y.2.2.1, y.2.2.2.1, y.2.2.2.2⟩ : S65)) (fun _ => rfl)
  exact h
theorem op_T28 : OP.Opens Try.prog 28 k28 (fun x : S28 => ((Lit.int .i64 x.f0).wf = true) ∧ ((Lit.int .i64 x.f1).wf = true) ∧ ((Lit.int .i64 x.f2).wf = true) ∧ ((Lit.int .i64 x.f3).wf = true) ∧ ((Lit.int .i64 x.f4).wf = true) ∧ ((Lit.int .i64 x.f5).wf = true) ∧ (x.f6.size ≤ maxLen)) := by
  have h := OP.opens_struct Try.underlying28 (by kernel_rfl) (OP.fields_cons (f := _) rfl rfl (OP.opens_int Try.underlying3 (by kernel_rfl)) (OP.fields_cons (f := _) rfl rfl (OP.opens_int Try.underlying3 (by kernel_rfl)) (OP.fields_cons (f := _) rfl rfl (OP.opens_int Try.underlying3 (by kernel_rfl)) (OP.fields_cons (f := _) rfl rfl (OP.opens_int Try.underlying3 (by kernel_rfl)) (OP.fields_cons (f := _) rfl rfl (OP.opens_int Try.underlying3 (by kernel_rfl)) (OP.fields_cons (f := _) rfl rfl (OP.opens_int Try.underlying3 (by kernel_rfl)) (OP.fields_last (f := _) rfl rfl (OP.opens_string Try.underlying9 (by kernel_rfl))))))))) (fun x : S28 => (x.f0, x.f1, x.f2, x.f3, x.f4, x.f5, x.f6)) (fun y => (⟨y.1, y.2.1, y.2.2.1, y.2.2.2.1, y.2.2.2.2.1, y.2.2.2.2.2.1, y.2.2.2.2.2.2⟩ : S28)) (fun _ => rfl)
  exact h
theorem op_T85 : OP.Opens Try.prog 85 k85 (fun x : S85 => ((Lit.int .i64 x.f0).wf = true) ∧ (x.f1.size ≤ maxLen) ∧ (((Lit.int .i64 x.f2.f0).wf = true) ∧ ((Lit.int .i64 x.f2.f1).wf = true) ∧ ((Lit.int .i64 x.f2.f2).wf = true) ∧ ((Lit.int .i64 x.f2.f3).wf = true) ∧ ((Lit.int .i64 x.f2.f4).wf = true) ∧ ((Lit.int .i64 x.f2.f5).wf = true) ∧ (x.f2.f6.size ≤ maxLen))) := by
  have h := OP.opens_struct Try.underlying85 (by kernel_rfl) (OP.fields_cons (f := _) rfl rfl (OP.opens_int Try.underlying3 (by kernel_rfl)) (OP.fields_cons (f := _) rfl rfl (OP.opens_string Try.underlying9 (by kernel_rfl)) (OP.fields_last (f := _) rfl rfl op_T28))) (fun x : S85 => (x.f0, x.f1, x.f2)) (fun y => (⟨y.1, y.2.1, y.2.2⟩ : S85)) (fun _ => rfl)
  exact h
set_option maxRecDepth 100000 in
theorem lifted (os : Os) (started : os.Started) (H : Type) (enc : TypeId × Value → H) :
    ReturnsInHanded {} Try.checked os 9 .any (Rows.linkPlaysSpec.pre6 enc Try.prog Try.f9 Rows.linkPlaysRow.domain false) (Rows.linkPlaysSpec.post enc Try.prog Try.f9 false true false false) := by
  refine returnsInHanded_of_change_sized (C := Try.checked) own started (by kernel_rfl) Try.func9
    (ChangeSpec.witness6 (enc := enc) (C := Try.checked) false ⟨#[], #[.agg #[.int .i64 0, .int .i64 0, .int .i64 0, .int .i64 0, .int .i64 0], .slice none 0 0], []⟩ 12 (by kernel_rfl) (by kernel_rfl) (by kernel_rfl) (by kernel_rfl)) ?_
  intro W base args ds gs before hval0 hW hcnd hsz0 _
  have hsz : (DataW.weightsEach Try.prog (Try.f9.params.toList ++ Rows.linkPlaysSpec.plain.varTypes Try.prog) (ds ++ gs)).all (· ≤ reachBytes) = true := hsz0
  have hval : ∀ (j : Nat) t v, Try.f9.params[j]? = some t → args[j]? = some v → Value.okWide Try.prog W .any base t v := hval0
  have hW' := hW
  obtain ⟨p, q, hA0, hV, rfl, hfz, hnd⟩ := hW
  have hA : DataW.TrodAll enc Try.prog W 0 (fun _ => true) true Try.f9.params.toList args.toList ds p := hA0
  rw [Try.params9] at hA hval hsz
  obtain ⟨v0, vs0, d0, ds0, p0, q0, hargs, rfl, rfl, h0, r0⟩ := trodAll_cons hA
  obtain ⟨v1, vs1, d1, ds1, p1, q1, rfl, rfl, rfl, h1, r1⟩ := trodAll_cons r0
  obtain ⟨rfl, rfl, rfl⟩ := trodAll_nil r1
  obtain rfl : args = #[v0, v1] := by cases args; simp_all
  obtain ⟨rfl, rfl⟩ := trodVars_none hV
  have k0 := h0
  have lt0 : ∀ x ∈ p0, x.block < W.heap.size := by obtain ⟨m, hm⟩ := k0; exact DataW.trod_lt m _ _ _ hm
  obtain ⟨cs0, rfl, _⟩ := okWide_struct Try.underlying65 (hval 0 65 v0 rfl rfl)
  obtain ⟨fu0, hf0⟩ := h0
  obtain ⟨a0, ha0, g0⟩ := op_T65.opens hf0
  have hcs0 := k65_open ha0
  clear ha0
  obtain rfl : cs0 = #[.int .i64 a0.f0, .int .i64 a0.f1, .int .i64 a0.f2, .int .i64 a0.f3, .int .i64 a0.f4] := by apply Array.toList_inj.1; simpa [Value.cells] using hcs0
  have k1 := h1
  have lt1 : ∀ x ∈ p1, x.block < W.heap.size := by obtain ⟨m, hm⟩ := k1; exact DataW.trod_lt m _ _ _ hm
  obtain ⟨A1, len1, c1, rfl⟩ := okWide_slice Try.underlying76 (hval 1 76 v1 rfl rfl)
  obtain ⟨fu1, hf1⟩ := h1
  obtain ⟨l1, ⟨B1, b1, hcs1, hc1, hr1⟩, g1⟩ := (OP.opens_slice Try.underlying76 (by kernel_rfl) op_T85).opens hf1
  obtain ⟨rfl, rfl, rfl⟩ : A1 = B1 ∧ len1 = l1.length ∧ c1 = b1 := by simpa [Value.cells] using hcs1
  have hm1 : l1.length ≤ maxLen := by have := Kd.C_max hr1; unfold maxLen; omega
  clear hA0 hval0 hsz0 hsz
  refine (linkPlays_is a0 A1 c1 l1 W g0 hr1 hc1 g1 hm1).mono fun e W' ⟨he, bel0⟩ => ?_
  have bel : Below W.heap.size W W' := bel0
  subst he
  exact ⟨_, rfl, _, _, _, [], _, [], hW', trodAll_mk1 (shut_bool Try.underlying4 _), (trodAll_cons_mk (Below.trod laidOut (by kernel_rfl) (of_decide_eq_true (by kernel_rfl)) k0 bel lt0) (trodAll_cons_mk (Below.trod laidOut (by kernel_rfl) (of_decide_eq_true (by kernel_rfl)) k1 bel lt1) trodAll_mk0)), rfl, bel.frame _, fun h => by cases h⟩
theorem over : Rows.linkPlaysRow.holds Try.pinned (OpenSpec.ofChange Rows.linkPlaysSpec) :=
  OpenClaim.holds_of_wide 9 Try.f9 rfl rfl rfl rfl rfl rfl rfl ⟨rfl, rfl, rfl, rfl, rfl⟩ rfl rfl rfl rfl rfl (by kernel_rfl) Try.func9 (by kernel_rfl)
    (of_decide_eq_true (by kernel_rfl)) (by unfold Func.isWrapper; first | (rw [if_pos (by decide +kernel)]; kernel_rfl) | (rw [if_neg (by decide +kernel)]; exact ⟨rfl, rfl⟩))
    (fun os started H enc _ => lifted os started H enc)
theorem proved : Rows.LinkPlaysSaid := over
#print axioms proved
end Go.Proofs.Ytdibaeomepallaa.linkPlays
namespace Go.Proofs.Ytdibaeomepallaa
/-- The row, under a short name, for the claim. -/
theorem linkPlays_holds : Rows.LinkPlaysSaid := linkPlays.proved
end Go.Proofs.Ytdibaeomepallaa
