/- THE DOOR: the law QueuePlays: its row, which lists tables of the library's, and its card, tied to the program's text. For every input the law returns true, and each argument reads as before; the listed variables hold what the program's text lays. -/
import Derived.Test.YtmcochnofkjhaaaDoorRows
import Derived.Test.YtmcochnofkjhaaaDoorTie
import Derived.Test.YtmcochnofkjhaaaDoorCards
import Derived.Test.YtmcochnofkjhaaaDoorQpd
import Derived.Test.YtmcochnofkjhaaaDoorOP
import Derived.WalkKit
import Derived.ProofKit
import Derived.OpenShut
import Derived.ShutString
import Derived.ChangeOld
import Derived.Below
import Derived.SizedLaws
import Derived.Carry
import Derived.ChangeSlices
import Derived.Lib.LaidIn
import Derived.Lib.LaidU8T
import Derived.Deep.DeepHandedRow
import Derived.Deep.DeepWitnessRowRef
import Derived.SevenTiedAt
import Derived.KernelRfl
namespace Go.Proofs.YtmcochnofkjhaaaDoor.queuePlays
open Go.Shelf
open Go.ChangeShapes Go.WideShapes Go.ChangeAt Go.RowKit Go.Lib
open Go.ChangeMaps (open_string shut_string)
open Go.Proofs.YtmcochnofkjhaaaDoor.PAll Go.Proofs.YtmcochnofkjhaaaDoorW.PrintWords Go.Proofs.YtmcochnofkjhaaaDoor.QU
open Go.Proofs.YtmcochnofkjhaaaDoor
set_option linter.unusedVariables false
theorem own : ownKnob Tryd.prog.godebug = none := by kernel_rfl
theorem laidOut : laidOutB Tryd.prog = true := by kernel_rfl
theorem op_T30 : OP.Opens Tryd.prog 30 k30 (fun x : S30 => ((Lit.int .i64 x.f0).wf = true) ∧ ((Lit.int .i64 x.f1).wf = true) ∧ ((Lit.int .i64 x.f2).wf = true)) := by
  have h := OP.opens_struct Tryd.underlying30 (by kernel_rfl) (OP.fields_cons (f := _) rfl rfl (OP.opens_int Tryd.underlying3 (by kernel_rfl)) (OP.fields_cons (f := _) rfl rfl (OP.opens_int Tryd.underlying3 (by kernel_rfl)) (OP.fields_last (f := _) rfl rfl (OP.opens_int Tryd.underlying3 (by kernel_rfl))))) (fun x : S30 => (x.f0, x.f1, x.f2)) (fun y => (⟨y.1, y.2.1, y.2.2⟩ : S30)) (fun _ => rfl)
  exact h
theorem op_T85 : OP.Opens Tryd.prog 85 k85 (fun x : S85 => ((Lit.int .i64 x.f0).wf = true) ∧ ((Lit.int .i64 x.f1).wf = true) ∧ (x.f2.size ≤ maxLen)) := by
  have h := OP.opens_struct Tryd.underlying85 (by kernel_rfl) (OP.fields_cons (f := _) rfl rfl (OP.opens_int Tryd.underlying3 (by kernel_rfl)) (OP.fields_cons (f := _) rfl rfl (OP.opens_int Tryd.underlying3 (by kernel_rfl)) (OP.fields_last (f := _) rfl rfl (OP.opens_string Tryd.underlying9 (by kernel_rfl))))) (fun x : S85 => (x.f0, x.f1, x.f2)) (fun y => (⟨y.1, y.2.1, y.2.2⟩ : S85)) (fun _ => rfl)
  exact h
theorem op_T87 : OP.Opens Tryd.prog 87 k87 (fun x : S87 => (x.f0.size ≤ maxLen) ∧ (((Lit.int .i64 x.f1.f0).wf = true) ∧ ((Lit.int .i64 x.f1.f1).wf = true) ∧ (x.f1.f2.size ≤ maxLen))) := by
  have h := OP.opens_struct Tryd.underlying87 (by kernel_rfl) (OP.fields_cons (f := _) rfl rfl (OP.opens_string Tryd.underlying9 (by kernel_rfl)) (OP.fields_last (f := _) rfl rfl op_T85)) (fun x : S87 => (x.f0, x.f1)) (fun y => (⟨y.1, y.2⟩ : S87)) (fun _ => rfl)
  exact h
theorem op_T33 : OP.Opens Tryd.prog 33 k33 (fun x : S33 => (((Lit.int .i64 x.f0.f0).wf = true) ∧ ((Lit.int .i64 x.f0.f1).wf = true) ∧ ((Lit.int .i64 x.f0.f2).wf = true)) ∧ (x.f1.size ≤ maxLen) ∧ (∀ y ∈ x.f2, (y.f0.size ≤ maxLen) ∧ (((Lit.int .i64 y.f1.f0).wf = true) ∧ ((Lit.int .i64 y.f1.f1).wf = true) ∧ (y.f1.f2.size ≤ maxLen)))) := by
  have h := OP.opens_struct Tryd.underlying33 (by kernel_rfl) (OP.fields_cons (f := _) rfl rfl op_T30 (OP.fields_cons (f := _) rfl rfl (OP.opens_string Tryd.underlying9 (by kernel_rfl)) (OP.fields_last (f := _) rfl rfl (OP.opens_slice Tryd.underlying31 (by kernel_rfl) op_T87)))) (fun x : S33 => (x.f0, x.f1, x.f2)) (fun y => (⟨y.1, y.2.1, y.2.2⟩ : S33)) (fun _ => rfl)
  exact h
theorem op_T36 : OP.Opens Tryd.prog 36 k36 (fun x : S36 => ((Lit.int .i64 x.f0).wf = true) ∧ (x.f1.size ≤ maxLen) ∧ ((((Lit.int .i64 x.f2.f0.f0).wf = true) ∧ ((Lit.int .i64 x.f2.f0.f1).wf = true) ∧ ((Lit.int .i64 x.f2.f0.f2).wf = true)) ∧ (x.f2.f1.size ≤ maxLen) ∧ (∀ y ∈ x.f2.f2, (y.f0.size ≤ maxLen) ∧ (((Lit.int .i64 y.f1.f0).wf = true) ∧ ((Lit.int .i64 y.f1.f1).wf = true) ∧ (y.f1.f2.size ≤ maxLen))))) := by
  have h := OP.opens_struct Tryd.underlying36 (by kernel_rfl) (OP.fields_cons (f := _) rfl rfl (OP.opens_int Tryd.underlying3 (by kernel_rfl)) (OP.fields_cons (f := _) rfl rfl (OP.opens_string Tryd.underlying9 (by kernel_rfl)) (OP.fields_last (f := _) rfl rfl op_T33))) (fun x : S36 => (x.f0, x.f1, x.f2)) (fun y => (⟨y.1, y.2.1, y.2.2⟩ : S36)) (fun _ => rfl)
  exact h
theorem op_T51 : OP.Opens Tryd.prog 51 k51 (fun x : S51 => ((Lit.int .i64 x.f0).wf = true) ∧ ((Lit.int .i64 x.f1).wf = true) ∧ (((Lit.int .i64 x.f2.f0).wf = true) ∧ (x.f2.f1.size ≤ maxLen) ∧ ((((Lit.int .i64 x.f2.f2.f0.f0).wf = true) ∧ ((Lit.int .i64 x.f2.f2.f0.f1).wf = true) ∧ ((Lit.int .i64 x.f2.f2.f0.f2).wf = true)) ∧ (x.f2.f2.f1.size ≤ maxLen) ∧ (∀ y ∈ x.f2.f2.f2, (y.f0.size ≤ maxLen) ∧ (((Lit.int .i64 y.f1.f0).wf = true) ∧ ((Lit.int .i64 y.f1.f1).wf = true) ∧ (y.f1.f2.size ≤ maxLen)))))) := by
  have h := OP.opens_struct Tryd.underlying51 (by kernel_rfl) (OP.fields_cons (f := _) rfl rfl (OP.opens_int Tryd.underlying3 (by kernel_rfl)) (OP.fields_cons (f := _) rfl rfl (OP.opens_int Tryd.underlying3 (by kernel_rfl)) (OP.fields_last (f := _) rfl rfl op_T36))) (fun x : S51 => (x.f0, x.f1, x.f2)) (fun y => (⟨y.1, y.2.1, y.2.2⟩ : S51)) (fun _ => rfl)
  exact h
theorem d_first : Rows.laid_unicode_utf8_first = Lib.firstData := by kernel_rfl
theorem d_accept : (Rows.laid_unicode_utf8_acceptRanges : DataW Unit) = Lib.acceptData := by kernel_rfl
/-- A world in which the two variables hold what their initialisers lay. -/
noncomputable def laidWorld (os : Os) : World :=
  let w0 := World.holding Tryd.prog os ⟨#[], #[], []⟩
  let put (h : Array Obj) (g : Nat) (cs : Array Value) : Array Obj := h.modify g fun
    | .cells _ t frozen => .cells cs t frozen
    | o => o
  let h1 := put w0.heap 1 ((List.range 16).flatMap fun i => [Value.int .u8 (Lib.accLo i), Value.int .u8 (Lib.accHi i)]).toArray
  let h2 := put h1 0 (Lib.firstTab.map fun z => Value.int .u8 z).toArray
  { w0 with heap := h2 }
theorem laid_met (os : Os) (args : Array Value) : laidMet Tryd.prog Rows.queuePlaysRow.laid ((laidWorld os).forCall (fun _ _ => 0) ⟨#[], args, []⟩).memory :=
  (LaidIn.of_run (l := Rows.queuePlaysRow.laid) [1, 0] 8 (by kernel_rfl) (by kernel_rfl) (by kernel_rfl) (by kernel_rfl)).met
theorem witness_row (os : Os) {H : Type} (enc : TypeId × Value → H) :
    (OpenSpec.ofChange Rows.queuePlaysSpec).preRow enc Tryd.prog Tryd.f5 Rows.queuePlaysRow.domain false Rows.queuePlaysRow.laid ((laidWorld os).forCall (fun _ _ => 0) ⟨#[], #[.int .i64 0, .slice none 0 0, .int .i64 0], []⟩).memory #[.int .i64 0, .slice none 0 0, .int .i64 0] := by
  have hw : (DataW.whole enc Tryd.prog ((laidWorld os).forCall (fun _ _ => 0) ⟨#[], #[.int .i64 0, .slice none 0 0, .int .i64 0], []⟩).memory Tryd.f5.params.toList (OpenSpec.ofChange Rows.queuePlaysSpec).vars false (#[.int .i64 0, .slice none 0 0, .int .i64 0] : Array Value).toList 8).map (fun x => (x.1, x.2.1)) =
      some ([.lit (.int .i64 0), .nil, .lit (.int .i64 0)], []) := by kernel_rfl
  obtain ⟨⟨x1, x2, x3⟩, hx, hx1⟩ := Option.map_eq_some_iff.1 hw
  simp only [Prod.mk.injEq] at hx1
  obtain ⟨rfl, rfl⟩ := hx1
  exact OpenSpec.preRow_of_cond 8 hx (by kernel_rfl) (fun k hk => by cases hk) (by kernel_rfl) (laid_met os _)
set_option maxRecDepth 100000 in
set_option maxHeartbeats 2000000 in
theorem lifted (os : Os) (started : os.Started) (H : Type) (enc : TypeId × Value → H) (F : Stop.Interp) :
    ReturnsInHanded {} Tryd.checked os 5 .any ((OpenSpec.ofChange Rows.queuePlaysSpec).preRow enc Tryd.prog Tryd.f5 Rows.queuePlaysRow.domain false Rows.queuePlaysRow.laid) (((OpenSpec.ofChange Rows.queuePlaysSpec).at F).post enc Tryd.prog Tryd.f5 false true false false) := by
  refine returnsInHanded_of_row (C := Tryd.checked) (s := OpenSpec.ofChange Rows.queuePlaysSpec) own started (by kernel_rfl) Tryd.func5
    (witness_row_atRef (enc := enc) (C := Tryd.checked) false (laidWorld os) #[.int .i64 0, .slice none 0 0, .int .i64 0] rfl (by kernel_rfl) (by kernel_rfl) (by kernel_rfl) (witness_row os enc)) ?_
  intro W base args ds gs before hval0 hW hcnd _ hsz0 hL hsh _
  have hsz : (DataW.weightsEach Tryd.prog (Tryd.f5.params.toList ++ Rows.queuePlaysSpec.plain.varTypes Tryd.prog) (ds ++ gs)).all (· ≤ reachBytes) = true := hsz0
  have hval : ∀ (j : Nat) t v, Tryd.f5.params[j]? = some t → args[j]? = some v → Value.okWide Tryd.prog W .any base t v := hval0
  have hW' := hW
  obtain ⟨p, q, hA0, hV, rfl, hfz, hnd⟩ := hW
  have hA : DataW.TrodAll enc Tryd.prog W 0 (fun _ => true) true Tryd.f5.params.toList args.toList ds p := hA0
  rw [Tryd.params5] at hA hval hsz
  obtain ⟨v0, vs0, d0, ds0, p0, q0, hargs, rfl, rfl, h0, r0⟩ := trodAll_cons hA
  obtain ⟨v1, vs1, d1, ds1, p1, q1, rfl, rfl, rfl, h1, r1⟩ := trodAll_cons r0
  obtain ⟨v2, vs2, d2, ds2, p2, q2, rfl, rfl, rfl, h2, r2⟩ := trodAll_cons r1
  obtain ⟨rfl, rfl, rfl⟩ := trodAll_nil r2
  obtain rfl : args = #[v0, v1, v2] := by cases args; simp_all
  obtain ⟨rfl, rfl⟩ := trodVars_none hV
  obtain ⟨a0, rfl, rfl, rfl, w0⟩ := open_int Tryd.underlying3 (hval 0 3 v0 rfl rfl) h0
  have k1 := h1
  have lt1 : ∀ x ∈ p1, x.block < W.heap.size := by obtain ⟨m, hm⟩ := k1; exact DataW.trod_lt m _ _ _ hm
  obtain ⟨A1, len1, c1, rfl⟩ := okWide_slice Tryd.underlying44 (hval 1 44 v1 rfl rfl)
  obtain ⟨fu1, hf1⟩ := h1
  obtain ⟨l1, ⟨B1, b1, hcs1, hc1, hr1⟩, g1⟩ := (OP.opens_slice Tryd.underlying44 (by kernel_rfl) op_T51).opens hf1
  obtain ⟨rfl, rfl, rfl⟩ : A1 = B1 ∧ len1 = l1.length ∧ c1 = b1 := by simpa [Value.cells] using hcs1
  have hm1 : l1.length ≤ maxLen := by have := Kd.C_max hr1; unfold maxLen; omega
  obtain ⟨a2, rfl, rfl, rfl, w2⟩ := open_int Tryd.underlying3 (hval 2 3 v2 rfl rfl) h2
  clear hA0 hval0 hsz0 hsz
  have htab : NC.TabW W := ⟨utf8Tabs_of_readsT (U8Types.of196 Tryd.lays196) ⟨by kernel_rfl, by kernel_rfl, by kernel_rfl, by kernel_rfl, by kernel_rfl, by kernel_rfl, by kernel_rfl⟩ (d_first ▸ Lib.laidMet.reads hL (.tail _ (.head _))) (d_accept ▸ Lib.laidMet.reads hL (.head _)), Tryd.laysM146.s1_3 W hsh⟩
  refine (QU.queuePlays.walk a0 A1 c1 l1 a2 W w0 hr1 hc1 g1 hm1 w2 htab).mono fun e W' ⟨he, bel⟩ => ?_
  subst he
  exact ⟨_, rfl, _, _, _, [], _, [], hW', trodAll_mk1 (shut_bool Tryd.underlying4 _), (trodAll_cons_mk (shut_int Tryd.underlying3 w0) (trodAll_cons_mk (Below.trod laidOut (by kernel_rfl) (of_decide_eq_true (by kernel_rfl)) k1 bel lt1) (trodAll_cons_mk (shut_int Tryd.underlying3 w2) trodAll_mk0))), rfl, bel.frame _, fun h => by cases h⟩
theorem over : Rows.queuePlaysRow.holds Tryd.pinned (OpenSpec.ofChange Rows.queuePlaysSpec) :=
  OpenClaim.holds_of_cond 5 Tryd.f5 rfl rfl rfl rfl rfl rfl rfl ⟨rfl, rfl, rfl, rfl, rfl⟩ rfl rfl rfl rfl rfl (by kernel_rfl) Tryd.func5 (by kernel_rfl)
    (of_decide_eq_true (by kernel_rfl)) (by unfold Func.isWrapper; first | (rw [if_neg (of_decide_eq_false (by kernel_rfl))]; exact ⟨rfl, rfl⟩) | (rw [if_pos (by decide +kernel)]; kernel_rfl))
    (fun os started H enc _ F0 => by rw [OpenClaim.pre_eq_preRow]; exact lifted os started H enc F0)
theorem proved : Rows.QueuePlaysCardSaid :=
  Claim7.holds_tied_plain_at .later [] [.data, .pinned] true (true, "55aa865feb53de91516af5520ead5775e1a14291e4af7dd65ff84fce261e2042") false
    over (fun _ h => by cases h) (by kernel_rfl) (fun _ h => by cases h) queuePlays_row_tie rfl ⟨rfl, rfl⟩ (by kernel_rfl) rfl
    (fun f fn hf hfn => by
      obtain rfl : f = 5 := Option.some.inj ((show Tryd.prog.funcNamed "caduceus/caduceuslaw18.QueuePlays" = some 5 by kernel_rfl).symm.trans hf) |>.symm
      obtain rfl : fn = Tryd.f5 := (Option.some.inj (Tryd.func5.symm.trans hfn)).symm
      exact ⟨by kernel_rfl, fun j t ht => by
        rw [Tryd.params5] at ht
        have hm := Array.mem_of_getElem? ht
        simp only [List.mem_toArray, List.mem_cons, List.not_mem_nil, or_false] at hm
        rcases hm with rfl | rfl | rfl
        · exact (show Tryd.prog.wantsStandIn 3 = false by kernel_rfl)
        · exact (show Tryd.prog.wantsStandIn 44 = false by kernel_rfl)
        · exact (show Tryd.prog.wantsStandIn 3 = false by kernel_rfl)⟩)
    (by kernel_rfl)
#print axioms proved
end Go.Proofs.YtmcochnofkjhaaaDoor.queuePlays
namespace Go.Proofs.YtmcochnofkjhaaaDoor
/-- The card, under a short name, for the claim. -/
theorem queuePlays_holds : Rows.QueuePlaysCardSaid := queuePlays.proved
end Go.Proofs.YtmcochnofkjhaaaDoor
