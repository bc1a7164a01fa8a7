/- DeleteFunc, the walk. By hand. -/
import Derived.Test.YtmcochnofkjhaaaDoorQt
namespace Go.Proofs.YtmcochnofkjhaaaDoor.QU
open Go.RowKit Go.Proofs.YtmcochnofkjhaaaDoorW.PrintWords Go.Proofs.YtmcochnofkjhaaaDoorW.PrintLast Go.Proofs.YtmcochnofkjhaaaDoorW.PrintMore Go.Proofs.YtmcochnofkjhaaaDoor.PAll
set_option linter.unusedVariables false
set_option linter.unusedSimpArgs false
set_option maxRecDepth 100000
/-- What DeleteFunc leaves: the row's own block alone has turned. -/
def DelOut (w : World) (v : Value) (l : List S36) (p : S36 → Bool) (ok : Nat → Prop) (e : Ending) (w' : World) : Prop :=
  ∃ v', e = .returned v' ∧ k36.R 36 w' 0 ok v' (l.filter (fun x => !p x)) ∧ (∀ k, v'.ownBlock = some k → v.ownBlock = some k) ∧ Mods (fun k => v.ownBlock = some k) w w'
set_option maxHeartbeats 8000000 in
theorem deleteFunc_none (fid : Nat) (caps : Array Value) (fn : Func) (hfn : Tryd.prog.funcs[fid]? = some fn) (hname : (fn.name == "runtime.NumGoroutine") = false) (hbody : fn.body.isSome = true) (p : S36 → Bool) {A : Option Addr} {c : Nat} {l : List S36} {w : World} {ok : Nat → Prop} (hr : k36.R 36 w 0 ok (.slice A l.length c) l) (hi : idxF p l 0 = -1)
    (hf : ∀ (W : World) (x : S36) (A : Option Addr) (c : Nat), Below w.heap.size w W → Calls Tryd.prog fid (#[.agg (gc x (.slice A x.f2.f2.length c))] ++ caps) W fun e W' => e = .returned (.bool (p x)) ∧ Below W.heap.size W W') :
    Calls Tryd.prog 28 #[.slice A l.length c, .func (.func fid) #[] caps] w (DelOut w (.slice A l.length c) l p ok) := by
  have HR := Aside0.mk hr
  have HI := Aside0.mk (idxF_none l 0 (Int.le_refl _) hi)
  have hcl := (Kd.R_reads' hr).2.1
  have hx := (indexFunc_plain fid caps fn hfn hname hbody p A c l w (Kd.R_reads' hr).2.2 hcl hf)
  rw [hi] at hx
  have HX := Aside0.mk hx
  clear hr hi hx hfn hname hbody hf
  go_enter Tryd.func28, Tryd.ntmps28
  go_wp2_with (((with_reducible refine gate_dst (N := 10) rfl ?_); refine goesL_ (some 10) rfl rfl Tryd.func40 (by kernel_rfl) rfl #[.slice A l.length c, .func (.func fid) #[] caps] rfl (by first | (simp only [List.map_toArray, List.map_cons, List.map_nil]; rfl) | rfl) ?_; refine (HX.out).mono ?_; rintro e w1 ⟨rfl, hb⟩; have HB := Aside0.mk hb; clear hb; refine ⟨_, rfl, ?_⟩))
  go_ret
  exact ⟨_, rfl, by rw [HI.out]; exact Kd.R_below HR.out HB.out, fun k hk => hk, Mods.of_below HB.out⟩
end Go.Proofs.YtmcochnofkjhaaaDoor.QU
