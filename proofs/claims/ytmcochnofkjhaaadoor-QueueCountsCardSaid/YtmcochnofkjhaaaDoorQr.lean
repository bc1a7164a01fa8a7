/- Forget's helpers: the closure, IndexFunc. By hand (IndexFunc out of the view layer's own). -/
import Derived.Test.YtmcochnofkjhaaaDoorQp
namespace Go.Proofs.YtmcochnofkjhaaaDoor.QU
open Go.RowKit Go.Proofs.YtmcochnofkjhaaaDoorW.PrintWords Go.Proofs.YtmcochnofkjhaaaDoorW.PrintLast Go.Proofs.YtmcochnofkjhaaaDoorW.PrintMore Go.Proofs.YtmcochnofkjhaaaDoor.PAll
set_option linter.unusedVariables false
set_option linter.unusedSimpArgs false
set_option maxRecDepth 100000
def idxF (p : S36 → Bool) : List S36 → Int → Int
  | [], _ => -1
  | x :: l, i => if p x then i else idxF p l (i + 1)
theorem rdM_drop {l : List S36} {i : Nat} {x : S36} {r : List S36} (h : l.drop i = x :: r) : rd_T36 l (i : Int) = x ∧ i < l.length ∧ l.drop (i + 1) = r := by
  have hi : i < l.length := by
    rcases Nat.lt_or_ge i l.length with g | g
    · exact g
    · rw [List.drop_eq_nil_of_le g] at h; cases h
  rw [List.drop_eq_getElem_cons hi] at h
  injection h with h1 h2
  refine ⟨?_, hi, h2⟩
  unfold rd_T36
  rw [Int.toNat_natCast, List.getD_eq_getElem?_getD, List.getElem?_eq_getElem hi]
  exact h1

section
variable {P : Program} {ops : Array Oper} {Q : Exit → Act → World → Prop}
/-- The operation is a call of the function value in this slot (a cheap look ahead of a dear step). -/
theorem gate_value {rest : List Oper} {o : Oper} {a : Act} {W : World} {s : Tmp} {ars : Array Operand} {ts : Array TypeId} (_ho : o.op = .call { callee := .value (.tmp s), args := ars, argTypes := ts }) (h : wpList P ops Q (o :: rest) a W) : wpList P ops Q (o :: rest) a W := h
/-- A call of a function value that a slot holds, as an arm of go_wp2_with. -/
theorem goesV_ {rest : List Oper} {oi : Oper} {a : Act} {w : World} (N : Option Tmp) (hd : oi.dst = N) (hg : oi.guard = none) {f : FuncId} {fn : Func} {ars : Array Operand} {ts : Array TypeId} (hf : P.funcs[f]? = some fn) (hname : (fn.name == "runtime.NumGoroutine") = false) (hb : fn.body.isSome = true) {s : Tmp} {caps : Array Value} (args : Array Value)
    (hop : oi.op = .call { callee := .value (.tmp s), args := ars, argTypes := ts }) (hs : a.eval (.tmp s) = .func (.func f) #[] caps) (hargs : ars.map a.eval = args)
    (h : Calls P f (args ++ caps) w fun e w' => ∃ v, e = .returned v ∧ wpList P ops Q rest (a.put N v) w') : wpList P ops Q (oi :: rest) a w := by
  refine wpList_plain hg fun K hK => ?_
  have he := enters_ hf hname hb (args ++ caps) w
  have hrun : (execOp a.eval oi).run P w = .ok (.enter f (args ++ caps)) w := by
    unfold execOp
    simp [hop, resolve, Deferred.ofValue, invoke, hs, hargs, he]
  unfold Oper.wp
  rw [hrun, Oper.upon_enter]
  refine h.mono fun e w'' hh => ?_
  obtain ⟨v, rfl, hk⟩ := hh
  subst hd
  exact hK _ _ hk
end

set_option maxHeartbeats 4000000 in
set_option maxRecDepth 100000 in
theorem indexFunc_plain (fid : Nat) (caps : Array Value) (fn : Func) (hfn : Tryd.prog.funcs[fid]? = some fn) (hname : (fn.name == "runtime.NumGoroutine") = false) (hbody : fn.body.isSome = true) (p : S36 → Bool) (A0 : Option Addr) (c0 : Nat) (l0 : List S36) (w : World) (hr0 : Kd.C k36 w A0 l0.length l0) (hc0 : l0.length ≤ c0)
    (hf : ∀ (W : World) (x : S36) (A : Option Addr) (c : Nat), Below w.heap.size w W → Calls Tryd.prog fid (#[.agg #[.int .i64 x.f0, .string x.f1, .int .i64 x.f2.f0.f0, .int .i64 x.f2.f0.f1, .int .i64 x.f2.f0.f2, .string x.f2.f1, .slice A x.f2.f2.length c]] ++ caps) W fun e W' => e = .returned (.bool (p x)) ∧ Below W.heap.size W W') :
    Calls Tryd.prog 40 #[.slice A0 l0.length c0, .func (.func fid) #[] caps] w fun e w' => e = .returned (.int .i64 (idxF p l0 0)) ∧ Below w.heap.size w w' := by
  have hu36 := Tryd.underlying36
  have hu33 := Tryd.underlying33
  have hu30 := Tryd.underlying30
  have HR0 := Aside0.mk hr0
  have HC0 := Aside0.mk hc0
  have HF := Aside0.mk hf
  have HFN := Aside0.mk (And.intro hfn (And.intro hname hbody))
  clear hr0 hc0 hf hfn hname hbody
  have HB := Aside0.mk (Below.refl w.heap.size w)
  have HM := Aside0.mk (Kd.C_max HR0.out)
  go_enter Tryd.func40, Tryd.ntmps40
  go_wp2
  go_loopg [8] l0.length (fun kq v8 w' => ∃ (i : Nat) (r : List S36), v8 = .int .i64 i ∧ Aside0 (l0.drop i = r ∧ i + kq = l0.length) ∧ Aside0 (idxF p r i = idxF p l0 0) ∧ Aside0 (Below w.heap.size w w'))
  case atStart => exact ⟨0, l0, rfl, ⟨rfl, by omega⟩, ⟨rfl⟩, HB⟩
  case round =>
    obtain ⟨i, r, rfl, HD, HI, HB⟩ := hrel
    have hd := HD.out.1
    have hk := HD.out.2
    clear HD
    cases r with
    | nil =>
      have hle : l0.length ≤ i := List.drop_eq_nil_iff.1 hd
      have c1 : decide ((i : Int) < (l0.length : Int)) = false := decide_eq_false (by omega)
      have c2 : decide (i < l0.length) = false := decide_eq_false (by omega)
      have HI2 : idxF p l0 0 = -1 := HI.out.symm
      clear hd hk hle HI
      have HI := Aside0.mk HI2
      clear HI2
      go_wp2
      go_ret
      exact ⟨by rw [HI.out]; rfl, HB.out⟩
    | cons x r =>
      obtain ⟨hx, hi, hd2⟩ := rdM_drop hd
      obtain ⟨k1, rfl⟩ : ∃ m, gk = m + 1 := ⟨gk - 1, by omega⟩
      have c1 : decide ((i : Int) < (l0.length : Int)) = true := decide_eq_true (by omega)
      have c2 : decide (i < l0.length) = true := decide_eq_true (by omega)
      have q0 : 0 ≤ (i : Int) := by omega
      have q1 : (i : Int) < (l0.length : Int) := by omega
      obtain ⟨ad155, A6, c6, e155, hx155_0, hx155_1, hx155_2, hx155_3, hx155_4, hx155_5, hx155_6, _, _⟩ := at_T36 HR0.out (i : Int) q0 q1
      cases e155
      rw [hx, Int.toNat_natCast] at hx155_0 hx155_1 hx155_2 hx155_3 hx155_4 hx155_5 hx155_6
      replace hx155_0 := (HB.out.cell (World.block_lt_of_cell? w _ hx155_0)).trans hx155_0
      replace hx155_1 := (HB.out.cell (World.block_lt_of_cell? w _ hx155_1)).trans hx155_1
      replace hx155_2 := (HB.out.cell (World.block_lt_of_cell? w _ hx155_2)).trans hx155_2
      replace hx155_3 := (HB.out.cell (World.block_lt_of_cell? w _ hx155_3)).trans hx155_3
      replace hx155_4 := (HB.out.cell (World.block_lt_of_cell? w _ hx155_4)).trans hx155_4
      replace hx155_5 := (HB.out.cell (World.block_lt_of_cell? w _ hx155_5)).trans hx155_5
      replace hx155_6 := (HB.out.cell (World.block_lt_of_cell? w _ hx155_6)).trans hx155_6
      have hm := HM.out
      have hsum : wrap64 ((i : Int) + 1) = ((i + 1 : Nat) : Int) := by unfold wrap64; omega
      have HS := Aside0.mk hsum
      have HD2 := Aside0.mk hd2
      have HK := Aside0.mk hk
      have HIL := Aside0.mk hi
      clear hd hd2 hk hx hsum hm
      by_cases hp : p x = true
      · have HI2 : idxF p l0 0 = (i : Int) := by rw [← HI.out]; simp [idxF, hp]
        have HC := Aside0.mk (HF.out wr x A6 c6 HB.out)
        rw [hp] at HC
        clear hp HI
        have HI := Aside0.mk HI2
        clear HI2
        go_wp2_with (first | ((with_reducible refine gate_value (s := 11) rfl ?_); refine goesV_ (some 16) rfl rfl HFN.out.1 HFN.out.2.1 HFN.out.2.2 #[.agg #[.int .i64 x.f0, .string x.f1, .int .i64 x.f2.f0.f0, .int .i64 x.f2.f0.f1, .int .i64 x.f2.f0.f2, .string x.f2.f1, .slice A6 x.f2.f2.length c6]] rfl rfl (by (try simp only [List.map_toArray, List.map_cons, List.map_nil]); first | done | rfl) ?_; refine HC.out.mono ?_; rintro e w7 ⟨rfl, hb⟩; refine ⟨_, rfl, ?_⟩; have n0_ := Aside0.mk (below_step HB.out hb); clear HB; have HB := n0_; clear n0_ hb))
        go_ret
        exact ⟨by rw [HI.out]; rfl, HB.out⟩
      · have hp2 : p x = false := by simpa using hp
        have HI2 : idxF p r (((i + 1 : Nat) : Int)) = idxF p l0 0 := by rw [← HI.out]; simp only [idxF, hp2]; simp
        have HC := Aside0.mk (HF.out wr x A6 c6 HB.out)
        rw [hp2] at HC
        clear hp hp2 HI
        have HI := Aside0.mk HI2
        clear HI2
        go_wp2_with (first | ((with_reducible refine gate_value (s := 11) rfl ?_); refine goesV_ (some 16) rfl rfl HFN.out.1 HFN.out.2.1 HFN.out.2.2 #[.agg #[.int .i64 x.f0, .string x.f1, .int .i64 x.f2.f0.f0, .int .i64 x.f2.f0.f1, .int .i64 x.f2.f0.f2, .string x.f2.f1, .slice A6 x.f2.f2.length c6]] rfl rfl (by (try simp only [List.map_toArray, List.map_cons, List.map_nil]); first | done | rfl) ?_; refine HC.out.mono ?_; rintro e w7 ⟨rfl, hb⟩; refine ⟨_, rfl, ?_⟩; have n0_ := Aside0.mk (below_step HB.out hb); clear HB; have HB := n0_; clear n0_ hb))
        go_roundg k1
        case measure => omega
        case rel => exact ⟨i + 1, r, by rw [← HS.out], ⟨HD2.out, by have := HK.out; have := HIL.out; omega⟩, HI, HB⟩
/-- The closure: is it of this subscription? -/
theorem clos_is (w : World) (G : S36) (A : Option Addr) (c b : Nat) (sub : Int) (hb : w.heap[b]? = some (.cells #[.int .i64 sub] 3 (0, 0))) :
    Calls Tryd.prog 29 #[.agg (gc G (.slice A G.f2.f2.length c)), .pointer (some ⟨b, 0, none⟩)] w fun e w' => e = .returned (.bool (G.f0 == sub)) ∧ Below w.heap.size w w' := by
  have HH := Aside0.mk hb
  clear hb
  unfold gc
  go_enter Tryd.func29, Tryd.ntmps29
  go_wp2_with (((with_reducible refine gate_dst (N := 2) rfl ?_); refine box_event ?hg (N := 2) ?hd (cs := #[.int .i64 G.f0, .string G.f1, .int .i64 G.f2.f0.f0, .int .i64 G.f2.f0.f1, .int .i64 G.f2.f0.f2, .string G.f2.f1, .slice A G.f2.f2.length c]) (t := 36) ?hr ?_; (case hd => rfl); (case hg => rfl); (case hr => first | (go_simp; done) | (go_simp; rfl)); intro gb hgb w1 kgb bgb; have Ggb := Aside0.mk hgb; clear hgb; have HB := Aside0.mk bgb; have c0 := (blk_cell kgb 0).trans (show (gc G (.slice A G.f2.f2.length c))[0]? = some (.int .i64 G.f0) from rfl); have d0 : w1.cell? ⟨b, 0, none⟩ = some (.int .i64 sub) := (blk_cell (keepB HH.out bgb) 0).trans rfl; clear bgb kgb))
  go_ret
  exact ⟨rfl, HB.out⟩
end Go.Proofs.YtmcochnofkjhaaaDoor.QU
