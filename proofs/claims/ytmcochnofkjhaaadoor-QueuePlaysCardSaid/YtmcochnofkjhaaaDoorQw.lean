import Derived.Test.YtmcochnofkjhaaaDoorQp
import Derived.Laws.IdiomCopy
/- Forget's helpers: the closure, IndexFunc. By hand (IndexFunc out of the view layer's own). -/
namespace Go.Proofs.YtmcochnofkjhaaaDoor.QU
open Go.RowKit Go.Proofs.YtmcochnofkjhaaaDoorW.PrintWords Go.Proofs.YtmcochnofkjhaaaDoorW.PrintLast Go.Proofs.YtmcochnofkjhaaaDoorW.PrintMore Go.Proofs.YtmcochnofkjhaaaDoor.PAll
set_option linter.unusedVariables false
set_option linter.unusedSimpArgs false
set_option maxRecDepth 100000
def idxF (p : S36 → Bool) : List S36 → Int → Int
  | [], _ => -1
  | x :: l, i => if p x then i else idxF p l (i + 1)
theorem rdM_drop {l : List S36} {i : Nat} {x : S36} {r : List S36} (h : l.drop i = x :: r) : rd_T36 l (i : Int) = x ∧ i < l.length ∧ l.drop (i + 1) = r := by
  have hi : i < l.length := by
    rcases Nat.lt_or_ge i l.length with g | g
    · exact g
    · rw [List.drop_eq_nil_of_le g] at h; cases h
  rw [List.drop_eq_getElem_cons hi] at h
  injection h with h1 h2
  refine ⟨?_, hi, h2⟩
  unfold rd_T36
  rw [Int.toNat_natCast, List.getD_eq_getElem?_getD, List.getElem?_eq_getElem hi]
  exact h1

section
variable {P : Program} {ops : Array Oper} {Q : Exit → Act → World → Prop}
/-- The operation is a call of the function value in this slot (a cheap look ahead of a dear step). -/
theorem gate_value {rest : List Oper} {o : Oper} {a : Act} {W : World} {s : Tmp} {ars : Array Operand} {ts : Array TypeId} (_ho : o.op = .call { callee := .value (.tmp s), args := ars, argTypes := ts }) (h : wpList P ops Q (o :: rest) a W) : wpList P ops Q (o :: rest) a W := h
/-- A call of a function value that a slot holds, as an arm of go_wp2_with. -/
theorem goesV_ {rest : List Oper} {oi : Oper} {a : Act} {w : World} (N : Option Tmp) (hd : oi.dst = N) (hg : oi.guard = none) {f : FuncId} {fn : Func} {ars : Array Operand} {ts : Array TypeId} (hf : P.funcs[f]? = some fn) (hname : (fn.name == "runtime.NumGoroutine") = false) (hb : fn.body.isSome = true) {s : Tmp} {caps : Array Value} (args : Array Value)
    (hop : oi.op = .call { callee := .value (.tmp s), args := ars, argTypes := ts }) (hs : a.eval (.tmp s) = .func (.func f) #[] caps) (hargs : ars.map a.eval = args)
    (h : Calls P f (args ++ caps) w fun e w' => ∃ v, e = .returned v ∧ wpList P ops Q rest (a.put N v) w') : wpList P ops Q (oi :: rest) a w := by
  refine wpList_plain hg fun K hK => ?_
  have he := enters_ hf hname hb (args ++ caps) w
  have hrun : (execOp a.eval oi).run P w = .ok (.enter f (args ++ caps)) w := by
    unfold execOp
    simp [hop, resolve, Deferred.ofValue, invoke, hs, hargs, he]
  unfold Oper.wp
  rw [hrun, Oper.upon_enter]
  refine h.mono fun e w'' hh => ?_
  obtain ⟨v, rfl, hk⟩ := hh
  subst hd
  exact hK _ _ hk
end

set_option maxHeartbeats 4000000 in
set_option maxRecDepth 100000 in
theorem indexFunc_plain (fid : Nat) (caps : Array Value) (fn : Func) (hfn : Tryd.prog.funcs[fid]? = some fn) (hname : (fn.name == "runtime.NumGoroutine") = false) (hbody : fn.body.isSome = true) (p : S36 → Bool) (A0 : Option Addr) (c0 : Nat) (l0 : List S36) (w : World) (hr0 : Kd.C k36 w A0 l0.length l0) (hc0 : l0.length ≤ c0)
    (hf : ∀ (W : World) (x : S36) (A : Option Addr) (c : Nat), Below w.heap.size w W → Calls Tryd.prog fid (#[.agg #[.int .i64 x.f0, .string x.f1, .int .i64 x.f2.f0.f0, .int .i64 x.f2.f0.f1, .int .i64 x.f2.f0.f2, .string x.f2.f1, .slice A x.f2.f2.length c]] ++ caps) W fun e W' => e = .returned (.bool (p x)) ∧ Below W.heap.size W W') :
    Calls Tryd.prog 40 #[.slice A0 l0.length c0, .func (.func fid) #[] caps] w fun e w' => e = .returned (.int .i64 (idxF p l0 0)) ∧ Below w.heap.size w w' := by
  have hu36 := Tryd.underlying36
  have hu33 := Tryd.underlying33
  have hu30 := Tryd.underlying30
  have HR0 := Aside0.mk hr0
  have HC0 := Aside0.mk hc0
  have HF := Aside0.mk hf
  have HFN := Aside0.mk (And.intro hfn (And.intro hname hbody))
  clear hr0 hc0 hf hfn hname hbody
  have HB := Aside0.mk (Below.refl w.heap.size w)
  have HM := Aside0.mk (Kd.C_max HR0.out)
  go_enter Tryd.func40, Tryd.ntmps40
  go_wp2
  go_loopg [8] l0.length (fun kq v8 w' => ∃ (i : Nat) (r : List S36), v8 = .int .i64 i ∧ Aside0 (l0.drop i = r ∧ i + kq = l0.length) ∧ Aside0 (idxF p r i = idxF p l0 0) ∧ Aside0 (Below w.heap.size w w'))
  case atStart => exact ⟨0, l0, rfl, ⟨rfl, by omega⟩, ⟨rfl⟩, HB⟩
  case round =>
    obtain ⟨i, r, rfl, HD, HI, HB⟩ := hrel
    have hd := HD.out.1
    have hk := HD.out.2
    clear HD
    cases r with
    | nil =>
      have hle : l0.length ≤ i := List.drop_eq_nil_iff.1 hd
      have c1 : decide ((i : Int) < (l0.length : Int)) = false := decide_eq_false (by omega)
      have c2 : decide (i < l0.length) = false := decide_eq_false (by omega)
      have HI2 : idxF p l0 0 = -1 := HI.out.symm
      clear hd hk hle HI
      have HI := Aside0.mk HI2
      clear HI2
      go_wp2
      go_ret
      exact ⟨by rw [HI.out]; rfl, HB.out⟩
    | cons x r =>
      obtain ⟨hx, hi, hd2⟩ := rdM_drop hd
      obtain ⟨k1, rfl⟩ : ∃ m, gk = m + 1 := ⟨gk - 1, by omega⟩
      have c1 : decide ((i : Int) < (l0.length : Int)) = true := decide_eq_true (by omega)
      have c2 : decide (i < l0.length) = true := decide_eq_true (by omega)
      have q0 : 0 ≤ (i : Int) := by omega
      have q1 : (i : Int) < (l0.length : Int) := by omega
      obtain ⟨ad155, A6, c6, e155, hx155_0, hx155_1, hx155_2, hx155_3, hx155_4, hx155_5, hx155_6, _, _⟩ := at_T36 HR0.out (i : Int) q0 q1
      cases e155
      rw [hx, Int.toNat_natCast] at hx155_0 hx155_1 hx155_2 hx155_3 hx155_4 hx155_5 hx155_6
      replace hx155_0 := (HB.out.cell (World.block_lt_of_cell? w _ hx155_0)).trans hx155_0
      replace hx155_1 := (HB.out.cell (World.block_lt_of_cell? w _ hx155_1)).trans hx155_1
      replace hx155_2 := (HB.out.cell (World.block_lt_of_cell? w _ hx155_2)).trans hx155_2
      replace hx155_3 := (HB.out.cell (World.block_lt_of_cell? w _ hx155_3)).trans hx155_3
      replace hx155_4 := (HB.out.cell (World.block_lt_of_cell? w _ hx155_4)).trans hx155_4
      replace hx155_5 := (HB.out.cell (World.block_lt_of_cell? w _ hx155_5)).trans hx155_5
      replace hx155_6 := (HB.out.cell (World.block_lt_of_cell? w _ hx155_6)).trans hx155_6
      have hm := HM.out
      have hsum : wrap64 ((i : Int) + 1) = ((i + 1 : Nat) : Int) := by unfold wrap64; omega
      have HS := Aside0.mk hsum
      have HD2 := Aside0.mk hd2
      have HK := Aside0.mk hk
      have HIL := Aside0.mk hi
      clear hd hd2 hk hx hsum hm
      by_cases hp : p x = true
      · have HI2 : idxF p l0 0 = (i : Int) := by rw [← HI.out]; simp [idxF, hp]
        have HC := Aside0.mk (HF.out wr x A6 c6 HB.out)
        rw [hp] at HC
        clear hp HI
        have HI := Aside0.mk HI2
        clear HI2
        go_wp2_with (first | ((with_reducible refine gate_value (s := 11) rfl ?_); refine goesV_ (some 16) rfl rfl HFN.out.1 HFN.out.2.1 HFN.out.2.2 #[.agg #[.int .i64 x.f0, .string x.f1, .int .i64 x.f2.f0.f0, .int .i64 x.f2.f0.f1, .int .i64 x.f2.f0.f2, .string x.f2.f1, .slice A6 x.f2.f2.length c6]] rfl rfl (by (try simp only [List.map_toArray, List.map_cons, List.map_nil]); first | done | rfl) ?_; refine HC.out.mono ?_; rintro e w7 ⟨rfl, hb⟩; refine ⟨_, rfl, ?_⟩; have n0_ := Aside0.mk (below_step HB.out hb); clear HB; have HB := n0_; clear n0_ hb))
        go_ret
        exact ⟨by rw [HI.out]; rfl, HB.out⟩
      · have hp2 : p x = false := by simpa using hp
        have HI2 : idxF p r (((i + 1 : Nat) : Int)) = idxF p l0 0 := by rw [← HI.out]; simp only [idxF, hp2]; simp
        have HC := Aside0.mk (HF.out wr x A6 c6 HB.out)
        rw [hp2] at HC
        clear hp hp2 HI
        have HI := Aside0.mk HI2
        clear HI2
        go_wp2_with (first | ((with_reducible refine gate_value (s := 11) rfl ?_); refine goesV_ (some 16) rfl rfl HFN.out.1 HFN.out.2.1 HFN.out.2.2 #[.agg #[.int .i64 x.f0, .string x.f1, .int .i64 x.f2.f0.f0, .int .i64 x.f2.f0.f1, .int .i64 x.f2.f0.f2, .string x.f2.f1, .slice A6 x.f2.f2.length c6]] rfl rfl (by (try simp only [List.map_toArray, List.map_cons, List.map_nil]); first | done | rfl) ?_; refine HC.out.mono ?_; rintro e w7 ⟨rfl, hb⟩; refine ⟨_, rfl, ?_⟩; have n0_ := Aside0.mk (below_step HB.out hb); clear HB; have HB := n0_; clear n0_ hb))
        go_roundg k1
        case measure => omega
        case rel => exact ⟨i + 1, r, by rw [← HS.out], ⟨HD2.out, by have := HK.out; have := HIL.out; omega⟩, HI, HB⟩
/-- The closure: is it of this subscription? -/
theorem clos_is (w : World) (G : S36) (A : Option Addr) (c b : Nat) (sub : Int) (hb : w.heap[b]? = some (.cells #[.int .i64 sub] 3 (0, 0))) :
    Calls Tryd.prog 29 #[.agg (gc G (.slice A G.f2.f2.length c)), .pointer (some ⟨b, 0, none⟩)] w fun e w' => e = .returned (.bool (G.f0 == sub)) ∧ Below w.heap.size w w' := by
  have HH := Aside0.mk hb
  clear hb
  unfold gc
  go_enter Tryd.func29, Tryd.ntmps29
  go_wp2_with (((with_reducible refine gate_dst (N := 2) rfl ?_); refine box_event ?hg (N := 2) ?hd (cs := #[.int .i64 G.f0, .string G.f1, .int .i64 G.f2.f0.f0, .int .i64 G.f2.f0.f1, .int .i64 G.f2.f0.f2, .string G.f2.f1, .slice A G.f2.f2.length c]) (t := 36) ?hr ?_; (case hd => rfl); (case hg => rfl); (case hr => first | (go_simp; done) | (go_simp; rfl)); intro gb hgb w1 kgb bgb; have Ggb := Aside0.mk hgb; clear hgb; have HB := Aside0.mk bgb; have c0 := (blk_cell kgb 0).trans (show (gc G (.slice A G.f2.f2.length c))[0]? = some (.int .i64 G.f0) from rfl); have d0 : w1.cell? ⟨b, 0, none⟩ = some (.int .i64 sub) := (blk_cell (keepB HH.out bgb) 0).trans rfl; clear bgb kgb))
  go_ret
  exact ⟨rfl, HB.out⟩
end Go.Proofs.YtmcochnofkjhaaaDoor.QU
/- DeleteFunc, plain: what its loop keeps. By hand. -/
namespace Go.Proofs.YtmcochnofkjhaaaDoor.QU
open Go.RowKit Go.Proofs.YtmcochnofkjhaaaDoorW.PrintWords Go.Proofs.YtmcochnofkjhaaaDoorW.PrintLast Go.Proofs.YtmcochnofkjhaaaDoorW.PrintMore Go.Proofs.YtmcochnofkjhaaaDoor.PAll
set_option linter.unusedVariables false
/-- The loop's state: the row xs, where the next one goes (i), where it looks (j). -/
structure DelI (p : S36 → Bool) (l xs : List S36) (i j : Nat) : Prop where
  len : xs.length = l.length
  le : i ≤ j
  lj : j ≤ l.length
  pre : xs.take i = (l.take j).filter (fun x => !p x)
  post : xs.drop j = l.drop j
theorem take_set_next (xs : List S36) (i : Nat) (x : S36) (h : i < xs.length) : (xs.set i x).take (i + 1) = xs.take i ++ [x] := by
  rw [List.take_add_one, List.take_set_of_le (Nat.le_refl i), List.getElem?_set_self h]
  rfl
theorem drop_set_later (xs : List S36) (i j : Nat) (x : S36) (h : i < j) : (xs.set i x).drop j = xs.drop j := by
  rw [List.drop_set, if_pos h]
theorem DelI.skip {p : S36 → Bool} {l xs : List S36} {i j : Nat} (h : DelI p l xs i j) (hj : j < l.length) (hp : p l[j] = true) : DelI p l xs i (j + 1) := by
  refine ⟨h.len, by have := h.le; omega, by omega, ?_, ?_⟩
  · rw [h.pre, List.take_add_one, List.filter_append, List.getElem?_eq_getElem hj]
    simp [hp]
  · have := congrArg (List.drop 1) h.post
    simpa [List.drop_drop] using this
theorem DelI.keep {p : S36 → Bool} {l xs : List S36} {i j : Nat} (h : DelI p l xs i j) (hj : j < l.length) (hp : p l[j] = false) : DelI p l (xs.set i l[j]) (i + 1) (j + 1) := by
  have hl := h.len
  have hle := h.le
  refine ⟨by rw [List.length_set]; exact hl, by omega, by omega, ?_, ?_⟩
  · rw [take_set_next _ _ _ (by omega), h.pre, List.take_add_one, List.filter_append, List.getElem?_eq_getElem hj]
    simp [hp]
  · rw [drop_set_later _ _ _ _ (by omega)]
    have := congrArg (List.drop 1) h.post
    simpa [List.drop_drop] using this
theorem DelI.done {p : S36 → Bool} {l xs : List S36} {i : Nat} (h : DelI p l xs i l.length) : xs.take i = l.filter (fun x => !p x) := by
  rw [h.pre, List.take_length]
theorem idxF_none {p : S36 → Bool} : ∀ (l : List S36) (i : Int), 0 ≤ i → idxF p l i = -1 → l.filter (fun x => !p x) = l
  | [], _, _, _ => rfl
  | x :: l, i, h0, h => by
    unfold idxF at h
    cases hp : p x with
    | true => rw [hp, if_pos rfl] at h; omega
    | false =>
      rw [hp] at h
      rw [List.filter_cons_of_pos (by simp [hp]), idxF_none l (i + 1) (by omega) (by simpa using h)]
theorem idxF_some {p : S36 → Bool} : ∀ (l : List S36) (i : Int), 0 ≤ i → idxF p l i ≠ -1 → ∃ n : Nat, idxF p l i = i + n ∧ ∃ h : n < l.length, p l[n] = true ∧ (l.take n).filter (fun x => !p x) = l.take n
  | [], _, _, h => absurd rfl h
  | x :: l, i, h0, h => by
    unfold idxF at h ⊢
    cases hp : p x with
    | true => exact ⟨0, by simp, by simp, by simpa using hp, rfl⟩
    | false =>
      rw [hp] at h
      obtain ⟨n, h1, h2, h3, h4⟩ := idxF_some l (i + 1) (by omega) (by simpa using h)
      refine ⟨n + 1, by rw [if_neg (by simp), h1]; omega, by simp; omega, by simpa using h3, ?_⟩
      rw [List.take_succ_cons, List.filter_cons_of_pos (by simp [hp]), h4]
end Go.Proofs.YtmcochnofkjhaaaDoor.QU
/- 'clear' of a row of structs. By hand. -/
namespace Go.Proofs.YtmcochnofkjhaaaDoor.QU
open Go.RowKit Go.Proofs.YtmcochnofkjhaaaDoorW.PrintWords Go.Proofs.YtmcochnofkjhaaaDoorW.PrintLast Go.Proofs.YtmcochnofkjhaaaDoorW.PrintMore Go.Proofs.YtmcochnofkjhaaaDoor.PAll
set_option linter.unusedVariables false
theorem run_clear_rows {P : Program} (w : World) (t e ty : TypeId) (z : Value) (ht : P.underlying t = some (.slice e)) (hv : ∀ w, (zeroValue e).run P w = .ok z w) (b o n c : Nat) (hn : 0 < n)
    (h1 : ∀ v ∈ (Builtin.zeroCells z.cells n).toList, v.oneCell' = true)
    (hc : ∀ j, j < (Builtin.zeroCells z.cells n).toList.length → (w.cell? ⟨b, o + j, none⟩).isSome = true) (hf : ∀ j, j < (Builtin.zeroCells z.cells n).toList.length → w.frozen? ⟨b, o + j, none⟩ = false) :
    (Builtin.clear_ #[t] ty #[.slice (some ⟨b, o, none⟩) n c]).run P w = .ok (.tuple #[]) (w.setCells b o (Builtin.zeroCells z.cells n).toList) := by
  have hst := Go.run_storeCells_cells (P := P) b o (Builtin.zeroCells z.cells n).toList 0 w (by simpa using hc) (by simpa using hf) h1
  simp only [Nat.add_zero] at hst
  obtain ⟨m, rfl⟩ : ∃ m, n = m + 1 := ⟨n - 1, by omega⟩
  simp [Builtin.clear_, run_underlying ht, hv, hst]
theorem zeroCells_len (z : Value) (n : Nat) : (Builtin.zeroCells z.cells n).toList.length = n * z.cells.size := by
  simp [Builtin.zeroCells]
/-- Behind the last element cells have been written. -/
theorem R_behind {α : Type} {d : Kd α} {e i cap g base : Nat} {W : World} {ok : Nat → Prop} {xs : List α} (h : d.R e W base ok (.slice (some ⟨g, 0, none⟩) i cap) xs) (zs : List Value) (hz : i * d.sz + zs.length ≤ cap * d.sz) :
    d.R e (W.setCells g (i * d.sz) zs) base ok (.slice (some ⟨g, 0, none⟩) i cap) xs := by
  have hn : i = xs.length := (Kd.R_reads' h).1
  obtain ⟨hok, inner, ho, hr⟩ := h
  obtain ⟨ho1, ho2⟩ := ho
  rcases ho2 with ⟨hv, _⟩ | ⟨g', cap', cur, hv, hb, hh, hnc', hcm, hcs, ht⟩
  · cases hv
  injection hv with ha _ hc
  injection ha with ha
  injection ha with hg
  subst hg; subst hc
  obtain ⟨cur', h3, h4, h5⟩ := setCells_row zs (i * d.sz) W cur hh (by omega)
  refine ⟨hok, inner, ⟨ho1, .inr ⟨g, cap, cur', by rw [hn], hb, h3, hnc', hcm, by rw [h4, hcs], ?_⟩⟩, ?_⟩
  · rw [← ht, h5, ← hn]
    have hle : (cur.toList.take (i * d.sz)).length = i * d.sz := by rw [List.length_take, Array.length_toList]; omega
    rw [List.append_assoc, List.take_append_of_le_length (by omega), List.take_take, Nat.min_self]
  · exact hr.imp_ (fun _ _ hp => Kd.M_step hp (fun k hk _ => setCells_far zs _ k (fun e => hk.2 (by rw [e]; rfl))))
end Go.Proofs.YtmcochnofkjhaaaDoor.QU
/- DeleteFunc, the walk. By hand. -/
namespace Go.Proofs.YtmcochnofkjhaaaDoor.QU
open Go.RowKit Go.Proofs.YtmcochnofkjhaaaDoorW.PrintWords Go.Proofs.YtmcochnofkjhaaaDoorW.PrintLast Go.Proofs.YtmcochnofkjhaaaDoorW.PrintMore Go.Proofs.YtmcochnofkjhaaaDoor.PAll
set_option linter.unusedVariables false
set_option linter.unusedSimpArgs false
set_option maxRecDepth 100000
/-- What DeleteFunc leaves: the row's own block alone has turned. -/
def DelOut (w : World) (v : Value) (l : List S36) (p : S36 → Bool) (ok : Nat → Prop) (e : Ending) (w' : World) : Prop :=
  ∃ v', e = .returned v' ∧ k36.R 36 w' 0 ok v' (l.filter (fun x => !p x)) ∧ (∀ k, v'.ownBlock = some k → v.ownBlock = some k) ∧ Mods (fun k => v.ownBlock = some k) w w'
set_option maxHeartbeats 8000000 in
theorem deleteFunc_none (fid : Nat) (caps : Array Value) (fn : Func) (hfn : Tryd.prog.funcs[fid]? = some fn) (hname : (fn.name == "runtime.NumGoroutine") = false) (hbody : fn.body.isSome = true) (p : S36 → Bool) {A : Option Addr} {c : Nat} {l : List S36} {w : World} {ok : Nat → Prop} (hr : k36.R 36 w 0 ok (.slice A l.length c) l) (hi : idxF p l 0 = -1)
    (hf : ∀ (W : World) (x : S36) (A : Option Addr) (c : Nat), Below w.heap.size w W → Calls Tryd.prog fid (#[.agg (gc x (.slice A x.f2.f2.length c))] ++ caps) W fun e W' => e = .returned (.bool (p x)) ∧ Below W.heap.size W W') :
    Calls Tryd.prog 28 #[.slice A l.length c, .func (.func fid) #[] caps] w (DelOut w (.slice A l.length c) l p ok) := by
  have HR := Aside0.mk hr
  have HI := Aside0.mk (idxF_none l 0 (Int.le_refl _) hi)
  have hcl := (Kd.R_reads' hr).2.1
  have hx := (indexFunc_plain fid caps fn hfn hname hbody p A c l w (Kd.R_reads' hr).2.2 hcl hf)
  rw [hi] at hx
  have HX := Aside0.mk hx
  clear hr hi hx hfn hname hbody hf
  go_enter Tryd.func28, Tryd.ntmps28
  go_wp2_with (((with_reducible refine gate_dst (N := 10) rfl ?_); refine goesL_ (some 10) rfl rfl Tryd.func40 (by kernel_rfl) rfl #[.slice A l.length c, .func (.func fid) #[] caps] rfl (by first | (simp only [List.map_toArray, List.map_cons, List.map_nil]; rfl) | rfl) ?_; refine (HX.out).mono ?_; rintro e w1 ⟨rfl, hb⟩; have HB := Aside0.mk hb; clear hb; refine ⟨_, rfl, ?_⟩))
  go_ret
  exact ⟨_, rfl, by rw [HI.out]; exact Kd.R_below HR.out HB.out, fun k hk => hk, Mods.of_below HB.out⟩
end Go.Proofs.YtmcochnofkjhaaaDoor.QU
/- DeleteFunc, the walk where something is found. By hand. -/
namespace Go.Proofs.YtmcochnofkjhaaaDoor.QU
open Go.RowKit Go.Proofs.YtmcochnofkjhaaaDoorW.PrintWords Go.Proofs.YtmcochnofkjhaaaDoorW.PrintLast Go.Proofs.YtmcochnofkjhaaaDoorW.PrintMore Go.Proofs.YtmcochnofkjhaaaDoor.PAll
set_option linter.unusedVariables false
set_option linter.unusedSimpArgs false
set_option maxRecDepth 100000
/-- An element of a row of its own, cell by cell. -/
theorem elem36 {W : World} {ok : Nat → Prop} {b n cap : Nat} {xs : List S36} (h : k36.R 36 W 0 ok (.slice (some ⟨b, 0, none⟩) n cap) xs) (j : Nat) (hj : j < xs.length) :
    ∃ A6 c6, W.cell? ⟨b, j * 7, none⟩ = some (.int .i64 (rd_T36 xs j).f0) ∧ W.cell? ⟨b, j * 7 + 1, none⟩ = some (.string (rd_T36 xs j).f1) ∧ W.cell? ⟨b, j * 7 + 2, none⟩ = some (.int .i64 (rd_T36 xs j).f2.f0.f0) ∧ W.cell? ⟨b, j * 7 + 3, none⟩ = some (.int .i64 (rd_T36 xs j).f2.f0.f1) ∧ W.cell? ⟨b, j * 7 + 4, none⟩ = some (.int .i64 (rd_T36 xs j).f2.f0.f2) ∧ W.cell? ⟨b, j * 7 + 5, none⟩ = some (.string (rd_T36 xs j).f2.f1) ∧ W.cell? ⟨b, j * 7 + 6, none⟩ = some (.slice A6 (rd_T36 xs j).f2.f2.length c6) ∧ k87.R 87 W 0 (fun k => ok k ∧ k ≠ b) (.slice A6 (rd_T36 xs j).f2.f2.length c6) (rd_T36 xs j).f2.f2 := by
  have hn := (Kd.R_reads' h).1
  obtain ⟨c, hcl, hM, hc, hf⟩ := Kd.R_elem h z36 (j : Int) (by omega) (by omega)
  obtain ⟨v6, rfl, g6⟩ := k36_openM hM
  obtain ⟨A6, c6, rfl⟩ := Kd.R_slice g6
  rw [Int.toNat_natCast] at hc
  exact ⟨A6, c6, hc 0 _ rfl, hc 1 _ rfl, hc 2 _ rfl, hc 3 _ rfl, hc 4 _ rfl, hc 5 _ rfl, hc 6 _ rfl, g6⟩
theorem cells36 {W : World} {ok : Nat → Prop} {b n cap : Nat} {xs : List S36} (h : k36.R 36 W 0 ok (.slice (some ⟨b, 0, none⟩) n cap) xs) : ∃ cur : Array Value, W.heap[b]? = some (.cells cur 36 (0, 0)) ∧ cur.size = cap * 7 := by
  obtain ⟨_, inner, ho, _⟩ := h
  obtain ⟨_, ho2⟩ := ho
  rcases ho2 with ⟨hv, _⟩ | ⟨g', cap', cur, hv, hb, hh, hnc', hcm, hcs, ht⟩
  · cases hv
  injection hv with ha _ hc
  injection ha with ha
  injection ha with hg
  subst hg; subst hc
  exact ⟨cur, hh, hcs⟩
theorem clearL_ {P : Program} {ops : Array Oper} {rest : List Oper} {o : Oper} {a : Act} {W w1 : World} {Q : Exit → Act → World → Prop} {t : TypeId} {s : Operand} {v v' : Value} (hgd : o.guard = none) (hN : o.dst = none) (ho : o.op = .call { callee := .builtin .clear, args := #[s], argTypes := #[t] }) (hs : a.eval s = v)
    (hr : (Builtin.clear_ #[t] o.type #[v]).run P W = .ok v' w1) (h : wpList P ops Q rest a w1) : wpList P ops Q (o :: rest) a W := by
  refine wpList_plain hgd fun K hK => ?_
  unfold Oper.wp
  have hrun : (execOp a.eval o).run P W = .ok (.value v') w1 := by
    unfold execOp
    simp only [ho, resolve, invoke, builtin, Sem.run_bind, Sem.run_pure, Result.andThen_ok, List.map_toArray, List.map_cons, List.map_nil, hs, hr]
  rw [hrun]
  refine hK _ _ ?_
  rw [hN]
  exact h
theorem zero36 (w : World) : (zeroValue 36).run Tryd.prog w = .ok (.agg #[.int .i64 0, .string ⟨#[]⟩, .int .i64 0, .int .i64 0, .int .i64 0, .string ⟨#[]⟩, .slice none 0 0]) w := by
  with_unfolding_all rfl
theorem zero36_one {n : Nat} : ∀ v ∈ (Builtin.zeroCells (Value.agg #[.int .i64 0, .string ⟨#[]⟩, .int .i64 0, .int .i64 0, .int .i64 0, .string ⟨#[]⟩, .slice none 0 0]).cells n).toList, v.oneCell' = true := by
  intro v hv
  simp only [Builtin.zeroCells, Array.toList_map, List.mem_map] at hv
  obtain ⟨i, _, rfl⟩ := hv
  simp only [Value.cells]
  have h : i % 7 < 7 := Nat.mod_lt _ (by decide)
  show ((#[.int .i64 0, .string ⟨#[]⟩, .int .i64 0, .int .i64 0, .int .i64 0, .string ⟨#[]⟩, .slice none 0 0] : Array Value)[i % 7]!).oneCell' = true
  generalize i % 7 = m at h
  rcases m with _ | _ | _ | _ | _ | _ | _ | m
  all_goals first | rfl | omega
theorem mods_cells {F : Nat → Prop} {a b : World} (h : Mods F a b) {g : Nat} (hg : F g ∨ a.heap.size ≤ g) (o : Nat) (zs : List Value) : Mods F a (b.setCells g o zs) := by
  obtain ⟨h1, h2, h3, h4⟩ := setCells_same g zs o b
  refine h.trans (G := fun k => k = g) ⟨h1, h2, h3, by rw [h4]; exact Nat.le_refl _, fun k _ e => setCells_far zs o k e⟩ (fun i hi e => by subst e; exact hg.elim id (fun e => absurd e (by omega)))
set_option maxHeartbeats 8000000 in
theorem deleteFunc_some (fid : Nat) (caps : Array Value) (fn : Func) (hfn : Tryd.prog.funcs[fid]? = some fn) (hname : (fn.name == "runtime.NumGoroutine") = false) (hbody : fn.body.isSome = true) (p : S36 → Bool) {b : Nat} {c : Nat} {l : List S36} {w : World} {ok : Nat → Prop} (hr : k36.R 36 w 0 ok (.slice (some ⟨b, 0, none⟩) l.length c) l) (hl : l.length ≤ 100) {n : Nat} (hi : idxF p l 0 = n) (hn : n < l.length) (hd : DelI p l l n (n + 1))
    (hf : ∀ (W : World) (x : S36) (A : Option Addr) (c : Nat), Mods (fun k => k = b) w W → Calls Tryd.prog fid (#[.agg (gc x (.slice A x.f2.f2.length c))] ++ caps) W fun e W' => e = .returned (.bool (p x)) ∧ Below W.heap.size W W') :
    Calls Tryd.prog 28 #[.slice (some ⟨b, 0, none⟩) l.length c, .func (.func fid) #[] caps] w (DelOut w (.slice (some ⟨b, 0, none⟩) l.length c) l p ok) := by
  have hu36 := Tryd.underlying36
  have hu33 := Tryd.underlying33
  have hu30 := Tryd.underlying30
  have HR := Aside0.mk hr
  have HD := Aside0.mk hd
  have HFN := Aside0.mk (And.intro hfn (And.intro hname hbody))
  have HF := Aside0.mk hf
  have hcl := (Kd.R_reads' hr).2.1
  have hx := (indexFunc_plain fid caps fn hfn hname hbody p (some ⟨b, 0, none⟩) c l w (Kd.R_reads' hr).2.2 hcl (fun W x A c hb => hf W x A c (Mods.of_below hb)))
  rw [hi] at hx
  have HX := Aside0.mk hx
  have e1 : ((n : Int) == -1) = false := by rw [beq_eq_false_iff_ne]; omega
  have hs1 : wrap64 ((n : Int) + 1) = ((n + 1 : Nat) : Int) := by unfold wrap64; omega
  clear hr hi hx hfn hname hbody hf hd
  go_enter Tryd.func28, Tryd.ntmps28
  go_wp2_with (((with_reducible refine gate_dst (N := 10) rfl ?_); refine goesL_ (some 10) rfl rfl Tryd.func40 (by kernel_rfl) rfl #[.slice (some ⟨b, 0, none⟩) l.length c, .func (.func fid) #[] caps] rfl (by first | (simp only [List.map_toArray, List.map_cons, List.map_nil]; rfl) | rfl) ?_; refine (HX.out).mono ?_; rintro e w1 ⟨rfl, hb⟩; have HB := Aside0.mk hb; clear hb; refine ⟨_, rfl, ?_⟩))
  go_loopg [5, 6] (l.length - (n + 1)) (fun kq v5 v6 w' => ∃ (i j : Nat) (xs : List S36), v5 = .int .i64 i ∧ v6 = .int .i64 j ∧ Aside0 (j + kq = l.length) ∧ Aside0 (i < j) ∧ Aside0 (DelI p l xs i j) ∧ Aside0 (k36.R 36 w' 0 ok (.slice (some ⟨b, 0, none⟩) l.length c) xs) ∧ Aside0 (Mods (fun k => k = b) w w'))
  case atStart => exact ⟨n, n + 1, l, rfl, by first | rfl | rw [hs1], ⟨by omega⟩, ⟨by omega⟩, HD, ⟨Kd.R_below HR.out HB.out⟩, ⟨Mods.of_below HB.out⟩⟩
  case round =>
    obtain ⟨i, j, xs, rfl, rfl, HK, HIJ, HD, HR, HM⟩ := hrel
    have hlen := HD.out.len
    have hij := HIJ.out
    have hjl := HD.out.lj
    cases gk with
    | zero =>
      have hj : j = l.length := by have := HK.out; omega
      have d1 : decide ((j : Int) < (l.length : Int)) = false := decide_eq_false (by omega)
      obtain ⟨ii, hii, hsz⟩ := info36ex
      have hc1 := cut_to (P := Tryd.prog) 37 36 .i64 Tryd.underlying37 hii (some ⟨b, 0, none⟩) l.length c (i : Int) (by omega) (by omega) hcl
      have hc2 := cut_from (P := Tryd.prog) 37 36 .i64 Tryd.underlying37 hii 7 hsz (some ⟨b, 0, none⟩) l.length c (i : Int) (by omega) (by omega)
      rw [Int.toNat_natCast] at hc1 hc2
      rw [if_neg (by omega)] at hc2
      obtain ⟨a3, ha3⟩ : ∃ a3 : Addr, a3 = (⟨b, 0, none⟩ : Addr).add (i * 7) := ⟨_, rfl⟩
      rw [show (some (⟨b, 0, none⟩ : Addr)).map (·.add (i * 7)) = some a3 by rw [ha3]; rfl] at hc2
      have HA3 := Aside0.mk (show a3 = ⟨b, i * 7, none⟩ by rw [ha3]; simp [Addr.add]; omega)
      clear ha3
      obtain ⟨cur, hcur, hcs⟩ := cells36 HR.out
      have HCU := Aside0.mk hcur
      have HCS := Aside0.mk hcs
      clear hcur hcs
      have hzl : (Builtin.zeroCells (Value.agg #[.int .i64 0, .string ⟨#[]⟩, .int .i64 0, .int .i64 0, .int .i64 0, .string ⟨#[]⟩, .slice none 0 0]).cells (l.length - i)).toList.length = (l.length - i) * 7 := zeroCells_len _ _
      have HZL := Aside0.mk hzl
      clear hzl
      have HCl := Aside0.mk (run_clear_rows wr 37 36 0 (.agg #[.int .i64 0, .string ⟨#[]⟩, .int .i64 0, .int .i64 0, .int .i64 0, .string ⟨#[]⟩, .slice none 0 0]) Tryd.underlying37 zero36 b (i * 7) (l.length - i) (c - i) (by omega)
        zero36_one
        (by intro q hq; rw [HZL.out] at hq; rw [blk_cell HCU.out]; have := HCS.out; rw [Array.getElem?_eq_getElem (by omega)]; rfl)
        (by intro q hq; exact blk_frozen HCU.out _))
      go_wp2_with (first | ((with_reducible refine gate_builtin (b := .clear) (xs := #[.tmp 38]) rfl ?_); refine clearL_ rfl rfl rfl rfl (by rw [HA3.out]; exact HCl.out) ?_))
      go_ret
      have hD := HD.out
      rw [hj] at hD
      have hT := R_behind (Kd.R_take HR.out (m := i) (by omega)) (Builtin.zeroCells (Value.agg #[.int .i64 0, .string ⟨#[]⟩, .int .i64 0, .int .i64 0, .int .i64 0, .string ⟨#[]⟩, .slice none 0 0]).cells (l.length - i)).toList (by rw [HZL.out]; show i * 7 + _ ≤ c * 7; omega)
      rw [hD.done] at hT
      exact ⟨_, rfl, hT, fun k hk => by simpa [Value.ownBlock] using hk, (mods_cells HM.out (.inl rfl) _ _).mono (fun k _ hk => by rw [hk]; rfl)⟩
    | succ k1 =>
      have d1 : decide ((j : Int) < (l.length : Int)) = true := decide_eq_true (by have := HK.out; omega)
      have hjl2 : j < l.length := by have := HK.out; omega
      obtain ⟨A6, c6, z0, z1, z2, z3, z4, z5, z6, g6⟩ := elem36 HR.out j (by omega)
      have hrd : rd_T36 xs (j : Int) = l[j] := by
        have h1 := HD.out.post
        have h2 : xs.drop j = xs[j] :: xs.drop (j + 1) := List.drop_eq_getElem_cons (by omega)
        have h3 : l.drop j = l[j] :: l.drop (j + 1) := List.drop_eq_getElem_cons hjl2
        rw [h2, h3] at h1
        injection h1 with h1
        unfold rd_T36
        rw [Int.toNat_natCast, List.getD_eq_getElem?_getD, List.getElem?_eq_getElem (by omega)]
        exact h1
      obtain ⟨G, hG⟩ : ∃ G, G = l[j] := ⟨_, rfl⟩
      rw [hrd, ← hG] at z0 z1 z2 z3 z4 z5 z6 g6
      have HG := Aside0.mk hG
      have H6 := Aside0.mk g6
      clear hrd hG g6
      have hsj : wrap64 ((j : Int) + 1) = ((j + 1 : Nat) : Int) := by unfold wrap64; omega
      have hsi : wrap64 ((i : Int) + 1) = ((i + 1 : Nat) : Int) := by unfold wrap64; omega
      have HSJ := Aside0.mk hsj
      have HSI := Aside0.mk hsi
      clear hsj hsi
      by_cases hp : p G = true
      · have HC := Aside0.mk (fun W h => HF.out W G A6 c6 h)
        simp only [hp, gc] at HC
        have HP := Aside0.mk hp
        clear hp
        go_wp2_with (first
          | ((with_reducible refine gate_dst (N := 7) rfl ?_); refine box_event ?hg (N := 7) ?hd (cs := #[.int .i64 0, .string ⟨#[]⟩, .int .i64 0, .int .i64 0, .int .i64 0, .string ⟨#[]⟩, .slice none 0 0]) (t := 36) ?hr ?_; (case hd => rfl); (case hg => rfl); (case hr => first | (go_simp; done) | (go_simp; rfl)); intro gb hgb wb kgb bgb; have Ggb := Aside0.mk hgb; clear hgb; have HKb := Aside0.mk kgb; have HBb := Aside0.mk bgb; clear kgb bgb)
          | ((with_reducible refine gate_store (t := 36) (p := 7) rfl ?_); refine wpList_store_row rfl 36 (.tmp 7) (.tmp 25) rfl gb #[.int .i64 G.f0, .string G.f1, .int .i64 G.f2.f0.f0, .int .i64 G.f2.f0.f1, .int .i64 G.f2.f0.f2, .string G.f2.f1, .slice A6 G.f2.f2.length c6] rfl rfl 36 _ HKb.out info36s rfl (by rw [List.all_toArray]; rfl) ?_)
          | ((with_reducible refine gate_dst (N := 27) rfl ?_); refine wpList_load_row rfl 36 (.tmp 7) rfl gb rfl 36 _ (0, 0) _ (setRow_heap _ _ _ _ _ _ HKb.out) Tryd.underlying36 rfl info36s ?_)
          | ((with_reducible refine gate_value (s := 26) rfl ?_); refine goesV_ (some 28) rfl rfl HFN.out.1 HFN.out.2.1 HFN.out.2.2 #[.agg #[.int .i64 G.f0, .string G.f1, .int .i64 G.f2.f0.f0, .int .i64 G.f2.f0.f1, .int .i64 G.f2.f0.f2, .string G.f2.f1, .slice A6 G.f2.f2.length c6]] rfl rfl (by (try simp only [List.map_toArray, List.map_cons, List.map_nil]); first | done | rfl) ?_; refine (HC.out _ (HM.out.then_below (below_setRow (g := gb) HBb.out (Nat.le_of_eq Ggb.out.symm) #[.int .i64 G.f0, .string G.f1, .int .i64 G.f2.f0.f0, .int .i64 G.f2.f0.f1, .int .i64 G.f2.f0.f2, .string G.f2.f1, .slice A6 G.f2.f2.length c6]))).mono ?_; rintro e w5 ⟨rfl, hb5⟩; refine ⟨_, rfl, ?_⟩; have HB5 := Aside0.mk ((below_setRow (g := gb) HBb.out (Nat.le_of_eq Ggb.out.symm) #[.int .i64 G.f0, .string G.f1, .int .i64 G.f2.f0.f0, .int .i64 G.f2.f0.f1, .int .i64 G.f2.f0.f2, .string G.f2.f1, .slice A6 G.f2.f2.length c6]).trans (hb5.mono (below_setRow (g := gb) HBb.out (Nat.le_of_eq Ggb.out.symm) #[.int .i64 G.f0, .string G.f1, .int .i64 G.f2.f0.f0, .int .i64 G.f2.f0.f1, .int .i64 G.f2.f0.f2, .string G.f2.f1, .slice A6 G.f2.f2.length c6]).size)); have HK5 := Aside0.mk (keepB (setRow_heap _ _ _ _ _ _ HKb.out) hb5); clear hb5))
        go_roundg k1
        case measure => omega
        case rel => exact ⟨i, j + 1, xs, rfl, rfl, ⟨by have := HK.out; omega⟩, ⟨by omega⟩, ⟨HD.out.skip hjl2 (by rw [← HG.out]; exact HP.out)⟩, ⟨Kd.R_below HR.out HB5.out⟩, ⟨HM.out.then_below HB5.out⟩⟩
      · have hp2 : p G = false := by simpa using hp
        have HC := Aside0.mk (fun W h => HF.out W G A6 c6 h)
        simp only [hp2, gc] at HC
        have HP := Aside0.mk hp2
        clear hp hp2
        go_wp2_with (first
          | ((with_reducible refine gate_dst (N := 7) rfl ?_); refine box_event ?hg (N := 7) ?hd (cs := #[.int .i64 0, .string ⟨#[]⟩, .int .i64 0, .int .i64 0, .int .i64 0, .string ⟨#[]⟩, .slice none 0 0]) (t := 36) ?hr ?_; (case hd => rfl); (case hg => rfl); (case hr => first | (go_simp; done) | (go_simp; rfl)); intro gb hgb wb kgb bgb; have Ggb := Aside0.mk hgb; clear hgb; have HKb := Aside0.mk kgb; have HBb := Aside0.mk bgb; clear kgb bgb)
          | ((with_reducible refine gate_store (t := 36) (p := 7) rfl ?_); refine wpList_store_row rfl 36 (.tmp 7) (.tmp 25) rfl gb #[.int .i64 G.f0, .string G.f1, .int .i64 G.f2.f0.f0, .int .i64 G.f2.f0.f1, .int .i64 G.f2.f0.f2, .string G.f2.f1, .slice A6 G.f2.f2.length c6] rfl rfl 36 _ HKb.out info36s rfl (by rw [List.all_toArray]; rfl) ?_)
          | ((with_reducible refine gate_dst (N := 27) rfl ?_); refine wpList_load_row rfl 36 (.tmp 7) rfl gb rfl 36 _ (0, 0) _ (setRow_heap _ _ _ _ _ _ HKb.out) Tryd.underlying36 rfl info36s ?_)
          | ((with_reducible refine gate_value (s := 26) rfl ?_); refine goesV_ (some 28) rfl rfl HFN.out.1 HFN.out.2.1 HFN.out.2.2 #[.agg #[.int .i64 G.f0, .string G.f1, .int .i64 G.f2.f0.f0, .int .i64 G.f2.f0.f1, .int .i64 G.f2.f0.f2, .string G.f2.f1, .slice A6 G.f2.f2.length c6]] rfl rfl (by (try simp only [List.map_toArray, List.map_cons, List.map_nil]); first | done | rfl) ?_; refine (HC.out _ (HM.out.then_below (below_setRow (g := gb) HBb.out (Nat.le_of_eq Ggb.out.symm) #[.int .i64 G.f0, .string G.f1, .int .i64 G.f2.f0.f0, .int .i64 G.f2.f0.f1, .int .i64 G.f2.f0.f2, .string G.f2.f1, .slice A6 G.f2.f2.length c6]))).mono ?_; rintro e w5 ⟨rfl, hb5⟩; refine ⟨_, rfl, ?_⟩; have HB5 := Aside0.mk ((below_setRow (g := gb) HBb.out (Nat.le_of_eq Ggb.out.symm) #[.int .i64 G.f0, .string G.f1, .int .i64 G.f2.f0.f0, .int .i64 G.f2.f0.f1, .int .i64 G.f2.f0.f2, .string G.f2.f1, .slice A6 G.f2.f2.length c6]).trans (hb5.mono (below_setRow (g := gb) HBb.out (Nat.le_of_eq Ggb.out.symm) #[.int .i64 G.f0, .string G.f1, .int .i64 G.f2.f0.f0, .int .i64 G.f2.f0.f1, .int .i64 G.f2.f0.f2, .string G.f2.f1, .slice A6 G.f2.f2.length c6]).size)); have HK5 := Aside0.mk (keepB (setRow_heap _ _ _ _ _ _ HKb.out) hb5); clear hb5; have hX := Kd.R_below HR.out HB5.out; obtain ⟨cz, hz1, _, hz3, _⟩ := Kd.R_elem hX z36 (i : Int) (by omega) (by omega); have HDZ := Aside0.mk (show cz.drop 7 = [] from List.drop_eq_nil_of_le (Nat.le_of_eq hz1)); have HZ := Aside0.mk (And.intro hz1 hz3); have HM5 := Aside0.mk (k36_mkM w5 0 (fun k => ok k ∧ k ≠ b) G (Kd.R_below H6.out HB5.out)); have HX5 := Aside0.mk hX; clear hz1 hz3 hX)
          | ((with_reducible refine gate_dst (N := 32) rfl ?_); refine wpList_load_row rfl 36 (.tmp 7) rfl gb rfl 36 _ (0, 0) _ HK5.out Tryd.underlying36 rfl info36s ?_)
          | ((with_reducible refine gate_store (t := 36) (p := 33) rfl ?_); refine Kd.R_store k36 (w0 := w5) 0 rfl rfl 36 (.tmp 33) (.tmp 32) rfl 36 (g := b) (n := l.length) (cap := c) (i : Int) 0 xs G (.agg #[.int .i64 G.f0, .string G.f1, .int .i64 G.f2.f0.f0, .int .i64 G.f2.f0.f1, .int .i64 G.f2.f0.f2, .string G.f2.f1, .slice A6 G.f2.f2.length c6]) [.int .i64 G.f0, .string G.f1, .int .i64 G.f2.f0.f0, .int .i64 G.f2.f0.f1, .int .i64 G.f2.f0.f2, .string G.f2.f1, .slice A6 G.f2.f2.length c6] cz ok (fun k => ok k ∧ k ≠ b) rfl ?hoff rfl rfl ?ht ?h1 HX5.out ?h0 ?hi HZ.out.1 HZ.out.2 ?hj ?hM (fun k hk => hk) (Below.refl 0 _) ?_; (case hoff => rw [Int.toNat_natCast]; rfl); (case ht => exact info36s); (case h1 => intro q hq; simp only [List.mem_cons, List.not_mem_nil, or_false] at hq; rcases hq with rfl | rfl | rfl | rfl | rfl | rfl | rfl <;> rfl); (case h0 => omega); (case hi => have := HIJ.out; omega); (case hj => exact Nat.le_of_eq rfl); (case hM => (show k36.M _ 0 _ G (cz.take 0 ++ [.int .i64 G.f0, .string G.f1, .int .i64 G.f2.f0.f0, .int .i64 G.f2.f0.f1, .int .i64 G.f2.f0.f2, .string G.f2.f1, .slice A6 G.f2.f2.length c6] ++ cz.drop 7)); rw [HDZ.out]; exact HM5.out); intro w6 h6 hb6 hg6; have HX6 := Aside0.mk h6; have HG6 := Aside0.mk hg6; clear h6 hb6 hg6))
        go_roundg k1
        case measure => omega
        case rel => exact ⟨i + 1, j + 1, xs.set i l[j], rfl, rfl, ⟨by have := HK.out; omega⟩, ⟨by omega⟩, ⟨HD.out.keep hjl2 (by rw [← HG.out]; exact HP.out)⟩, ⟨by have h6 := HX6.out; rwa [HG.out, Int.toNat_natCast] at h6⟩, ⟨(HM.out.then_below HB5.out).grown HG6.out (fun k hk => .inl (Option.some.inj hk).symm)⟩⟩
end Go.Proofs.YtmcochnofkjhaaaDoor.QU
/- What is forgotten: Forget. By hand. -/
namespace Go.Proofs.YtmcochnofkjhaaaDoor.QU
open Go.RowKit Go.Proofs.YtmcochnofkjhaaaDoorW.PrintWords Go.Proofs.YtmcochnofkjhaaaDoorW.PrintLast Go.Proofs.YtmcochnofkjhaaaDoorW.PrintMore Go.Proofs.YtmcochnofkjhaaaDoor.PAll
set_option linter.unusedVariables false
set_option linter.unusedSimpArgs false
set_option maxRecDepth 100000
theorem DelI.start {p : S36 → Bool} {l : List S36} {n : Nat} (h : n < l.length) (hp : p l[n] = true) (ht : (l.take n).filter (fun x => !p x) = l.take n) : DelI p l l n (n + 1) := by
  refine ⟨rfl, by omega, by omega, ?_, rfl⟩
  rw [List.take_add_one, List.filter_append, ht, List.getElem?_eq_getElem h]
  simp [hp]
theorem deleteFunc_is (fid : Nat) (caps : Array Value) (fn : Func) (hfn : Tryd.prog.funcs[fid]? = some fn) (hname : (fn.name == "runtime.NumGoroutine") = false) (hbody : fn.body.isSome = true) (p : S36 → Bool) {v : Value} {l : List S36} {w : World} {ok : Nat → Prop} (hr : k36.R 36 w 0 ok v l) (hl : l.length ≤ 100)
    (hf : ∀ (W : World) (x : S36) (A : Option Addr) (c : Nat), Mods (fun k => v.ownBlock = some k) w W → Calls Tryd.prog fid (#[.agg (gc x (.slice A x.f2.f2.length c))] ++ caps) W fun e W' => e = .returned (.bool (p x)) ∧ Below W.heap.size W W') :
    Calls Tryd.prog 28 #[v, .func (.func fid) #[] caps] w (DelOut w v l p ok) := by
  obtain ⟨A, c, rfl⟩ := Kd.R_slice hr
  by_cases hi : idxF p l 0 = -1
  · exact deleteFunc_none fid caps fn hfn hname hbody p hr hi (fun W x A c hb => hf W x A c (Mods.of_below hb))
  · obtain ⟨n, h1, h2, h3, h4⟩ := idxF_some l 0 (Int.le_refl _) hi
    have hb : ∃ b, A = some ⟨b, 0, none⟩ := by
      obtain ⟨_, inner, ho, _⟩ := hr
      obtain ⟨_, ho2⟩ := ho
      rcases ho2 with ⟨hv, _⟩ | ⟨g', cap', cur, hv, _⟩
      · injection hv with _ hv _
        omega
      · injection hv with hv _ _
        exact ⟨g', hv⟩
    obtain ⟨b, rfl⟩ := hb
    exact deleteFunc_some fid caps fn hfn hname hbody p hr hl (n := n) (by rw [h1]; omega) h2 (DelI.start h2 h3 h4) (fun W x A c hm => hf W x A c (hm.mono (fun k _ hk => by rw [hk]; rfl)))
theorem delV_ {P : Program} {ops : Array Oper} {oi : Oper} {a : Act} {w w1 : World} {v : Value} {K : Act → World → Prop} {Q : Exit → Act → World → Prop} (hw : Region.wanted oi (yielded ops a.tmps) = true) (hN : oi.dst = none) (hrun : (execOp a.eval oi).run P w = .ok (.value v) w1) (h : K a w1) : if Region.wanted oi (yielded ops a.tmps) = true then Oper.wp P oi a w K Q else K (a.put none undef) w := by
  rw [if_pos hw]
  unfold Oper.wp
  rw [hrun]
  show K (a.put oi.dst v) w1
  rw [hN]
  exact h
/-- What is left. -/
def fl (q : Qu) (sub : Int) : List S36 := q.l.filter (fun x => !(x.f0 == sub))
def fgQ (q : Qu) (sub : Int) : Qu := { q with l := fl q sub, os := q.os.filter (· != sub) }
theorem fl_le (q : Qu) (sub : Int) : (fl q sub).length ≤ q.l.length := List.length_filter_le _ _
set_option maxHeartbeats 8000000 in
theorem forget_is {w : World} {g m : Nat} {q : Qu} {v : Value} (h : QAt w g q v m) {k : Nat} (hq : Bq q k) (sub : Int) (hw0 : (Lit.int .i64 sub).wf = true) :
    Calls Tryd.prog 16 #[.pointer (some ⟨g, 0, none⟩), .int .i64 sub] w fun e w' => e = .returned (.int .i64 ((q.l.length : Int) - ((fl q sub).length : Int))) ∧ ∃ v', QStep w g v m (fgQ q sub) v' w' := by
  obtain ⟨b1, b2, b3, _, _⟩ := hq
  obtain ⟨A, c, rfl, hcl, hC⟩ := Kd.R_reads h.row
  clear hC
  have HL := Aside0.mk h
  clear h
  have hll := fl_le q sub
  obtain ⟨L, hL⟩ : ∃ L, L = fl q sub := ⟨_, rfl⟩
  rw [← hL] at hll ⊢
  have HLL := Aside0.mk hL
  clear hL
  go_enter Tryd.func16, Tryd.ntmps16
  go_wp2_with (first
    | ((with_reducible refine gate_dst (N := 3) rfl ?_); refine box_event ?hg (N := 3) ?hd (cs := #[.int .i64 sub]) (t := 3) ?hr ?_; (case hd => rfl); (case hg => rfl); (case hr => first | (go_simp; done) | (go_simp; rfl)); intro gb hgb w1 kgb bgb; have Ggb := Aside0.mk hgb; clear hgb; have HB1 := Aside0.mk bgb; have HK1 := Aside0.mk kgb; have H1 := Aside0.mk (HL.out.below bgb); clear bgb kgb; have c1 := H1.out.cell1)
    | ((with_reducible refine gate_dst (N := 18) rfl ?_); refine goesL_ (some 18) rfl rfl Tryd.func27 (by kernel_rfl) rfl #[.slice A q.l.length c] rfl (by first | (simp only [List.map_toArray, List.map_cons, List.map_nil]; rfl) | rfl) ?_; refine (cloneG_is H1.out.G.2 hcl (by omega) rfl).mono ?_; rintro e w2 ⟨v2, rfl, hr, ho, hb⟩; obtain ⟨A2, c2, rfl⟩ := Kd.R_slice hr; have HR2 := Aside0.mk hr; have HO2 := Aside0.mk ho; have HK2 := Aside0.mk (keepB HK1.out hb); have HB2 := Aside0.mk (HB1.out.trans (hb.mono HB1.out.size)); clear hr ho hb; refine ⟨_, rfl, ?_⟩)
    | ((with_reducible refine gate_dst (N := 20) rfl ?_); refine goesL_ (some 20) rfl rfl Tryd.func28 (by kernel_rfl) rfl #[.slice A2 q.l.length c2, .func (.func 29) #[] #[.pointer (some ⟨gb, 0, none⟩)]] rfl (by first | (simp only [List.map_toArray, List.map_cons, List.map_nil]; rfl) | rfl) ?_; refine (deleteFunc_is 29 #[.pointer (some ⟨gb, 0, none⟩)] _ Tryd.func29 (by kernel_rfl) rfl (fun x => x.f0 == sub) HR2.out (by omega) (fun W x A c hm => clos_is W x A c gb sub ((hm.block gb (blk_lt HK2.out) (fun e => by have h1 := HO2.out gb e; have h2 := blk_lt HK1.out; omega)).trans HK2.out))).mono ?_; rintro e w3 ⟨v3, rfl, hr, ho, hm⟩; rw [show q.l.filter (fun x => !(x.f0 == sub)) = L from HLL.out.symm] at hr; obtain ⟨A3, c3, rfl⟩ := Kd.R_slice hr; have HR3 := Aside0.mk hr; have HO3 := Aside0.mk (fun k hk => Nat.le_trans HB1.out.size (HO2.out k (ho k hk))); have HB3 := Aside0.mk (HB2.out.trans (hm.below HB2.out.size (fun k hk => Nat.le_trans HB1.out.size (HO2.out k hk)))); have HK3 := Aside0.mk ((hm.block gb (blk_lt HK2.out) (fun e => by have h1 := HO2.out gb e; have h2 := blk_lt HK1.out; omega)).trans HK2.out); have H3 := Aside0.mk (HL.out.below HB3.out); clear hr ho hm; have c3_ := H3.out.cell1; have f3 := blk_frozen H3.out.blk 1; refine ⟨_, rfl, ?_⟩))
  have HS := Aside0.mk (HL.out.row_set HB3.out HR3.out HO3.out)
  have HKs := Aside0.mk ((Below.heap_setCell w3 ⟨g, 1, none⟩ (.slice A3 L.length c3) gb (fun e => by have h1 := HL.out.lt; have h2 := Ggb.out; have e2 : gb = g := e; omega)).trans HK3.out)
  clear c1 c3_ f3
  obtain ⟨W, hW⟩ : ∃ W, W = w3.setCell ⟨g, 1, none⟩ (.slice A3 L.length c3) := ⟨_, rfl⟩
  rw [← hW] at HS HKs ⊢
  clear hW
  have HQd := Aside0.mk (HS.out.qu.below (below_drew1 (Below.refl _ _)))
  have y0 : W.drew.cell? ⟨g, 2, none⟩ = some (.map (some m)) := (blk_cell HQd.out.blk 2).trans rfl
  have y1 : W.drew.cell? ⟨gb, 0, none⟩ = some (.int .i64 sub) := (blk_cell (blk_drew HKs.out) 0).trans rfl
  obtain ⟨W2, hr, ho, hg, _⟩ := HQd.out.ov.drop (mt := 66) Tryd.underlying3 Tryd.underlying3 Tryd.underlying66 hw0 0
  have HR := Aside0.mk hr
  have HO := Aside0.mk ho
  have HG := Aside0.mk hg
  clear hr ho hg
  refine start_ (n := 6) (S := fun w' => w'.cell? ⟨g, 2, none⟩ = some (.map (some m)) ∧ w'.cell? ⟨gb, 0, none⟩ = some (.int .i64 sub)) (ds := [5]) #[false, false, false, false, false, false] (by kernel_rfl) rfl rfl ⟨y0, y1⟩ (fun hHeld => ?_)
  refine pure_ (i := 0) (N := some 23) (v := ?_) (a' := ?_) #[true, false, false, false, false, false] rfl rfl (by kernel_rfl) (fun _ _ _ h => h) (Or.inl ⟨by rfl, ?_⟩) ?_ ?_
  rotate_left
  · intro w'; go_simp; with_reducible rfl
  rotate_left
  · simp only [Act.put, List.setIfInBounds_toArray, List.set_cons_zero, List.set_cons_succ, i64_w, i32_w]; rfl
  refine pure_ (i := 1) (N := some 24) (v := ?_) (a' := ?_) #[true, true, false, false, false, false] rfl rfl (by kernel_rfl) (fun _ _ _ h => h) (Or.inl ⟨by rfl, ?_⟩) ?_ ?_
  rotate_left
  · intro w'; go_simp; with_reducible rfl
  rotate_left
  · simp only [Act.put, List.setIfInBounds_toArray, List.set_cons_zero, List.set_cons_succ, i64_w, i32_w]; rfl
  refine pure_ (i := 2) (N := some 25) (v := ?_) (a' := ?_) #[true, true, true, false, false, false] rfl rfl (by kernel_rfl) (fun _ _ _ h => h) (Or.inl ⟨by rfl, ?_⟩) ?_ ?_
  rotate_left
  · intro w'; go_simp; with_reducible rfl
  rotate_left
  · simp only [Act.put, List.setIfInBounds_toArray, List.set_cons_zero, List.set_cons_succ, i64_w, i32_w]; rfl
  refine take_ (i := 3) (N := some 26) (v := ?_) (a' := ?_) #[true, true, true, true, false, false] rfl rfl (by kernel_rfl) (fun _ _ _ h => h) (Or.inl ⟨by rfl, ?_⟩) hHeld ?_ ?_
  rotate_left
  · rintro w' ⟨s0, s1⟩; go_simp; with_reducible rfl
  rotate_left
  · simp only [Act.put, List.setIfInBounds_toArray, List.set_cons_zero, List.set_cons_succ, i64_w, i32_w]; rfl
  refine take_ (i := 4) (N := some 27) (v := ?_) (a' := ?_) #[true, true, true, true, true, false] rfl rfl (by kernel_rfl) (fun _ _ _ h => h) (Or.inl ⟨by rfl, ?_⟩) hHeld ?_ ?_
  rotate_left
  · rintro w' ⟨s0, s1⟩; go_simp; with_reducible rfl
  rotate_left
  · simp only [Act.put, List.setIfInBounds_toArray, List.set_cons_zero, List.set_cons_succ, i64_w, i32_w]; rfl
  clear y0 y1
  refine last_ (i := 5) (N := none) #[true, true, true, true, true, true] rfl rfl (by kernel_rfl) (by decide) (fun K hK => ?_)
  refine delV_ (by rfl) rfl (delete_run (t := 66) (k := 3) rfl rfl rfl HR.out) ?_
  refine hK.out _ _ ?_
  clear hK K
  refine done_ (by kernel_rfl) ?_
  have HQ2 := Aside0.mk (HQd.out.map (n := q.n) HG.out HO.out)
  have c2_ := HQ2.out.cell1
  go_wp2
  go_ret
  refine ⟨rfl, .slice A3 L.length c3, ?_⟩
  have e : fgQ q sub = { { q with l := L } with os := q.os.filter (· != sub), n := q.n } := by unfold fgQ; rw [HLL.out]
  rw [e]
  exact ⟨HQ2.out, HS.out.own, (HS.out.mods.drew).grown HG.out (fun k hk => .inl (.inr (.inl (Option.some.inj hk).symm)))⟩
end Go.Proofs.YtmcochnofkjhaaaDoor.QU
