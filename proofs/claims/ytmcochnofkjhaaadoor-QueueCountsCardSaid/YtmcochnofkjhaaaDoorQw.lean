/- What is forgotten: Forget. By hand. -/
import Derived.Test.YtmcochnofkjhaaaDoorQv
namespace Go.Proofs.YtmcochnofkjhaaaDoor.QU
open Go.RowKit Go.Proofs.YtmcochnofkjhaaaDoorW.PrintWords Go.Proofs.YtmcochnofkjhaaaDoorW.PrintLast Go.Proofs.YtmcochnofkjhaaaDoorW.PrintMore Go.Proofs.YtmcochnofkjhaaaDoor.PAll
set_option linter.unusedVariables false
set_option linter.unusedSimpArgs false
set_option maxRecDepth 100000
theorem DelI.start {p : S36 → Bool} {l : List S36} {n : Nat} (h : n < l.length) (hp : p l[n] = true) (ht : (l.take n).filter (fun x => !p x) = l.take n) : DelI p l l n (n + 1) := by
  refine ⟨rfl, by omega, by omega, ?_, rfl⟩
  rw [List.take_add_one, List.filter_append, ht, List.getElem?_eq_getElem h]
  simp [hp]
theorem deleteFunc_is (fid : Nat) (caps : Array Value) (fn : Func) (hfn : Tryd.prog.funcs[fid]? = some fn) (hname : (fn.name == "runtime.NumGoroutine") = false) (hbody : fn.body.isSome = true) (p : S36 → Bool) {v : Value} {l : List S36} {w : World} {ok : Nat → Prop} (hr : k36.R 36 w 0 ok v l) (hl : l.length ≤ 100)
    (hf : ∀ (W : World) (x : S36) (A : Option Addr) (c : Nat), Mods (fun k => v.ownBlock = some k) w W → Calls Tryd.prog fid (#[.agg (gc x (.slice A x.f2.f2.length c))] ++ caps) W fun e W' => e = .returned (.bool (p x)) ∧ Below W.heap.size W W') :
    Calls Tryd.prog 28 #[v, .func (.func fid) #[] caps] w (DelOut w v l p ok) := by
  obtain ⟨A, c, rfl⟩ := Kd.R_slice hr
  by_cases hi : idxF p l 0 = -1
  · exact deleteFunc_none fid caps fn hfn hname hbody p hr hi (fun W x A c hb => hf W x A c (Mods.of_below hb))
  · obtain ⟨n, h1, h2, h3, h4⟩ := idxF_some l 0 (Int.le_refl _) hi
    have hb : ∃ b, A = some ⟨b, 0, none⟩ := by
      obtain ⟨_, inner, ho, _⟩ := hr
      obtain ⟨_, ho2⟩ := ho
      rcases ho2 with ⟨hv, _⟩ | ⟨g', cap', cur, hv, _⟩
      · injection hv with _ hv _
        omega
      · injection hv with hv _ _
        exact ⟨g', hv⟩
    obtain ⟨b, rfl⟩ := hb
    exact deleteFunc_some fid caps fn hfn hname hbody p hr hl (n := n) (by rw [h1]; omega) h2 (DelI.start h2 h3 h4) (fun W x A c hm => hf W x A c (hm.mono (fun k _ hk => by rw [hk]; rfl)))
theorem delV_ {P : Program} {ops : Array Oper} {oi : Oper} {a : Act} {w w1 : World} {v : Value} {K : Act → World → Prop} {Q : Exit → Act → World → Prop} (hw : Region.wanted oi (yielded ops a.tmps) = true) (hN : oi.dst = none) (hrun : (execOp a.eval oi).run P w = .ok (.value v) w1) (h : K a w1) : if Region.wanted oi (yielded ops a.tmps) = true then Oper.wp P oi a w K Q else K (a.put none undef) w := by
  rw [if_pos hw]
  unfold Oper.wp
  rw [hrun]
  show K (a.put oi.dst v) w1
  rw [hN]
  exact h
/-- What is left. -/
def fl (q : Qu) (sub : Int) : List S36 := q.l.filter (fun x => !(x.f0 == sub))
def fgQ (q : Qu) (sub : Int) : Qu := { q with l := fl q sub, os := q.os.filter (· != sub) }
theorem fl_le (q : Qu) (sub : Int) : (fl q sub).length ≤ q.l.length := List.length_filter_le _ _
set_option maxHeartbeats 8000000 in
theorem forget_is {w : World} {g m : Nat} {q : Qu} {v : Value} (h : QAt w g q v m) {k : Nat} (hq : Bq q k) (sub : Int) (hw0 : (Lit.int .i64 sub).wf = true) :
    Calls Tryd.prog 16 #[.pointer (some ⟨g, 0, none⟩), .int .i64 sub] w fun e w' => e = .returned (.int .i64 ((q.l.length : Int) - ((fl q sub).length : Int))) ∧ ∃ v', QStep w g v m (fgQ q sub) v' w' := by
  obtain ⟨b1, b2, b3, _, _⟩ := hq
  obtain ⟨A, c, rfl, hcl, hC⟩ := Kd.R_reads h.row
  clear hC
  have HL := Aside0.mk h
  clear h
  have hll := fl_le q sub
  obtain ⟨L, hL⟩ : ∃ L, L = fl q sub := ⟨_, rfl⟩
  rw [← hL] at hll ⊢
  have HLL := Aside0.mk hL
  clear hL
  go_enter Tryd.func16, Tryd.ntmps16
  go_wp2_with (first
    | ((with_reducible refine gate_dst (N := 3) rfl ?_); refine box_event ?hg (N := 3) ?hd (cs := #[.int .i64 sub]) (t := 3) ?hr ?_; (case hd => rfl); (case hg => rfl); (case hr => first | (go_simp; done) | (go_simp; rfl)); intro gb hgb w1 kgb bgb; have Ggb := Aside0.mk hgb; clear hgb; have HB1 := Aside0.mk bgb; have HK1 := Aside0.mk kgb; have H1 := Aside0.mk (HL.out.below bgb); clear bgb kgb; have c1 := H1.out.cell1)
    | ((with_reducible refine gate_dst (N := 18) rfl ?_); refine goesL_ (some 18) rfl rfl Tryd.func27 (by kernel_rfl) rfl #[.slice A q.l.length c] rfl (by first | (simp only [List.map_toArray, List.map_cons, List.map_nil]; rfl) | rfl) ?_; refine (cloneG_is H1.out.G.2 hcl (by omega) rfl).mono ?_; rintro e w2 ⟨v2, rfl, hr, ho, hb⟩; obtain ⟨A2, c2, rfl⟩ := Kd.R_slice hr; have HR2 := Aside0.mk hr; have HO2 := Aside0.mk ho; have HK2 := Aside0.mk (keepB HK1.out hb); have HB2 := Aside0.mk (HB1.out.trans (hb.mono HB1.out.size)); clear hr ho hb; refine ⟨_, rfl, ?_⟩)
    | ((with_reducible refine gate_dst (N := 20) rfl ?_); refine goesL_ (some 20) rfl rfl Tryd.func28 (by kernel_rfl) rfl #[.slice A2 q.l.length c2, .func (.func 29) #[] #[.pointer (some ⟨gb, 0, none⟩)]] rfl (by first | (simp only [List.map_toArray, List.map_cons, List.map_nil]; rfl) | rfl) ?_; refine (deleteFunc_is 29 #[.pointer (some ⟨gb, 0, none⟩)] _ Tryd.func29 (by kernel_rfl) rfl (fun x => x.f0 == sub) HR2.out (by omega) (fun W x A c hm => clos_is W x A c gb sub ((hm.block gb (blk_lt HK2.out) (fun e => by have h1 := HO2.out gb e; have h2 := blk_lt HK1.out; omega)).trans HK2.out))).mono ?_; rintro e w3 ⟨v3, rfl, hr, ho, hm⟩; rw [show q.l.filter (fun x => !(x.f0 == sub)) = L from HLL.out.symm] at hr; obtain ⟨A3, c3, rfl⟩ := Kd.R_slice hr; have HR3 := Aside0.mk hr; have HO3 := Aside0.mk (fun k hk => Nat.le_trans HB1.out.size (HO2.out k (ho k hk))); have HB3 := Aside0.mk (HB2.out.trans (hm.below HB2.out.size (fun k hk => Nat.le_trans HB1.out.size (HO2.out k hk)))); have HK3 := Aside0.mk ((hm.block gb (blk_lt HK2.out) (fun e => by have h1 := HO2.out gb e; have h2 := blk_lt HK1.out; omega)).trans HK2.out); have H3 := Aside0.mk (HL.out.below HB3.out); clear hr ho hm; have c3_ := H3.out.cell1; have f3 := blk_frozen H3.out.blk 1; refine ⟨_, rfl, ?_⟩))
  have HS := Aside0.mk (HL.out.row_set HB3.out HR3.out HO3.out)
  have HKs := Aside0.mk ((Below.heap_setCell w3 ⟨g, 1, none⟩ (.slice A3 L.length c3) gb (fun e => by have h1 := HL.out.lt; have h2 := Ggb.out; have e2 : gb = g := e; omega)).trans HK3.out)
  clear c1 c3_ f3
  obtain ⟨W, hW⟩ : ∃ W, W = w3.setCell ⟨g, 1, none⟩ (.slice A3 L.length c3) := ⟨_, rfl⟩
  rw [← hW] at HS HKs ⊢
  clear hW
  have HQd := Aside0.mk (HS.out.qu.below (below_drew1 (Below.refl _ _)))
  have y0 : W.drew.cell? ⟨g, 2, none⟩ = some (.map (some m)) := (blk_cell HQd.out.blk 2).trans rfl
  have y1 : W.drew.cell? ⟨gb, 0, none⟩ = some (.int .i64 sub) := (blk_cell (blk_drew HKs.out) 0).trans rfl
  obtain ⟨W2, hr, ho, hg, _⟩ := HQd.out.ov.drop (mt := 66) Tryd.underlying3 Tryd.underlying3 Tryd.underlying66 hw0 0
  have HR := Aside0.mk hr
  have HO := Aside0.mk ho
  have HG := Aside0.mk hg
  clear hr ho hg
  refine start_ (n := 6) (S := fun w' => w'.cell? ⟨g, 2, none⟩ = some (.map (some m)) ∧ w'.cell? ⟨gb, 0, none⟩ = some (.int .i64 sub)) (ds := [5]) #[false, false, false, false, false, false] (by kernel_rfl) rfl rfl ⟨y0, y1⟩ (fun hHeld => ?_)
  refine pure_ (i := 0) (N := some 23) (v := ?_) (a' := ?_) #[true, false, false, false, false, false] rfl rfl (by kernel_rfl) (fun _ _ _ h => h) (Or.inl ⟨by rfl, ?_⟩) ?_ ?_
  rotate_left
  · intro w'; go_simp; with_reducible rfl
  rotate_left
  · simp only [Act.put, List.setIfInBounds_toArray, List.set_cons_zero, List.set_cons_succ, i64_w, i32_w]; rfl
  refine pure_ (i := 1) (N := some 24) (v := ?_) (a' := ?_) #[true, true, false, false, false, false] rfl rfl (by kernel_rfl) (fun _ _ _ h => h) (Or.inl ⟨by rfl, ?_⟩) ?_ ?_
  rotate_left
  · intro w'; go_simp; with_reducible rfl
  rotate_left
  · simp only [Act.put, List.setIfInBounds_toArray, List.set_cons_zero, List.set_cons_succ, i64_w, i32_w]; rfl
  refine pure_ (i := 2) (N := some 25) (v := ?_) (a' := ?_) #[true, true, true, false, false, false] rfl rfl (by kernel_rfl) (fun _ _ _ h => h) (Or.inl ⟨by rfl, ?_⟩) ?_ ?_
  rotate_left
  · intro w'; go_simp; with_reducible rfl
  rotate_left
  · simp only [Act.put, List.setIfInBounds_toArray, List.set_cons_zero, List.set_cons_succ, i64_w, i32_w]; rfl
  refine take_ (i := 3) (N := some 26) (v := ?_) (a' := ?_) #[true, true, true, true, false, false] rfl rfl (by kernel_rfl) (fun _ _ _ h => h) (Or.inl ⟨by rfl, ?_⟩) hHeld ?_ ?_
  rotate_left
  · rintro w' ⟨s0, s1⟩; go_simp; with_reducible rfl
  rotate_left
  · simp only [Act.put, List.setIfInBounds_toArray, List.set_cons_zero, List.set_cons_succ, i64_w, i32_w]; rfl
  refine take_ (i := 4) (N := some 27) (v := ?_) (a' := ?_) #[true, true, true, true, true, false] rfl rfl (by kernel_rfl) (fun _ _ _ h => h) (Or.inl ⟨by rfl, ?_⟩) hHeld ?_ ?_
  rotate_left
  · rintro w' ⟨s0, s1⟩; go_simp; with_reducible rfl
  rotate_left
  · simp only [Act.put, List.setIfInBounds_toArray, List.set_cons_zero, List.set_cons_succ, i64_w, i32_w]; rfl
  clear y0 y1
  refine last_ (i := 5) (N := none) #[true, true, true, true, true, true] rfl rfl (by kernel_rfl) (by decide) (fun K hK => ?_)
  refine delV_ (by rfl) rfl (delete_run (t := 66) (k := 3) rfl rfl rfl HR.out) ?_
  refine hK.out _ _ ?_
  clear hK K
  refine done_ (by kernel_rfl) ?_
  have HQ2 := Aside0.mk (HQd.out.map (n := q.n) HG.out HO.out)
  have c2_ := HQ2.out.cell1
  go_wp2
  go_ret
  refine ⟨rfl, .slice A3 L.length c3, ?_⟩
  have e : fgQ q sub = { { q with l := L } with os := q.os.filter (· != sub), n := q.n } := by unfold fgQ; rw [HLL.out]
  rw [e]
  exact ⟨HQ2.out, HS.out.own, (HS.out.mods.drew).grown HG.out (fun k hk => .inl (.inr (.inl (Option.some.inj hk).symm)))⟩
end Go.Proofs.YtmcochnofkjhaaaDoor.QU
