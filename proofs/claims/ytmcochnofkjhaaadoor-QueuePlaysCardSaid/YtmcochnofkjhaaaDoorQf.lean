/- What is offered to a queue: Offer. By hand. -/
import Derived.Test.YtmcochnofkjhaaaDoorQe
namespace Go.Proofs.YtmcochnofkjhaaaDoor.QU
open Go.RowKit Go.Proofs.YtmcochnofkjhaaaDoorW.PrintWords Go.Proofs.YtmcochnofkjhaaaDoorW.PrintLast Go.Proofs.YtmcochnofkjhaaaDoorW.PrintMore Go.Proofs.YtmcochnofkjhaaaDoor.PAll
set_option linter.unusedVariables false
set_option linter.unusedSimpArgs false
set_option maxRecDepth 100000
/-- The deed's number. -/
def offE (q : Qu) (G : S36) (c : Int) (b : Bool) : Int := if G.f0 < 1 ∨ c ≠ 0 ∨ b = false then 1 else if q.room ≤ q.l.length then 6 else 0
def offQ (q : Qu) (G : S36) (c : Int) (b : Bool) : Qu := if G.f0 < 1 ∨ c ≠ 0 ∨ b = false then q else if q.room ≤ q.l.length then { q with os := q.os ++ [G.f0], n := q.n + 1 } else { q with l := q.l ++ [G] }
def OffOut (w : World) (g : Nat) (q : Qu) (v : Value) (m : Nat) (G : S36) (c : Int) (b : Bool) (e : Ending) (w' : World) : Prop :=
  e = .returned (.int .i64 (offE q G c b)) ∧ ∃ v', QStep w g v m (offQ q G c b) v' w'
theorem upd_ {P : Program} {ops : Array Oper} {oi : Oper} {a : Act} {w w1 : World} {K : Act → World → Prop} {Q : Exit → Act → World → Prop} (hw : Region.wanted oi (yielded ops a.tmps) = true) (hN : oi.dst = none) (hrun : (execOp a.eval oi).run P w = .ok .skip w1) (h : K a w1) : if Region.wanted oi (yielded ops a.tmps) = true then Oper.wp P oi a w K Q else K (a.put none undef) w := by
  rw [if_pos hw]
  unfold Oper.wp
  rw [hrun]
  show K (a.put oi.dst undef) w1
  rw [hN]
  exact h
theorem off_no {w w' : World} {g m : Nat} {q : Qu} {v : Value} (h : QAt w g q v m) (hb : Below w.heap.size w w') {G : S36} {c : Int} {b : Bool} (e : G.f0 < 1 ∨ c ≠ 0 ∨ b = false) : OffOut w g q v m G c b (.returned (.int .i64 1)) w' :=
  ⟨by unfold offE; rw [if_pos e], v, by unfold offQ; rw [if_pos e]; exact qstep_refl h hb⟩
theorem off_full {w W w' : World} {g m : Nat} {q : Qu} {v : Value} (h : QAt w g q v m) (hb : Below w.heap.size w W) {G : S36} {c : Int} {b : Bool} (e : ¬ (G.f0 < 1 ∨ c ≠ 0 ∨ b = false)) (hf : q.room ≤ q.l.length) (hg : W.grownBy w' (some m)) (ho : OvAt Tryd.prog 3 3 w' m (q.n + 1) (q.os ++ [G.f0])) : OffOut w g q v m G c b (.returned (.int .i64 6)) w' :=
  ⟨by unfold offE; rw [if_neg e, if_pos hf], v, by
    unfold offQ
    rw [if_neg e, if_pos hf]
    exact ⟨(h.below hb).map hg ho, fun _ hk => .inl hk, (Mods.of_below hb).grown hg (fun k hk => .inl (.inr (.inl (Option.some.inj hk).symm)))⟩⟩
theorem off_ok {w W W' : World} {g m : Nat} {q : Qu} {v v7 : Value} (h : QAt w g q v m) (hb : Below w.heap.size w W) {G : S36} {c : Int} {b : Bool} (e : ¬ (G.f0 < 1 ∨ c ≠ 0 ∨ b = false)) (hf : ¬ q.room ≤ q.l.length) (ho : k36.R 36 W' 0 (fun _ => True) v7 (q.l ++ [G])) (hg : W.grownBy W' v.ownBlock) (hat : v7.ownBlock = v.ownBlock ∨ ∃ b, v7.ownBlock = some b ∧ W.heap.size ≤ b) :
    OffOut w g q v m G c b (.returned (.int .i64 0)) (W'.setCell ⟨g, 1, none⟩ v7) := by
  have hW := h.below hb
  have e1 : W'.heap[g]? = some (.cells (qc q v m) 68 (0, 0)) := (hg.block g hW.lt (fun e => h.ne_row e.symm)).trans hW.blk
  refine ⟨by unfold offE; rw [if_neg e, if_neg hf], v7, ?_⟩
  unfold offQ
  rw [if_neg e, if_neg hf]
  refine ⟨⟨blk_set e1 1 v7, Kd.R_set ho e1 (k36_types (by decide) (by decide)) 1 v7, ?_⟩, fun k hk => ?_, ?_⟩
  · refine hW.ov.other ?_
    rw [Below.heap_setCell _ _ _ _ hW.ne_map]
    exact hg.block m hW.ov.lt (fun e => hW.row_map e.symm)
  · rcases hat with e | ⟨b, e, hbb⟩
    · exact .inl (by rw [← e]; exact hk)
    · rw [e] at hk
      injection hk with hk
      exact .inr (by have := hb.size; omega)
  · exact ((Mods.of_below hb).grown hg (fun k hk => .inl (.inr (.inr hk)))).set (.inl (.inl rfl)) v7
set_option maxHeartbeats 8000000 in
theorem offer_is {w : World} {g m : Nat} {q : Qu} {v : Value} (h : QAt w g q v m) {k : Nat} (hq : Bq q k) (hk : k < 1000000) (hT : NC.TabW w) (G : S36) {A : Option Addr} {c : Nat} (hC : k87.C w A G.f2.f2.length G.f2.f2) (hc : G.f2.f2.length ≤ c) (hl : G.f2.f2.length ≤ 1000000) (hw0 : (Lit.int .i64 G.f0).wf = true)
    {cn : Int} (hcn : name_Check.f G.f1 = some cn) {kk : Nat} {bn : Bool} (hbn : event_Check.f kk G.f2.f0.f0 G.f2.f0.f1 G.f2.f0.f2 G.f2.f1 G.f2.f2 = some bn) :
    Calls Tryd.prog 9 #[.pointer (some ⟨g, 0, none⟩), .agg (gc G (.slice A G.f2.f2.length c))] w (OffOut w g q v m G cn bn) := by
  have hu33 := Tryd.underlying33
  have hu30 := Tryd.underlying30
  have hu36 := Tryd.underlying36
  obtain ⟨b1, b2, b3, b4, b5⟩ := hq
  obtain ⟨Aq, cq, rfl, hcl, hC_⟩ := Kd.R_reads h.row
  clear hC_
  have HL := Aside0.mk h
  have HT := Aside0.mk hT
  have HCN := Aside0.mk hcn
  have HBN := Aside0.mk hbn
  have HC := Aside0.mk hC
  clear h hT hcn hbn hC
  unfold gc
  by_cases h1 : G.f0 < 1
  · have d1 : decide (G.f0 < 1) = true := decide_eq_true h1
    go_enter Tryd.func9, Tryd.ntmps9
    go_wp2_with (((with_reducible refine gate_dst (N := 3) rfl ?_); refine box_event ?hg (N := 3) ?hd (cs := (gc G (.slice A G.f2.f2.length c))) (t := 36) ?hr ?_; (case hd => rfl); (case hg => rfl); (case hr => first | (go_simp; done) | (go_simp; rfl)); intro gb hgb w1 kgb bgb; have Ggb := Aside0.mk hgb; clear hgb; have HB := Aside0.mk bgb; clear bgb; have c0 := (blk_cell kgb 0).trans (show (gc G (.slice A G.f2.f2.length c))[0]? = some (.int .i64 G.f0) from rfl); clear kgb))
    go_ret
    exact off_no HL.out HB.out (.inl h1)
  · have d1 : decide (G.f0 < 1) = false := decide_eq_false h1
    by_cases h2 : cn = 0
    · have d2 : (cn != 0) = false := by rw [h2]; rfl
      cases hbv : bn with
      | false =>
        rw [hbv] at HBN
        clear hbv
        go_enter Tryd.func9, Tryd.ntmps9
        go_wp2_with (first | ((with_reducible refine gate_dst (N := 3) rfl ?_); refine box_event ?hg (N := 3) ?hd (cs := (gc G (.slice A G.f2.f2.length c))) (t := 36) ?hr ?_; (case hd => rfl); (case hg => rfl); (case hr => first | (go_simp; done) | (go_simp; rfl)); intro gb hgb w1 kgb bgb; have Ggb := Aside0.mk hgb; clear hgb; have HB := Aside0.mk bgb; have HK := Aside0.mk kgb; clear bgb; have c0 := (blk_cell kgb 0).trans (show (gc G (.slice A G.f2.f2.length c))[0]? = some (.int .i64 G.f0) from rfl); have c1 := (blk_cell kgb 1).trans (show (gc G (.slice A G.f2.f2.length c))[1]? = some (.string G.f1) from rfl); have c2 := (blk_cell kgb 2).trans (show (gc G (.slice A G.f2.f2.length c))[2]? = some (.int .i64 G.f2.f0.f0) from rfl); have c3 := (blk_cell kgb 3).trans (show (gc G (.slice A G.f2.f2.length c))[3]? = some (.int .i64 G.f2.f0.f1) from rfl); have c4 := (blk_cell kgb 4).trans (show (gc G (.slice A G.f2.f2.length c))[4]? = some (.int .i64 G.f2.f0.f2) from rfl); have c5 := (blk_cell kgb 5).trans (show (gc G (.slice A G.f2.f2.length c))[5]? = some (.string G.f2.f1) from rfl); have c6 := (blk_cell kgb 6).trans (show (gc G (.slice A G.f2.f2.length c))[6]? = some (.slice A G.f2.f2.length c) from rfl); clear kgb) | ((with_reducible refine gate_dst (N := 16) rfl ?_); refine gate_guard (by rfl) ?_; dsimp only; refine goesL_ (some 16) rfl rfl Tryd.func24 (by kernel_rfl) rfl #[.string G.f1] rfl (by first | (simp only [List.map_toArray, List.map_cons, List.map_nil]; rfl) | rfl) ?_; refine (name_Check.calls G.f1 cn _ HCN.out (HT.out.below HB.out)).mono ?_; rintro e w2 ⟨rfl, hb⟩; have HB2 := Aside0.mk (HB.out.trans (hb.mono HB.out.size)); have HK2 := Aside0.mk (keepB HK.out hb); clear hb c0 c1 c2 c3 c4 c5 c6; have c0 := (blk_cell HK2.out 0).trans (show (gc G (.slice A G.f2.f2.length c))[0]? = some (.int .i64 G.f0) from rfl); have c1 := (blk_cell HK2.out 1).trans (show (gc G (.slice A G.f2.f2.length c))[1]? = some (.string G.f1) from rfl); have c2 := (blk_cell HK2.out 2).trans (show (gc G (.slice A G.f2.f2.length c))[2]? = some (.int .i64 G.f2.f0.f0) from rfl); have c3 := (blk_cell HK2.out 3).trans (show (gc G (.slice A G.f2.f2.length c))[3]? = some (.int .i64 G.f2.f0.f1) from rfl); have c4 := (blk_cell HK2.out 4).trans (show (gc G (.slice A G.f2.f2.length c))[4]? = some (.int .i64 G.f2.f0.f2) from rfl); have c5 := (blk_cell HK2.out 5).trans (show (gc G (.slice A G.f2.f2.length c))[5]? = some (.string G.f2.f1) from rfl); have c6 := (blk_cell HK2.out 6).trans (show (gc G (.slice A G.f2.f2.length c))[6]? = some (.slice A G.f2.f2.length c) from rfl); refine ⟨_, rfl, ?_⟩) | ((with_reducible refine gate_dst (N := 22) rfl ?_); refine gate_guard (by rfl) ?_; dsimp only; refine goesL_ (some 22) rfl rfl Tryd.func25 (by kernel_rfl) rfl #[.agg #[.int .i64 G.f2.f0.f0, .int .i64 G.f2.f0.f1, .int .i64 G.f2.f0.f2, .string G.f2.f1, .slice A G.f2.f2.length c]] rfl (by first | (simp only [List.map_toArray, List.map_cons, List.map_nil]; rfl) | rfl) ?_; refine (event_Check.calls kk _ _ _ _ _ _ _ false _ (Kd.C_below HC.out HB2.out) hc HBN.out (HT.out.below HB2.out)).mono ?_; rintro e w3 ⟨rfl, hb⟩; have HB3 := Aside0.mk (HB2.out.trans (hb.mono HB2.out.size)); have HK3 := Aside0.mk (keepB HK2.out hb); clear hb c0 c1 c2 c3 c4 c5 c6; have c0 := (blk_cell HK3.out 0).trans (show (gc G (.slice A G.f2.f2.length c))[0]? = some (.int .i64 G.f0) from rfl); have c1 := (blk_cell HK3.out 1).trans (show (gc G (.slice A G.f2.f2.length c))[1]? = some (.string G.f1) from rfl); have c2 := (blk_cell HK3.out 2).trans (show (gc G (.slice A G.f2.f2.length c))[2]? = some (.int .i64 G.f2.f0.f0) from rfl); have c3 := (blk_cell HK3.out 3).trans (show (gc G (.slice A G.f2.f2.length c))[3]? = some (.int .i64 G.f2.f0.f1) from rfl); have c4 := (blk_cell HK3.out 4).trans (show (gc G (.slice A G.f2.f2.length c))[4]? = some (.int .i64 G.f2.f0.f2) from rfl); have c5 := (blk_cell HK3.out 5).trans (show (gc G (.slice A G.f2.f2.length c))[5]? = some (.string G.f2.f1) from rfl); have c6 := (blk_cell HK3.out 6).trans (show (gc G (.slice A G.f2.f2.length c))[6]? = some (.slice A G.f2.f2.length c) from rfl); refine ⟨_, rfl, ?_⟩))
        go_ret
        exact off_no HL.out HB3.out (.inr (.inr rfl))
      | true =>
        rw [hbv] at HBN
        clear hbv
        have HE := Aside0.mk (show ¬ (G.f0 < 1 ∨ cn ≠ 0 ∨ true = false) from fun e => e.elim h1 (fun e => e.elim (fun e => e h2) (fun e => nomatch e)))
        by_cases h3 : q.room ≤ q.l.length
        · have d3 : decide ((q.room : Int) ≤ (q.l.length : Int)) = true := decide_eq_true (by omega)
          go_enter Tryd.func9, Tryd.ntmps9
          go_wp2_with (first | ((with_reducible refine gate_dst (N := 3) rfl ?_); refine box_event ?hg (N := 3) ?hd (cs := (gc G (.slice A G.f2.f2.length c))) (t := 36) ?hr ?_; (case hd => rfl); (case hg => rfl); (case hr => first | (go_simp; done) | (go_simp; rfl)); intro gb hgb w1 kgb bgb; have Ggb := Aside0.mk hgb; clear hgb; have HB := Aside0.mk bgb; have HK := Aside0.mk kgb; clear bgb; have c0 := (blk_cell kgb 0).trans (show (gc G (.slice A G.f2.f2.length c))[0]? = some (.int .i64 G.f0) from rfl); have c1 := (blk_cell kgb 1).trans (show (gc G (.slice A G.f2.f2.length c))[1]? = some (.string G.f1) from rfl); have c2 := (blk_cell kgb 2).trans (show (gc G (.slice A G.f2.f2.length c))[2]? = some (.int .i64 G.f2.f0.f0) from rfl); have c3 := (blk_cell kgb 3).trans (show (gc G (.slice A G.f2.f2.length c))[3]? = some (.int .i64 G.f2.f0.f1) from rfl); have c4 := (blk_cell kgb 4).trans (show (gc G (.slice A G.f2.f2.length c))[4]? = some (.int .i64 G.f2.f0.f2) from rfl); have c5 := (blk_cell kgb 5).trans (show (gc G (.slice A G.f2.f2.length c))[5]? = some (.string G.f2.f1) from rfl); have c6 := (blk_cell kgb 6).trans (show (gc G (.slice A G.f2.f2.length c))[6]? = some (.slice A G.f2.f2.length c) from rfl); clear kgb) | ((with_reducible refine gate_dst (N := 16) rfl ?_); refine gate_guard (by rfl) ?_; dsimp only; refine goesL_ (some 16) rfl rfl Tryd.func24 (by kernel_rfl) rfl #[.string G.f1] rfl (by first | (simp only [List.map_toArray, List.map_cons, List.map_nil]; rfl) | rfl) ?_; refine (name_Check.calls G.f1 cn _ HCN.out (HT.out.below HB.out)).mono ?_; rintro e w2 ⟨rfl, hb⟩; have HB2 := Aside0.mk (HB.out.trans (hb.mono HB.out.size)); have HK2 := Aside0.mk (keepB HK.out hb); clear hb c0 c1 c2 c3 c4 c5 c6; have c0 := (blk_cell HK2.out 0).trans (show (gc G (.slice A G.f2.f2.length c))[0]? = some (.int .i64 G.f0) from rfl); have c1 := (blk_cell HK2.out 1).trans (show (gc G (.slice A G.f2.f2.length c))[1]? = some (.string G.f1) from rfl); have c2 := (blk_cell HK2.out 2).trans (show (gc G (.slice A G.f2.f2.length c))[2]? = some (.int .i64 G.f2.f0.f0) from rfl); have c3 := (blk_cell HK2.out 3).trans (show (gc G (.slice A G.f2.f2.length c))[3]? = some (.int .i64 G.f2.f0.f1) from rfl); have c4 := (blk_cell HK2.out 4).trans (show (gc G (.slice A G.f2.f2.length c))[4]? = some (.int .i64 G.f2.f0.f2) from rfl); have c5 := (blk_cell HK2.out 5).trans (show (gc G (.slice A G.f2.f2.length c))[5]? = some (.string G.f2.f1) from rfl); have c6 := (blk_cell HK2.out 6).trans (show (gc G (.slice A G.f2.f2.length c))[6]? = some (.slice A G.f2.f2.length c) from rfl); refine ⟨_, rfl, ?_⟩) | ((with_reducible refine gate_dst (N := 22) rfl ?_); refine gate_guard (by rfl) ?_; dsimp only; refine goesL_ (some 22) rfl rfl Tryd.func25 (by kernel_rfl) rfl #[.agg #[.int .i64 G.f2.f0.f0, .int .i64 G.f2.f0.f1, .int .i64 G.f2.f0.f2, .string G.f2.f1, .slice A G.f2.f2.length c]] rfl (by first | (simp only [List.map_toArray, List.map_cons, List.map_nil]; rfl) | rfl) ?_; refine (event_Check.calls kk _ _ _ _ _ _ _ true _ (Kd.C_below HC.out HB2.out) hc HBN.out (HT.out.below HB2.out)).mono ?_; rintro e w3 ⟨rfl, hb⟩; have HB3 := Aside0.mk (HB2.out.trans (hb.mono HB2.out.size)); have HK3 := Aside0.mk (keepB HK2.out hb); clear hb c0 c1 c2 c3 c4 c5 c6; have c0 := (blk_cell HK3.out 0).trans (show (gc G (.slice A G.f2.f2.length c))[0]? = some (.int .i64 G.f0) from rfl); have c1 := (blk_cell HK3.out 1).trans (show (gc G (.slice A G.f2.f2.length c))[1]? = some (.string G.f1) from rfl); have c2 := (blk_cell HK3.out 2).trans (show (gc G (.slice A G.f2.f2.length c))[2]? = some (.int .i64 G.f2.f0.f0) from rfl); have c3 := (blk_cell HK3.out 3).trans (show (gc G (.slice A G.f2.f2.length c))[3]? = some (.int .i64 G.f2.f0.f1) from rfl); have c4 := (blk_cell HK3.out 4).trans (show (gc G (.slice A G.f2.f2.length c))[4]? = some (.int .i64 G.f2.f0.f2) from rfl); have c5 := (blk_cell HK3.out 5).trans (show (gc G (.slice A G.f2.f2.length c))[5]? = some (.string G.f2.f1) from rfl); have c6 := (blk_cell HK3.out 6).trans (show (gc G (.slice A G.f2.f2.length c))[6]? = some (.slice A G.f2.f2.length c) from rfl); refine ⟨_, rfl, ?_⟩))
          have q0 : w3.cell? ⟨g, 0, none⟩ = some (.int .i64 q.room) := (blk_cell (HL.out.below HB3.out).blk 0).trans rfl
          have q1 := (HL.out.below HB3.out).cell1
          go_quiet (fail)
          obtain ⟨W, hW⟩ : ∃ W, W = w3.drewN nq := ⟨_, rfl⟩
          rw [← hW]
          have HBW := Aside0.mk (show Below w.heap.size w W by rw [hW]; exact pw_below_drewN HB3.out _)
          have HKW := Aside0.mk (show W.heap[gb]? = some (.cells (gc G (.slice A G.f2.f2.length c)) 36 (0, 0)) by rw [hW]; exact HK3.out)
          clear hW q0 q1 c0 c1 c2 c3 c4 c5 c6
          go_wp2
          have HBd := Aside0.mk (below_drew1 HBW.out)
          have HLd := Aside0.mk (HL.out.below HBd.out)
          have hcnt : q.os.count G.f0 ≤ q.os.length := List.count_le_length
          have y0 : W.drew.cell? ⟨g, 2, none⟩ = some (.map (some m)) := (blk_cell HLd.out.blk 2).trans rfl
          have y1 : W.drew.cell? ⟨gb, 0, none⟩ = some (.int .i64 G.f0) := (blk_cell (blk_drew HKW.out) 0).trans rfl
          have y2 := HLd.out.ov.look (mt := 66) Tryd.underlying3 Tryd.underlying3 Tryd.underlying66 (zero3 _) hw0
          obtain ⟨W2, hr, ho, hg, _⟩ := HLd.out.ov.more (mt := 66) Tryd.underlying3 Tryd.underlying3 Tryd.underlying66 hw0 (by omega) (by omega)
          have HR := Aside0.mk hr
          have HO := Aside0.mk ho
          have HG := Aside0.mk hg
          clear hr ho hg
          refine start_ (n := 9) (S := fun w' => w'.cell? ⟨g, 2, none⟩ = some (.map (some m)) ∧ w'.cell? ⟨gb, 0, none⟩ = some (.int .i64 G.f0) ∧ (Instr.lookup 66 (.map (some m)) (.int .i64 G.f0) false).run Tryd.prog w' = .ok (.int .i64 (q.os.count G.f0)) w') (ds := [8]) #[false, false, false, false, false, false, false, false, false] (by kernel_rfl) rfl rfl ⟨y0, y1, y2⟩ (fun hHeld => ?_)
          refine pure_ (i := 0) (N := some 36) (v := ?_) (a' := ?_) #[true, false, false, false, false, false, false, false, false] rfl rfl (by kernel_rfl) (fun _ _ _ h => h) (Or.inl ⟨by rfl, ?_⟩) ?_ ?_
          rotate_left
          · intro w'; go_simp; with_reducible rfl
          rotate_left
          · simp only [Act.put, List.setIfInBounds_toArray, List.set_cons_zero, List.set_cons_succ, i64_w, i32_w]; rfl
          refine pure_ (i := 1) (N := some 37) (v := ?_) (a' := ?_) #[true, true, false, false, false, false, false, false, false] rfl rfl (by kernel_rfl) (fun _ _ _ h => h) (Or.inl ⟨by rfl, ?_⟩) ?_ ?_
          rotate_left
          · intro w'; go_simp; with_reducible rfl
          rotate_left
          · simp only [Act.put, List.setIfInBounds_toArray, List.set_cons_zero, List.set_cons_succ, i64_w, i32_w]; rfl
          refine pure_ (i := 2) (N := some 38) (v := ?_) (a' := ?_) #[true, true, true, false, false, false, false, false, false] rfl rfl (by kernel_rfl) (fun _ _ _ h => h) (Or.inl ⟨by rfl, ?_⟩) ?_ ?_
          rotate_left
          · intro w'; go_simp; with_reducible rfl
          rotate_left
          · simp only [Act.put, List.setIfInBounds_toArray, List.set_cons_zero, List.set_cons_succ, i64_w, i32_w]; rfl
          refine take_ (i := 3) (N := some 39) (v := ?_) (a' := ?_) #[true, true, true, true, false, false, false, false, false] rfl rfl (by kernel_rfl) (fun _ _ _ h => h) (Or.inl ⟨by rfl, ?_⟩) hHeld ?_ ?_
          rotate_left
          · rintro w' ⟨s0, s1, s2⟩; go_simp; with_reducible rfl
          rotate_left
          · simp only [Act.put, List.setIfInBounds_toArray, List.set_cons_zero, List.set_cons_succ, i64_w, i32_w]; rfl
          refine pure_ (i := 4) (N := some 40) (v := ?_) (a' := ?_) #[true, true, true, true, true, false, false, false, false] rfl rfl (by kernel_rfl) (fun _ _ _ h => h) (Or.inl ⟨by rfl, ?_⟩) ?_ ?_
          rotate_left
          · intro w'; go_simp; with_reducible rfl
          rotate_left
          · simp only [Act.put, List.setIfInBounds_toArray, List.set_cons_zero, List.set_cons_succ, i64_w, i32_w]; rfl
          refine take_ (i := 5) (N := some 41) (v := ?_) (a' := ?_) #[true, true, true, true, true, true, false, false, false] rfl rfl (by kernel_rfl) (fun _ _ _ h => h) (Or.inl ⟨by rfl, ?_⟩) hHeld ?_ ?_
          rotate_left
          · rintro w' ⟨s0, s1, s2⟩; go_simp; with_reducible rfl
          rotate_left
          · simp only [Act.put, List.setIfInBounds_toArray, List.set_cons_zero, List.set_cons_succ, i64_w, i32_w]; rfl
          refine take_ (i := 6) (N := some 42) (v := ?_) (a' := ?_) #[true, true, true, true, true, true, true, false, false] rfl rfl (by kernel_rfl) (fun _ _ _ h => h) (Or.inl ⟨by rfl, ?_⟩) hHeld ?_ ?_
          rotate_left
          · rintro w' ⟨s0, s1, s2⟩; go_simp; with_reducible rfl
          rotate_left
          · simp only [Act.put, List.setIfInBounds_toArray, List.set_cons_zero, List.set_cons_succ, i64_w, i32_w]; rfl
          refine pure_ (i := 7) (N := some 43) (v := ?_) (a' := ?_) #[true, true, true, true, true, true, true, true, false] rfl rfl (by kernel_rfl) (fun _ _ _ h => h) (Or.inl ⟨by rfl, ?_⟩) ?_ ?_
          rotate_left
          · intro w'; go_simp; with_reducible rfl
          rotate_left
          · simp only [Act.put, List.setIfInBounds_toArray, List.set_cons_zero, List.set_cons_succ, i64_w, i32_w]; rfl
          clear y0 y1 y2
          rw [wrapId (x := ((q.os.count G.f0 : Nat) : Int) + 1) (by omega) (by omega)]
          refine last_ (i := 8) (N := none) #[true, true, true, true, true, true, true, true, true] rfl rfl (by kernel_rfl) (by decide) (fun K hK => ?_)
          refine upd_ (by rfl) rfl (update_run (t := 66) rfl rfl rfl rfl HR.out) ?_
          refine hK.out _ _ ?_
          clear hK K
          refine done_ (by kernel_rfl) ?_
          go_wp2
          go_ret
          exact off_full HL.out HBd.out HE.out h3 HG.out HO.out
        · have d3 : decide ((q.room : Int) ≤ (q.l.length : Int)) = false := decide_eq_false (by omega)
          go_enter Tryd.func9, Tryd.ntmps9
          go_wp2_with (first | ((with_reducible refine gate_dst (N := 3) rfl ?_); refine box_event ?hg (N := 3) ?hd (cs := (gc G (.slice A G.f2.f2.length c))) (t := 36) ?hr ?_; (case hd => rfl); (case hg => rfl); (case hr => first | (go_simp; done) | (go_simp; rfl)); intro gb hgb w1 kgb bgb; have Ggb := Aside0.mk hgb; clear hgb; have HB := Aside0.mk bgb; have HK := Aside0.mk kgb; clear bgb; have c0 := (blk_cell kgb 0).trans (show (gc G (.slice A G.f2.f2.length c))[0]? = some (.int .i64 G.f0) from rfl); have c1 := (blk_cell kgb 1).trans (show (gc G (.slice A G.f2.f2.length c))[1]? = some (.string G.f1) from rfl); have c2 := (blk_cell kgb 2).trans (show (gc G (.slice A G.f2.f2.length c))[2]? = some (.int .i64 G.f2.f0.f0) from rfl); have c3 := (blk_cell kgb 3).trans (show (gc G (.slice A G.f2.f2.length c))[3]? = some (.int .i64 G.f2.f0.f1) from rfl); have c4 := (blk_cell kgb 4).trans (show (gc G (.slice A G.f2.f2.length c))[4]? = some (.int .i64 G.f2.f0.f2) from rfl); have c5 := (blk_cell kgb 5).trans (show (gc G (.slice A G.f2.f2.length c))[5]? = some (.string G.f2.f1) from rfl); have c6 := (blk_cell kgb 6).trans (show (gc G (.slice A G.f2.f2.length c))[6]? = some (.slice A G.f2.f2.length c) from rfl); clear kgb) | ((with_reducible refine gate_dst (N := 16) rfl ?_); refine gate_guard (by rfl) ?_; dsimp only; refine goesL_ (some 16) rfl rfl Tryd.func24 (by kernel_rfl) rfl #[.string G.f1] rfl (by first | (simp only [List.map_toArray, List.map_cons, List.map_nil]; rfl) | rfl) ?_; refine (name_Check.calls G.f1 cn _ HCN.out (HT.out.below HB.out)).mono ?_; rintro e w2 ⟨rfl, hb⟩; have HB2 := Aside0.mk (HB.out.trans (hb.mono HB.out.size)); have HK2 := Aside0.mk (keepB HK.out hb); clear hb c0 c1 c2 c3 c4 c5 c6; have c0 := (blk_cell HK2.out 0).trans (show (gc G (.slice A G.f2.f2.length c))[0]? = some (.int .i64 G.f0) from rfl); have c1 := (blk_cell HK2.out 1).trans (show (gc G (.slice A G.f2.f2.length c))[1]? = some (.string G.f1) from rfl); have c2 := (blk_cell HK2.out 2).trans (show (gc G (.slice A G.f2.f2.length c))[2]? = some (.int .i64 G.f2.f0.f0) from rfl); have c3 := (blk_cell HK2.out 3).trans (show (gc G (.slice A G.f2.f2.length c))[3]? = some (.int .i64 G.f2.f0.f1) from rfl); have c4 := (blk_cell HK2.out 4).trans (show (gc G (.slice A G.f2.f2.length c))[4]? = some (.int .i64 G.f2.f0.f2) from rfl); have c5 := (blk_cell HK2.out 5).trans (show (gc G (.slice A G.f2.f2.length c))[5]? = some (.string G.f2.f1) from rfl); have c6 := (blk_cell HK2.out 6).trans (show (gc G (.slice A G.f2.f2.length c))[6]? = some (.slice A G.f2.f2.length c) from rfl); refine ⟨_, rfl, ?_⟩) | ((with_reducible refine gate_dst (N := 22) rfl ?_); refine gate_guard (by rfl) ?_; dsimp only; refine goesL_ (some 22) rfl rfl Tryd.func25 (by kernel_rfl) rfl #[.agg #[.int .i64 G.f2.f0.f0, .int .i64 G.f2.f0.f1, .int .i64 G.f2.f0.f2, .string G.f2.f1, .slice A G.f2.f2.length c]] rfl (by first | (simp only [List.map_toArray, List.map_cons, List.map_nil]; rfl) | rfl) ?_; refine (event_Check.calls kk _ _ _ _ _ _ _ true _ (Kd.C_below HC.out HB2.out) hc HBN.out (HT.out.below HB2.out)).mono ?_; rintro e w3 ⟨rfl, hb⟩; have HB3 := Aside0.mk (HB2.out.trans (hb.mono HB2.out.size)); have HK3 := Aside0.mk (keepB HK2.out hb); clear hb c0 c1 c2 c3 c4 c5 c6; have c0 := (blk_cell HK3.out 0).trans (show (gc G (.slice A G.f2.f2.length c))[0]? = some (.int .i64 G.f0) from rfl); have c1 := (blk_cell HK3.out 1).trans (show (gc G (.slice A G.f2.f2.length c))[1]? = some (.string G.f1) from rfl); have c2 := (blk_cell HK3.out 2).trans (show (gc G (.slice A G.f2.f2.length c))[2]? = some (.int .i64 G.f2.f0.f0) from rfl); have c3 := (blk_cell HK3.out 3).trans (show (gc G (.slice A G.f2.f2.length c))[3]? = some (.int .i64 G.f2.f0.f1) from rfl); have c4 := (blk_cell HK3.out 4).trans (show (gc G (.slice A G.f2.f2.length c))[4]? = some (.int .i64 G.f2.f0.f2) from rfl); have c5 := (blk_cell HK3.out 5).trans (show (gc G (.slice A G.f2.f2.length c))[5]? = some (.string G.f2.f1) from rfl); have c6 := (blk_cell HK3.out 6).trans (show (gc G (.slice A G.f2.f2.length c))[6]? = some (.slice A G.f2.f2.length c) from rfl); refine ⟨_, rfl, ?_⟩))
          have q0 : w3.cell? ⟨g, 0, none⟩ = some (.int .i64 q.room) := (blk_cell (HL.out.below HB3.out).blk 0).trans rfl
          have q1 := (HL.out.below HB3.out).cell1
          go_quiet (fail)
          obtain ⟨W, hW⟩ : ∃ W, W = w3.drewN nq := ⟨_, rfl⟩
          rw [← hW]
          have HBW := Aside0.mk (show Below w.heap.size w W by rw [hW]; exact pw_below_drewN HB3.out _)
          have HKW := Aside0.mk (show W.heap[gb]? = some (.cells (gc G (.slice A G.f2.f2.length c)) 36 (0, 0)) by rw [hW]; exact HK3.out)
          clear hW q0 q1 c0 c1 c2 c3 c4 c5 c6
          go_wp2
          have HBd := Aside0.mk (below_drew1 HBW.out)
          have HLd := Aside0.mk (HL.out.below HBd.out)
          have HKd := Aside0.mk (blk_drew HKW.out)
          refine start_ (n := 12) (S := fun w' => w'.heap[g]? = some (.cells (qc q (.slice Aq q.l.length cq) m) 68 (0, 0)) ∧ w'.heap[gb]? = some (.cells (gc G (.slice A G.f2.f2.length c)) 36 (0, 0))) (ds := [11]) #[false, false, false, false, false, false, false, false, false, false, false, false] (by kernel_rfl) rfl rfl ⟨HLd.out.blk, HKd.out⟩ (fun hHeld => ?_)
          refine pure_ (i := 0) (N := some 44) (v := ?_) (a' := ?_) #[true, false, false, false, false, false, false, false, false, false, false, false] rfl rfl (by kernel_rfl) (fun _ _ _ h => h) (Or.inl ⟨by rfl, ?_⟩) ?_ ?_
          rotate_left
          · intro w'; go_simp; with_reducible rfl
          rotate_left
          · simp only [Act.put, List.setIfInBounds_toArray, List.set_cons_zero, List.set_cons_succ, i64_w, i32_w]; rfl
          refine pure_ (i := 1) (N := some 45) (v := ?_) (a' := ?_) #[true, true, false, false, false, false, false, false, false, false, false, false] rfl rfl (by kernel_rfl) (fun _ _ _ h => h) (Or.inl ⟨by rfl, ?_⟩) ?_ ?_
          rotate_left
          · intro w'; go_simp; with_reducible rfl
          rotate_left
          · simp only [Act.put, List.setIfInBounds_toArray, List.set_cons_zero, List.set_cons_succ, i64_w, i32_w]; rfl
          refine pure_ (i := 2) (N := some 46) (v := ?_) (a' := ?_) #[true, true, true, false, false, false, false, false, false, false, false, false] rfl rfl (by kernel_rfl) (fun _ _ _ h => h) (Or.inl ⟨by rfl, ?_⟩) ?_ ?_
          rotate_left
          · intro w'; go_simp; with_reducible rfl
          rotate_left
          · simp only [Act.put, List.setIfInBounds_toArray, List.set_cons_zero, List.set_cons_succ, i64_w, i32_w]; rfl
          refine pure_ (i := 3) (N := some 47) (v := ?_) (a' := ?_) #[true, true, true, true, false, false, false, false, false, false, false, false] rfl rfl (by kernel_rfl) (fun _ _ _ h => h) (Or.inl ⟨by rfl, ?_⟩) ?_ ?_
          rotate_left
          · intro w'; go_simp; with_reducible rfl
          rotate_left
          · simp only [Act.put, List.setIfInBounds_toArray, List.set_cons_zero, List.set_cons_succ, i64_w, i32_w]; rfl
          refine take_ (i := 4) (N := some 48) (v := ?_) (a' := ?_) #[true, true, true, true, true, false, false, false, false, false, false, false] rfl rfl (by kernel_rfl) (fun _ _ _ h => h) (Or.inl ⟨by rfl, ?_⟩) hHeld ?_ ?_
          rotate_left
          · rintro w' ⟨s0, s1⟩
            have y1 := (blk_cell s0 1).trans (show (qc q (.slice Aq q.l.length cq) m)[1]? = some (.slice Aq q.l.length cq) from rfl)
            go_simp; with_reducible rfl
          rotate_left
          · simp only [Act.put, List.setIfInBounds_toArray, List.set_cons_zero, List.set_cons_succ, i64_w, i32_w]; rfl
          refine take_ (i := 5) (N := some 49) (v := ?_) (a' := ?_) #[true, true, true, true, true, true, false, false, false, false, false, false] rfl rfl (by kernel_rfl) (fun _ _ _ h => h) (Or.inl ⟨by rfl, ?_⟩) hHeld ?_ ?_
          rotate_left
          · rintro w' ⟨s0, s1⟩
            have z0 := (blk_cell s1 0).trans (show (gc G (.slice A G.f2.f2.length c))[0]? = some (.int .i64 G.f0) from rfl)
            have z1 := (blk_cell s1 1).trans (show (gc G (.slice A G.f2.f2.length c))[1]? = some (.string G.f1) from rfl)
            have z2 := (blk_cell s1 2).trans (show (gc G (.slice A G.f2.f2.length c))[2]? = some (.int .i64 G.f2.f0.f0) from rfl)
            have z3 := (blk_cell s1 3).trans (show (gc G (.slice A G.f2.f2.length c))[3]? = some (.int .i64 G.f2.f0.f1) from rfl)
            have z4 := (blk_cell s1 4).trans (show (gc G (.slice A G.f2.f2.length c))[4]? = some (.int .i64 G.f2.f0.f2) from rfl)
            have z5 := (blk_cell s1 5).trans (show (gc G (.slice A G.f2.f2.length c))[5]? = some (.string G.f2.f1) from rfl)
            have z6 := (blk_cell s1 6).trans (show (gc G (.slice A G.f2.f2.length c))[6]? = some (.slice A G.f2.f2.length c) from rfl)
            go_simp; with_reducible rfl
          rotate_left
          · simp only [Act.put, List.setIfInBounds_toArray, List.set_cons_zero, List.set_cons_succ, i64_w, i32_w]; rfl
          refine one_ (i := 6) (N := some 50) #[true, true, true, true, true, true, true, false, false, false, false, false] rfl rfl (by kernel_rfl) (by decide) (fun K hK => ?_)
          refine goes_ Tryd.func26 (by kernel_rfl) rfl #[.agg (gc G (.slice A G.f2.f2.length c))] (by rfl) rfl rfl (by first | rfl | (simp only [List.map_toArray, List.map_cons, List.map_nil]; rfl)) ?_
          refine (own_is _ G (Kd.C_below HC.out HBd.out) hc hl).mono ?_
          rintro e W5 ⟨v6, rfl, hr6, hb5⟩; obtain ⟨A6, c6, rfl⟩ := Kd.R_slice hr6; have HR6 := Aside0.mk hr6; have HB5 := Aside0.mk (HBd.out.trans (hb5.mono HBd.out.size)); have HQ5 := Aside0.mk (HLd.out.below hb5); have HK5 := Aside0.mk (keepB HKd.out hb5); clear hr6 hb5
          refine ⟨_, rfl, hK.out _ _ ⟨HQ5.out.blk, HK5.out⟩ (fun hHeld => ?_)⟩
          clear hK K
          refine norm_ (a' := ?_) ?_ ?_
          rotate_left
          · show Act.put _ (some 50) _ = _
            simp only [Act.put, List.setIfInBounds_toArray, List.set_cons_zero, List.set_cons_succ, i64_w, i32_w]
            rfl
          refine one_ (i := 7) (N := some 51) #[true, true, true, true, true, true, true, true, false, false, false, false] rfl rfl (by kernel_rfl) (by decide) (fun K hK => ?_)
          refine event_step (v := .slice (some ⟨W5.heap.size, 0, none⟩) 1 1) (w1 := W5.alloc (.cells ([.int .i64 G.f0, .string G.f1, .int .i64 G.f2.f0.f0, .int .i64 G.f2.f0.f1, .int .i64 G.f2.f0.f2, .string G.f2.f1, .slice A6 G.f2.f2.length c6]).toArray 36 (0, 0))) (by rfl) (by first | (go_simp; done) | (go_simp; rfl)) ?_
          refine hK.out _ _ ⟨blk_alloc HQ5.out.blk _, blk_alloc HK5.out _⟩ (fun hHeld => ?_)
          clear hK K
          refine norm_ (a' := ?_) ?_ ?_
          rotate_left
          · show Act.put _ (some 51) _ = _
            simp only [Act.put, List.setIfInBounds_toArray, List.set_cons_zero, List.set_cons_succ, i64_w, i32_w]
            rfl
          refine one_ (i := 8) (N := some 52) #[true, true, true, true, true, true, true, true, true, false, false, false] rfl rfl (by kernel_rfl) (by decide) (fun K hK => ?_)
          refine Kd.R_append_step k36 (w0 := W5) 0 (by rfl) (.tmp 48) (.tmp 51) 37 36 _ 88 rfl Tryd.underlying37 info36p rfl (by decide) (by omega) (.slice Aq q.l.length cq) q.l G [.int .i64 G.f0, .string G.f1, .int .i64 G.f2.f0.f0, .int .i64 G.f2.f0.f1, .int .i64 G.f2.f0.f2, .string G.f2.f1, .slice A6 G.f2.f2.length c6] (fun _ => True) (fun k => some k ≠ (Value.slice Aq q.l.length cq).ownBlock) rfl rfl (k36_mkM _ _ _ G (Kd.R_mono (Kd.R_lower (Kd.R_bound HR6.out) (Nat.zero_le _)) (fun k hk e => by have h1 := HL.out.foot_lt (.inr (.inr e.symm)); have h2 := hk.2.1; have h3 := HBd.out.size; omega))) (fun k hk => ⟨trivial, hk⟩) (fun _ _ => trivial) HQ5.out.row (Below.refl 0 W5) (Nat.zero_le _) (by omega) ?_
          intro v7 W7 hr7 _ hg7 hat7
          obtain ⟨A7, c7, rfl⟩ := Kd.R_slice hr7
          rw [show (q.l ++ [G]).length = q.l.length + 1 by simp] at hr7 hat7
          have HR7 := Aside0.mk hr7
          have HG7 := Aside0.mk hg7
          have HA7 := Aside0.mk hat7
          have H7 := Aside0.mk (show W7.heap[g]? = some (.cells (qc q (.slice Aq q.l.length cq) m) 68 (0, 0)) from (hg7.block g HQ5.out.lt (fun e => HL.out.ne_row e.symm)).trans HQ5.out.blk)
          have HK7 := Aside0.mk ((hg7.block gb (blk_lt HK5.out) (fun e => by have h1 := HL.out.foot_lt (.inr (.inr e.symm)); have hgb := Ggb.out; omega)).trans HK5.out)
          clear hr7 hg7 hat7
          refine hK.out _ _ ⟨H7.out, HK7.out⟩ (fun hHeld => ?_)
          clear hK K
          refine norm_ (a' := ?_) ?_ ?_
          rotate_left
          · show Act.put _ (some 52) _ = _
            simp only [Act.put, List.setIfInBounds_toArray, List.set_cons_zero, List.set_cons_succ, i64_w, i32_w]
            rfl
          refine pure_ (i := 9) (N := some 53) (v := ?_) (a' := ?_) #[true, true, true, true, true, true, true, true, true, true, false, false] rfl rfl (by kernel_rfl) (fun _ _ _ h => h) (Or.inl ⟨by rfl, ?_⟩) ?_ ?_
          rotate_left
          · intro w'; go_simp; with_reducible rfl
          rotate_left
          · simp only [Act.put, List.setIfInBounds_toArray, List.set_cons_zero, List.set_cons_succ, i64_w, i32_w]; rfl
          refine pure_ (i := 10) (N := some 54) (v := ?_) (a' := ?_) #[true, true, true, true, true, true, true, true, true, true, true, false] rfl rfl (by kernel_rfl) (fun _ _ _ h => h) (Or.inl ⟨by rfl, ?_⟩) ?_ ?_
          rotate_left
          · intro w'; go_simp; with_reducible rfl
          rotate_left
          · simp only [Act.put, List.setIfInBounds_toArray, List.set_cons_zero, List.set_cons_succ, i64_w, i32_w]; rfl
          refine last_ (i := 11) (N := none) #[true, true, true, true, true, true, true, true, true, true, true, true] rfl rfl (by kernel_rfl) (by decide) (fun K hK => ?_)
          have c7 := (blk_cell H7.out 1).trans (show (qc q (.slice Aq q.l.length cq) m)[1]? = some (.slice Aq q.l.length cq) from rfl)
          have f7 := blk_frozen H7.out 1
          refine skip_ (w1 := ?_) (by rfl) rfl ?_ ?_
          rotate_left
          · go_simp
            rfl
          refine hK.out _ _ ?_
          clear hK K
          refine done_ (by kernel_rfl) ?_
          go_wp2
          go_ret
          exact off_ok HL.out HB5.out HE.out h3 HR7.out HG7.out HA7.out
    · have d2 : (cn != 0) = true := by simpa using h2
      go_enter Tryd.func9, Tryd.ntmps9
      go_wp2_with (first | ((with_reducible refine gate_dst (N := 3) rfl ?_); refine box_event ?hg (N := 3) ?hd (cs := (gc G (.slice A G.f2.f2.length c))) (t := 36) ?hr ?_; (case hd => rfl); (case hg => rfl); (case hr => first | (go_simp; done) | (go_simp; rfl)); intro gb hgb w1 kgb bgb; have Ggb := Aside0.mk hgb; clear hgb; have HB := Aside0.mk bgb; have HK := Aside0.mk kgb; clear bgb; have c0 := (blk_cell kgb 0).trans (show (gc G (.slice A G.f2.f2.length c))[0]? = some (.int .i64 G.f0) from rfl); have c1 := (blk_cell kgb 1).trans (show (gc G (.slice A G.f2.f2.length c))[1]? = some (.string G.f1) from rfl); have c2 := (blk_cell kgb 2).trans (show (gc G (.slice A G.f2.f2.length c))[2]? = some (.int .i64 G.f2.f0.f0) from rfl); have c3 := (blk_cell kgb 3).trans (show (gc G (.slice A G.f2.f2.length c))[3]? = some (.int .i64 G.f2.f0.f1) from rfl); have c4 := (blk_cell kgb 4).trans (show (gc G (.slice A G.f2.f2.length c))[4]? = some (.int .i64 G.f2.f0.f2) from rfl); have c5 := (blk_cell kgb 5).trans (show (gc G (.slice A G.f2.f2.length c))[5]? = some (.string G.f2.f1) from rfl); have c6 := (blk_cell kgb 6).trans (show (gc G (.slice A G.f2.f2.length c))[6]? = some (.slice A G.f2.f2.length c) from rfl); clear kgb) | ((with_reducible refine gate_dst (N := 16) rfl ?_); refine gate_guard (by rfl) ?_; dsimp only; refine goesL_ (some 16) rfl rfl Tryd.func24 (by kernel_rfl) rfl #[.string G.f1] rfl (by first | (simp only [List.map_toArray, List.map_cons, List.map_nil]; rfl) | rfl) ?_; refine (name_Check.calls G.f1 cn _ HCN.out (HT.out.below HB.out)).mono ?_; rintro e w2 ⟨rfl, hb⟩; have HB2 := Aside0.mk (HB.out.trans (hb.mono HB.out.size)); have HK2 := Aside0.mk (keepB HK.out hb); clear hb c0 c1 c2 c3 c4 c5 c6; have c0 := (blk_cell HK2.out 0).trans (show (gc G (.slice A G.f2.f2.length c))[0]? = some (.int .i64 G.f0) from rfl); have c1 := (blk_cell HK2.out 1).trans (show (gc G (.slice A G.f2.f2.length c))[1]? = some (.string G.f1) from rfl); have c2 := (blk_cell HK2.out 2).trans (show (gc G (.slice A G.f2.f2.length c))[2]? = some (.int .i64 G.f2.f0.f0) from rfl); have c3 := (blk_cell HK2.out 3).trans (show (gc G (.slice A G.f2.f2.length c))[3]? = some (.int .i64 G.f2.f0.f1) from rfl); have c4 := (blk_cell HK2.out 4).trans (show (gc G (.slice A G.f2.f2.length c))[4]? = some (.int .i64 G.f2.f0.f2) from rfl); have c5 := (blk_cell HK2.out 5).trans (show (gc G (.slice A G.f2.f2.length c))[5]? = some (.string G.f2.f1) from rfl); have c6 := (blk_cell HK2.out 6).trans (show (gc G (.slice A G.f2.f2.length c))[6]? = some (.slice A G.f2.f2.length c) from rfl); refine ⟨_, rfl, ?_⟩))
      go_ret
      exact off_no HL.out HB2.out (.inr (.inl h2))
end Go.Proofs.YtmcochnofkjhaaaDoor.QU
