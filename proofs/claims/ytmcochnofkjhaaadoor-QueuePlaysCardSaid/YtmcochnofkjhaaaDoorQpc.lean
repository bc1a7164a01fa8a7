/- QueuePlays' walk. By hand; the orders of its regions written by a program of this session. -/
import Derived.Test.YtmcochnofkjhaaaDoorQpb
import Derived.Deep.CutBlock
import Derived.Deep.CutRange
namespace Go.Proofs.YtmcochnofkjhaaaDoor.QU
open Go.RowKit Go.Proofs.YtmcochnofkjhaaaDoor.PAll Go.Proofs.YtmcochnofkjhaaaDoorW.PrintWords Go.Proofs.YtmcochnofkjhaaaDoorW.PrintLast Go.Proofs.YtmcochnofkjhaaaDoorW.PrintMore Go.Proofs.YtmcochnofkjhaaaDoor.NQ
set_option linter.unusedVariables false
set_option linter.unusedSimpArgs false
set_option maxRecDepth 100000
set_option maxHeartbeats 64000000 in
theorem queuePlays_in (rm : Nat) (h1 : 1 ≤ rm) (h2 : rm ≤ 100) (A : Option Addr) (c : Nat) (l : List S51) (sub : Int) (W : World) (hr : k51.C W A l.length l) (hc : l.length ≤ c) (hg : ∀ y ∈ l, (Lit.int .i64 y.f1).wf = true ∧ (Lit.int .i64 y.f2.f0).wf = true) (hs : (Lit.int .i64 sub).wf = true) (hT : NC.TabW W) :
  Calls Tryd.prog 5 #[.int .i64 (rm : Int), .slice A l.length c, .int .i64 sub] W fun e w' => e = .returned (.bool true) ∧ Below W.heap.size W w' := by
 have hu51 := Tryd.underlying51
 have hu48 := Tryd.underlying48
 have hu36 := Tryd.underlying36
 have hu33 := Tryd.underlying33
 have hu30 := Tryd.underlying30
 have hu59 := Tryd.underlying59
 have hu57 := Tryd.underlying57
 have HC := Aside0.mk hr
 have HG := Aside0.mk hg
 have HT := Aside0.mk hT
 have d1 : decide ((rm : Int) < 1) = false := decide_eq_false (by omega)
 have d2 : decide (100 < (rm : Int)) = false := decide_eq_false (by omega)
 have d3 : decide (100 < rm) = false := decide_eq_false (by omega)
 have HNW := Aside0.mk (new_yes W rm h1 h2)
 clear hr hg hT
 go_enter Tryd.func5, Tryd.ntmps5
 go_wp2_with (first
  | ((with_reducible refine gate_dst (N := 16) rfl ?_); refine goesL_ (some 16) rfl rfl Tryd.func7 (by kernel_rfl) rfl #[.int .i64 (rm : Int)] rfl (by first | (simp only [List.map_toArray, List.map_cons, List.map_nil]; rfl) | rfl) ?_; refine (HNW.out).mono ?_; rintro e w1 ⟨g, m, rfl, hq, hg, hm, hb⟩; have HS0 := Aside0.mk (show QS W w1 g m ⟨rm, [], [], 0⟩ (.slice none 0 0) from ⟨hq, hb, fun k hk => hk.elim (fun e => e ▸ hg) (fun hk => hk.elim (fun e => e ▸ hm) (fun e => by simp [Value.ownBlock] at e))⟩); clear hq hg hm hb; refine ⟨_, rfl, ?_⟩)
  | ((with_reducible refine gate_dst (N := 8) rfl ?_); refine box_event ?hg (N := 8) ?hd (cs := (qd 0 (.slice none 0 0) (.slice none 0 0))) (t := 48) ?hr ?_; (case hd => rfl); (case hg => rfl); (case hr => first | (go_simp; done) | (go_simp; rfl)); intro gr hgr w2 kgr bgr; have Ggr := Aside0.mk hgr; clear hgr; have HK2 := Aside0.mk kgr; have HS2 := Aside0.mk (HS0.out.below bgr); clear kgr bgr)
  | ((with_reducible refine gate_store (t := 48) (p := 8) rfl ?_); refine wpList_store_row rfl 48 (.tmp 8) (.tmp 29) rfl gr (dqc ⟨rm, [], [], 0⟩ none 0 none 0) rfl rfl 48 (qd 0 (.slice none 0 0) (.slice none 0 0)) HK2.out info48s rfl (dqc_one _ _ _ _ _) ?_)
  | ((with_reducible refine gate_dst (N := 30) rfl ?_); refine goesL_ (some 30) rfl rfl Tryd.func8 (by kernel_rfl) rfl #[] rfl (by simp) ?_; refine (awake_is _ (HT.out.below (below_setRow HS2.out.bel (Nat.le_trans HS0.out.bel.size (Nat.le_of_eq Ggr.out.symm)) _))).mono ?_; rintro e w3 ⟨rfl, hb⟩; have HP3 := Aside0.mk ((show PS W (w2.setRow gr (dqc ⟨rm, [], [], 0⟩ none 0 none 0)) g m gr ⟨rm, [], [], 0⟩ (.slice none 0 0) ⟨rm, [], [], 0⟩ none 0 none 0 from ⟨⟨HS2.out.qu.besideRow HK2.out (by decide) (by decide) (by decide) _, below_setRow HS2.out.bel (Nat.le_trans HS0.out.bel.size (Nat.le_of_eq Ggr.out.symm)) _, HS2.out.low⟩, setRow_heap _ _ _ _ _ _ HK2.out, Nat.le_trans HS0.out.bel.size (Nat.le_of_eq Ggr.out.symm), ⟨DocL.full (Kd.R_nil _ _ _ _ _), Kd.R_nil _ _ _ _ _⟩⟩).below hb); clear hb; refine ⟨_, rfl, ?_⟩)
  | ((with_reducible refine gate_dst (N := 38) rfl ?_); refine gate_guard (by rfl) ?_; dsimp only; refine goesL_ (some 38) rfl rfl Tryd.func15 (by kernel_rfl) rfl #[.pointer (some ⟨g, 0, none⟩)] rfl (by first | (simp only [List.map_toArray, List.map_cons, List.map_nil]; rfl) | rfl) ?_; refine (room_is HP3.out.qs.qu).mono ?_; rintro e w4 ⟨rfl, hb⟩; have HP4 := Aside0.mk (HP3.out.below hb); clear hb; refine ⟨_, rfl, ?_⟩))
 clear d1 d2 d3
 obtain ⟨N, hN⟩ : ∃ N, N = min l.length 60 := ⟨_, rfl⟩
 have HN := Aside0.mk hN
 clear hN
 go_loopg [9] N (fun kq v9 w' => ∃ (i : Nat) (q : Qu) (v : Value) (A1 : Option Addr) (c1 : Nat) (AO : Option Addr) (cO : Nat), v9 = .int .i64 i ∧ Aside0 (i + kq = N) ∧ Aside0 (PS W w' g m gr q v q A1 c1 AO cO) ∧ Aside0 (Bq q i) ∧ Aside0 (Sm q))
 case atStart => exact ⟨0, _, _, _, _, _, _, rfl, ⟨by omega⟩, HP4, ⟨by constructor <;> simp <;> omega⟩, ⟨fun G hG => by cases hG⟩⟩
 case round =>
  obtain ⟨i, q, v, A1, c1, AO, cO, rfl, HI, HP0, HBq, HSm⟩ := hrel
  have hi := HI.out
  have hN := HN.out
  cases gk with
  | zero =>
   have hcs : (decide ((i : Int) < (l.length : Int)) = false ∧ decide (i < l.length) = false) ∨ (decide ((i : Int) < (l.length : Int)) = true ∧ decide (i < l.length) = true ∧ decide ((i : Int) < 60) = false) := by
    by_cases h60 : l.length ≤ 60
    ·exact .inl ⟨decide_eq_false (by omega), decide_eq_false (by omega)⟩
    ·exact .inr ⟨decide_eq_true (by omega), decide_eq_true (by omega), decide_eq_false (by omega)⟩
   clear hi hN
   rcases hcs with ⟨d1, d1n⟩ | ⟨d1, d1n, d2⟩
   all_goals
    go_wp2
    go_ret
    exact ⟨rfl, HP0.out.qs.bel⟩
  | succ k1 =>
   have d1 : decide ((i : Int) < (l.length : Int)) = true := decide_eq_true (by omega)
   have d2 : decide ((i : Int) < 60) = true := decide_eq_true (by omega)
   have i0 : (0 : Int) ≤ (i : Int) := by omega
   have i1 : (i : Int) < (l.length : Int) := by omega
   have i60 : i < 60 := by omega
   have HI6 := Aside0.mk i60
   have hil : i < l.length := by omega
   obtain ⟨ad, A8, c8, rfl, z0, z1, z2, z3, z4, z5, z6, z7, z8, h8, hC8⟩ := at_T51 HC.out (i : Int) i0 i1
   have hwf := HG.out (rd_T51 l (i : Int)) (by unfold rd_T51; rw [Int.toNat_natCast, List.getD_eq_getElem?_getD, List.getElem?_eq_getElem hil]; exact List.getElem_mem hil)
   obtain ⟨y, hy⟩ : ∃ y, y = rd_T51 l (i : Int) := ⟨_, rfl⟩
   rw [← hy] at z0 z1 z2 z3 z4 z5 z6 z7 z8 h8 hC8 hwf
   rw [Int.toNat_natCast] at z0 z1 z2 z3 z4 z5 z6 z7 z8
   clear hy
   have HWf := Aside0.mk hwf
   have HC8 := Aside0.mk hC8
   have HC8l := Aside0.mk h8
   have HY := Aside0.mk (show W.cell? (ad.add (i * 9)) = some (.int .i64 y.f0) ∧ W.cell? ⟨(ad.add (i * 9)).block, (ad.add (i * 9)).off + 1, none⟩ = some (.int .i64 y.f1) ∧ W.cell? ⟨(ad.add (i * 9)).block, (ad.add (i * 9)).off + 2, none⟩ = some (.int .i64 y.f2.f0) ∧ W.cell? ⟨(ad.add (i * 9)).block, (ad.add (i * 9)).off + 3, none⟩ = some (.string y.f2.f1) ∧ W.cell? ⟨(ad.add (i * 9)).block, (ad.add (i * 9)).off + 4, none⟩ = some (.int .i64 y.f2.f2.f0.f0) ∧ W.cell? ⟨(ad.add (i * 9)).block, (ad.add (i * 9)).off + 5, none⟩ = some (.int .i64 y.f2.f2.f0.f1) ∧ W.cell? ⟨(ad.add (i * 9)).block, (ad.add (i * 9)).off + 6, none⟩ = some (.int .i64 y.f2.f2.f0.f2) ∧ W.cell? ⟨(ad.add (i * 9)).block, (ad.add (i * 9)).off + 7, none⟩ = some (.string y.f2.f2.f1) ∧ W.cell? ⟨(ad.add (i * 9)).block, (ad.add (i * 9)).off + 8, none⟩ = some (.slice A8 y.f2.f2.f2.length c8) from ⟨z0, z1, z2, z3, z4, z5, z6, z7, z8⟩)
   obtain ⟨kf, b, hf⟩ := few_some y.f0 y.f1 y.f2.f1 y.f2
   have HF := Aside0.mk hf
   clear hf hwf hC8 h8 z0 z1 z2 z3 z4 z5 z6 z7 z8 hil hN
   have e0 := cellB HP0.out.qs.bel HY.out.1
   have e1 := cellB HP0.out.qs.bel HY.out.2.1
   have e2 := cellB HP0.out.qs.bel HY.out.2.2.1
   have e3 := cellB HP0.out.qs.bel HY.out.2.2.2.1
   have e4 := cellB HP0.out.qs.bel HY.out.2.2.2.2.1
   have e5 := cellB HP0.out.qs.bel HY.out.2.2.2.2.2.1
   have e6 := cellB HP0.out.qs.bel HY.out.2.2.2.2.2.2.1
   have e7 := cellB HP0.out.qs.bel HY.out.2.2.2.2.2.2.2.1
   have e8 := cellB HP0.out.qs.bel HY.out.2.2.2.2.2.2.2.2
   cases b with
   | false =>
    go_wp2_with (((with_reducible refine gate_dst (N := 56) rfl ?_); refine goesL_ (some 56) rfl rfl Tryd.func17 (by kernel_rfl) rfl #[.agg (ac y.f0 y.f1 y.f2 (.slice A8 y.f2.f2.f2.length c8))] rfl (by first | (simp only [List.map_toArray, List.map_cons, List.map_nil]; rfl) | rfl) ?_; refine (caduceuslaw18_few.calls kf _ _ _ _ _ _ _ _ _ _ _ false _ (Kd.C_below HC8.out HP0.out.qs.bel) HC8l.out HF.out).mono ?_; rintro e wf ⟨rfl, hb⟩; have HP := Aside0.mk (HP0.out.below hb); clear hb; refine ⟨_, rfl, ?_⟩))
    go_roundg k1
    case measure => omega
    case rel => exact ⟨i + 1, q, v, A1, c1, AO, cO, rfl, ⟨by omega⟩, HP, ⟨HBq.out.mono (by omega)⟩, HSm⟩
   | true =>
    have HSG := Aside0.mk (few_true HF.out)
    go_upto_block 2 with (((with_reducible refine gate_dst (N := 56) rfl ?_); refine goesL_ (some 56) rfl rfl Tryd.func17 (by kernel_rfl) rfl #[.agg (ac y.f0 y.f1 y.f2 (.slice A8 y.f2.f2.f2.length c8))] rfl (by first | (simp only [List.map_toArray, List.map_cons, List.map_nil]; rfl) | rfl) ?_; refine (caduceuslaw18_few.calls kf _ _ _ _ _ _ _ _ _ _ _ true _ (Kd.C_below HC8.out HP0.out.qs.bel) HC8l.out HF.out).mono ?_; rintro e wf ⟨rfl, hb⟩; have HP := Aside0.mk (HP0.out.below hb); clear hb e0 e1 e2 e3 e4 e5 e6 e7 e8 HP0; have e0 := cellB HP.out.qs.bel HY.out.1; refine ⟨_, rfl, ?_⟩))
    clear d1 d2
    go_cut [10, 11, 12, 13, 14] from 42 to 161 (fun s10 s11 s12 s13 s14 wx => ∃ (q2 : Qu) (v2 : Value) (A2 : Option Addr) (c2 : Nat) (AP : Option Addr) (cP : Nat), Aside0 (PS W wx g m gr q2 v2 q2 A2 c2 AP cP) ∧ Aside0 (Bq q2 (i + 1)) ∧ Aside0 (Sm q2))
    case first =>
     by_cases k0 : y.f0 = 0
     ·have f0 : (y.f0 == 0) = true := by rw [k0]; rfl
      clear k0
      have HPd := Aside0.mk (HP.out.below (below_drew1 (Below.refl _ _)))
      go_wp2
      refine start_ (n := 17) (S := fun w' => w'.heap[gr]? = some (.cells (dqc q A1 c1 AO cO) 48 (0, 0)) ∧ Below W.heap.size W w') (ds := [15]) #[false, false, false, false, false, false, false, false, false, false, false, false, false, false, false, false, false] (by kernel_rfl) rfl rfl ⟨HPd.out.box, HPd.out.qs.bel⟩ (fun hHeld => ?_)
      
      refine take_ (i := 0) (N := some 66) (v := ?_) (a' := ?_) (fB 17 1) rfl rfl (by kernel_rfl) (fun _ _ _ h => h) (Or.inl ⟨by rfl, ?_⟩) hHeld ?_ ?_
      rotate_left
      ·rintro w' ⟨s0, s1⟩
       have y0 := (blk_cell s0 0).trans (show (dqc q A1 c1 AO cO)[0]? = some (.int .i64 q.room) from rfl)
       have y1 := (blk_cell s0 1).trans (show (dqc q A1 c1 AO cO)[1]? = some (.slice A1 q.l.length c1) from rfl)
       have y2 := (blk_cell s0 2).trans (show (dqc q A1 c1 AO cO)[2]? = some (.slice AO q.os.length cO) from rfl)
       go_simp; with_reducible rfl
      rotate_left
      ·go_simp; rfl
      refine pure_ (i := 1) (N := some 67) (v := ?_) (a' := ?_) (fB 17 3) rfl rfl (by kernel_rfl) (fun _ _ _ h => h) (Or.inl ⟨by rfl, ?_⟩) ?_ ?_
      rotate_left
      ·intro w'; go_simp; with_reducible rfl
      rotate_left
      ·go_simp; rfl
      refine pure_ (i := 2) (N := some 68) (v := ?_) (a' := ?_) (fB 17 7) rfl rfl (by kernel_rfl) (fun _ _ _ h => h) (Or.inl ⟨by rfl, ?_⟩) ?_ ?_
      rotate_left
      ·intro w'; go_simp; with_reducible rfl
      rotate_left
      ·go_simp; rfl
      refine pure_ (i := 3) (N := some 69) (v := ?_) (a' := ?_) (fB 17 15) rfl rfl (by kernel_rfl) (fun _ _ _ h => h) (Or.inl ⟨by rfl, ?_⟩) ?_ ?_
      rotate_left
      ·intro w'; go_simp; with_reducible rfl
      rotate_left
      ·go_simp; rfl
      refine pure_ (i := 4) (N := some 70) (v := ?_) (a' := ?_) (fB 17 31) rfl rfl (by kernel_rfl) (fun _ _ _ h => h) (Or.inl ⟨by rfl, ?_⟩) ?_ ?_
      rotate_left
      ·intro w'; go_simp; with_reducible rfl
      rotate_left
      ·go_simp; rfl
      refine take_ (i := 5) (N := some 71) (v := ?_) (a' := ?_) (fB 17 63) rfl rfl (by kernel_rfl) (fun _ _ _ h => h) (Or.inl ⟨by rfl, ?_⟩) hHeld ?_ ?_
      rotate_left
      ·rintro w' ⟨s0, s1⟩
       have g2 := cellB s1 HY.out.2.2.1
       have g3 := cellB s1 HY.out.2.2.2.1
       have g4 := cellB s1 HY.out.2.2.2.2.1
       have g5 := cellB s1 HY.out.2.2.2.2.2.1
       have g6 := cellB s1 HY.out.2.2.2.2.2.2.1
       have g7 := cellB s1 HY.out.2.2.2.2.2.2.2.1
       have g8 := cellB s1 HY.out.2.2.2.2.2.2.2.2
       go_simp; with_reducible rfl
      rotate_left
      ·go_simp; rfl
      obtain ⟨wd, hwd⟩ : ∃ wd, wd = wf.drew := ⟨_, rfl⟩
      rw [← hwd] at hHeld HPd ⊢
      clear hwd
      have HPc0 := HPd
      have HBc0 := Aside0.mk (Below.refl wd.heap.size wd)
      clear HPd
      refine join_ (σ := Value × Value × Value × Value × Option Addr × Nat × Option Addr × Nat × Nat) 2 (fB 17 32767) (fun s => [(72, s.1), (73, s.2.1), (74, s.2.2.1), (75, s.2.2.2.1), (76, .tuple #[.agg (dqc (offQ q y.f2 (chk y.f2.f1.data.toList) (evB y.f2.f2)) s.2.2.2.2.1 s.2.2.2.2.2.1 s.2.2.2.2.2.2.1 s.2.2.2.2.2.2.2.1), .int .i64 (offE q y.f2 (chk y.f2.f1.data.toList) (evB y.f2.f2))]), (65, .tuple #[.agg (dqc (offQ q y.f2 (chk y.f2.f1.data.toList) (evB y.f2.f2)) s.2.2.2.2.1 s.2.2.2.2.2.1 s.2.2.2.2.2.2.1 s.2.2.2.2.2.2.2.1), .int .i64 (offE q y.f2 (chk y.f2.f1.data.toList) (evB y.f2.f2))]), (77, .agg (dqc (offQ q y.f2 (chk y.f2.f1.data.toList) (evB y.f2.f2)) s.2.2.2.2.1 s.2.2.2.2.2.1 s.2.2.2.2.2.2.1 s.2.2.2.2.2.2.2.1)), (78, .int .i64 (offE q y.f2 (chk y.f2.f1.data.toList) (evB y.f2.f2))), (10, .pointer (some ⟨s.2.2.2.2.2.2.2.2, 0, none⟩))]) (fun s w' => DQ w' (offQ q y.f2 (chk y.f2.f1.data.toList) (evB y.f2.f2)) s.2.2.2.2.1 s.2.2.2.2.2.1 s.2.2.2.2.2.2.1 s.2.2.2.2.2.2.2.1 ∧ Below wd.heap.size wd w' ∧ w'.heap[s.2.2.2.2.2.2.2.2]? = some (.cells (qd 0 (.slice none 0 0) (.slice none 0 0)) 48 (0, 0)) ∧ wd.heap.size ≤ s.2.2.2.2.2.2.2.2) ?_ ?_
      rotate_left
      ·intro hcont
       have HCO := Aside0.mk hcont
       clear hcont
       refine two_ (i := 6) (j := 14) (Ni := some 72) (Nj := some 10) (fB 17 127) (fB 17 16447) rfl rfl rfl rfl (by kernel_rfl) (by decide) (by decide) (fun K hK => ?_) (fun K hK => ?_)
       ·skip
        refine event_step (v := .slice (some ⟨wd.heap.size, 0, none⟩) 1 1) (w1 := (wd.alloc (.cells #[.int .i64 y.f2.f0, .string y.f2.f1, .int .i64 y.f2.f2.f0.f0, .int .i64 y.f2.f2.f0.f1, .int .i64 y.f2.f2.f0.f2, .string y.f2.f2.f1, .slice A8 y.f2.f2.f2.length c8] 36 (0, 0)))) (by rfl) (by first | (go_simp; done) | (go_simp; rfl)) ?_
        have hst := below_alloc (Below.refl wd.heap.size wd) (.cells #[.int .i64 y.f2.f0, .string y.f2.f1, .int .i64 y.f2.f2.f0.f0, .int .i64 y.f2.f2.f0.f1, .int .i64 y.f2.f2.f0.f2, .string y.f2.f2.f1, .slice A8 y.f2.f2.f2.length c8] 36 (0, 0))
        have HLit := Aside0.mk (show k36.C (wd.alloc (.cells #[.int .i64 y.f2.f0, .string y.f2.f1, .int .i64 y.f2.f2.f0.f0, .int .i64 y.f2.f2.f0.f1, .int .i64 y.f2.f2.f0.f2, .string y.f2.f2.f1, .slice A8 y.f2.f2.f2.length c8] 36 (0, 0))) (some ⟨wd.heap.size, 0, none⟩) 1 [y.f2] from lit36 wd y.f2 (Kd.C_below HC8.out HPc0.out.qs.bel) HC8l.out)
        obtain ⟨v72, hv72⟩ : ∃ v72 : Option Addr, v72 = some ⟨wd.heap.size, 0, none⟩ := ⟨_, rfl⟩
        rw [← hv72] at HLit ⊢
        clear hv72
        have HBn := Aside0.mk (HBc0.out.trans (hst.mono HBc0.out.size))
        have HPn := Aside0.mk (HPc0.out.below hst)
        clear HBc0 HPc0
        have HBc0 := HBn
        have HPc0 := HPn
        clear HBn HPn 
        clear hst
        refine hK.out _ _ ⟨HPc0.out.box, HPc0.out.qs.bel⟩ (fun hHeld => ?_)
        clear hK K
        refine norm_ (a' := ?_) ?_ ?_
        rotate_left
        ·show Act.put _ (some 72) _ = _
         go_simp
         rfl
        have HBc1 := HBc0
        have HPc1 := HPc0
        clear HBc0 HPc0
        refine two_ (i := 7) (j := 14) (Ni := some 73) (Nj := some 10) (fB 17 255) (fB 17 16511) rfl rfl rfl rfl (by kernel_rfl) (by decide) (by decide) (fun K hK => ?_) (fun K hK => ?_)
        ·skip
         refine goes_ Tryd.func19 (by kernel_rfl) rfl #[.slice v72 1 1] (by rfl) rfl rfl (by first | rfl | (simp only [List.map_toArray, List.map_cons, List.map_nil]; rfl)) ?_
         refine (refs_n (n := 1) rfl HLit.out (Nat.le_refl _) (by decide) (fun G hG => by rw [List.mem_singleton.1 hG]; have := HSG.out.at_.1; omega)).mono ?_
         rintro e x1 ⟨Av, cv, rfl, hr, hst⟩
         clear HLit
         have hel := DRow.elem (DRow.of_R (Kd.R_lower hr (Nat.zero_le _))).2.2 0 Nat.zero_lt_one
         obtain ⟨adv, Ag, cg, rfl, g0, g1, g2, g3, g4, g5, g6, g7⟩ := hel
         rw [show adv.add (0 * 7) = adv by simp [Addr.add]] at g0 g1 g2 g3 g4 g5 g6
         have HRg := Aside0.mk (show RG x1 adv Ag cg y.f2 from (show x1.cell? adv = some (.int .i64 y.f2.f0) ∧ x1.cell? ⟨adv.block, adv.off + 1, none⟩ = some (.string y.f2.f1) ∧ x1.cell? ⟨adv.block, adv.off + 2, none⟩ = some (.int .i64 y.f2.f2.f0.f0) ∧ x1.cell? ⟨adv.block, adv.off + 3, none⟩ = some (.int .i64 y.f2.f2.f0.f1) ∧ x1.cell? ⟨adv.block, adv.off + 4, none⟩ = some (.int .i64 y.f2.f2.f0.f2) ∧ x1.cell? ⟨adv.block, adv.off + 5, none⟩ = some (.string y.f2.f2.f1) ∧ x1.cell? ⟨adv.block, adv.off + 6, none⟩ = some (.slice Ag y.f2.f2.f2.length cg) ∧ k104.R 104 x1 0 (fun _ => True) (.slice Ag y.f2.f2.f2.length cg) (y.f2.f2.f2.map ra) from ⟨g0, g1, g2, g3, g4, g5, by rw [g6]; show some (Value.slice Ag (y.f2.f2.f2.map ra).length cg) = _; rw [List.length_map], by have g8 : k104.R 104 x1 0 (fun _ => True) (.slice Ag (y.f2.f2.f2.map ra).length cg) (y.f2.f2.f2.map ra) := g7; rwa [List.length_map] at g8⟩))
         clear g0 g1 g2 g3 g4 g5 g6 g7 hr
         have HBn := Aside0.mk (HBc1.out.trans (hst.mono HBc1.out.size))
         have HPn := Aside0.mk (HPc1.out.below hst)
         clear HBc1 HPc1
         have HBc1 := HBn
         have HPc1 := HPn
         clear HBn HPn 
         clear hst
         refine ⟨_, rfl, hK.out _ _ ⟨HPc1.out.box, HPc1.out.qs.bel⟩ (fun hHeld => ?_)⟩
         clear hK K
         refine norm_ (a' := ?_) ?_ ?_
         rotate_left
         ·show Act.put _ (some 73) _ = _
          go_simp
          rfl
         refine pure_ (i := 8) (N := some 74) (v := ?_) (a' := ?_) (fB 17 511) rfl rfl (by kernel_rfl) (fun _ _ _ h => h) (Or.inl ⟨by rfl, ?_⟩) ?_ ?_
         rotate_left
         ·intro w'; go_simp; with_reducible rfl
         rotate_left
         ·go_simp; rfl
         have HBc2 := HBc1
         have HPc2 := HPc1
         clear HBc1 HPc1
         refine two_ (i := 9) (j := 14) (Ni := some 75) (Nj := some 10) (fB 17 1023) (fB 17 16895) rfl rfl rfl rfl (by kernel_rfl) (by decide) (by decide) (fun K hK => ?_) (fun K hK => ?_)
         ·skip
          have y0 := HRg.out.1
          have y1 := HRg.out.2.1
          have y2 := HRg.out.2.2.1
          have y3 := HRg.out.2.2.2.1
          have y4 := HRg.out.2.2.2.2.1
          have y5 := HRg.out.2.2.2.2.2.1
          have y6 := HRg.out.2.2.2.2.2.2.1
          refine event_step (v := .agg #[.int .i64 y.f2.f0, .string y.f2.f1, .int .i64 y.f2.f2.f0.f0, .int .i64 y.f2.f2.f0.f1, .int .i64 y.f2.f2.f0.f2, .string y.f2.f2.f1, .slice Ag y.f2.f2.f2.length cg]) (w1 := x1) (by rfl) (by first | (go_simp; done) | (go_simp; rfl)) ?_
          clear y0 y1 y2 y3 y4 y5 y6
          refine hK.out _ _ ⟨HPc2.out.box, HPc2.out.qs.bel⟩ (fun hHeld => ?_)
          clear hK K
          refine norm_ (a' := ?_) ?_ ?_
          rotate_left
          ·show Act.put _ (some 75) _ = _
           go_simp
           rfl
          have HBc3 := HBc2
          have HPc3 := HPc2
          clear HBc2 HPc2
          refine two_ (i := 10) (j := 14) (Ni := some 76) (Nj := some 10) (fB 17 2047) (fB 17 17407) rfl rfl rfl rfl (by kernel_rfl) (by decide) (by decide) (fun K hK => ?_) (fun K hK => ?_)
          ·skip
           refine goes_ Tryd.func18 (by kernel_rfl) rfl #[.agg (dqc q A1 c1 AO cO), .agg (xc (rf y.f2) (.slice Ag y.f2.f2.f2.length cg))] (by rfl) rfl rfl (by first | rfl | (simp only [List.map_toArray, List.map_cons, List.map_nil]; rfl)) ?_
           refine (docOffer_is HPc3.out.dq (by have h1 := HBq.out.l; have h2 := HBq.out.r; omega) (by have h1 := HBq.out.o; have h2 := HBq.out.n; have h3 := HI6.out; omega) y.f2 HSG.out HRg.out.2.2.2.2.2.2.2).mono ?_
           rintro e z3 ⟨A1n, c1n, AOn, cOn, rfl, hdq, hst⟩
           have HDQ := Aside0.mk hdq
           clear hdq
           have HBn := Aside0.mk (HBc3.out.trans (hst.mono HBc3.out.size))
           have HPn := Aside0.mk (HPc3.out.below hst)
           clear HBc3 HPc3
           have HBc3 := HBn
           have HPc3 := HPn
           clear HBn HPn 
           clear hst
           refine ⟨_, rfl, hK.out _ _ ⟨HPc3.out.box, HPc3.out.qs.bel⟩ (fun hHeld => ?_)⟩
           clear hK K
           refine norm_ (a' := ?_) ?_ ?_
           rotate_left
           ·show Act.put _ (some 76) _ = _
            go_simp
            rfl
           refine pure_ (i := 11) (N := some 65) (v := ?_) (a' := ?_) (fB 17 4095) rfl rfl (by kernel_rfl) (fun _ _ _ h => h) (Or.inl ⟨by rfl, ?_⟩) ?_ ?_
           rotate_left
           ·intro w'; go_simp; with_reducible rfl
           rotate_left
           ·go_simp; rfl
           refine pure_ (i := 12) (N := some 77) (v := ?_) (a' := ?_) (fB 17 8191) rfl rfl (by kernel_rfl) (fun _ _ _ h => h) (Or.inl ⟨by rfl, ?_⟩) ?_ ?_
           rotate_left
           ·intro w'; go_simp; with_reducible rfl
           rotate_left
           ·go_simp; rfl
           refine pure_ (i := 13) (N := some 78) (v := ?_) (a' := ?_) (fB 17 16383) rfl rfl (by kernel_rfl) (fun _ _ _ h => h) (Or.inl ⟨by rfl, ?_⟩) ?_ ?_
           rotate_left
           ·intro w'; go_simp; with_reducible rfl
           rotate_left
           ·go_simp; rfl
           have HBc4 := HBc3
           have HPc4 := HPc3
           clear HBc3 HPc3
           refine one_ (i := 14) (N := some 10) (fB 17 32767) rfl rfl (by kernel_rfl) (by decide) (fun K hK => ?_)
           refine event_step (v := .pointer (some ⟨z3.heap.size, 0, none⟩)) (w1 := (z3.alloc (.cells (qd 0 (.slice none 0 0) (.slice none 0 0)) 48 (0, 0)))) (by rfl) (by first | (go_simp; done) | (go_simp; rfl)) ?_
           have hst := below_alloc (Below.refl z3.heap.size z3) (.cells (qd 0 (.slice none 0 0) (.slice none 0 0)) 48 (0, 0))
           have HZb := Aside0.mk (blk_new z3 (.cells (qd 0 (.slice none 0 0) (.slice none 0 0)) 48 (0, 0)))
           obtain ⟨bz, hbz⟩ : ∃ bz, bz = z3.heap.size := ⟨_, rfl⟩
           have HNb := Aside0.mk (show wd.heap.size ≤ bz by rw [hbz]; exact HBc4.out.size)
           have HBn := Aside0.mk (HBc4.out.trans (hst.mono HBc4.out.size))
           have HPn := Aside0.mk (HPc4.out.below hst)
           have HDQn := Aside0.mk (HDQ.out.below hst)
           clear HBc4 HPc4 HDQ
           have HBc4 := HBn
           have HPc4 := HPn
           have HDQ := HDQn
           clear HBn HPn HDQn
           rw [← hbz] at HZb ⊢
           clear hbz hst
           refine hK.out _ _ ⟨HPc4.out.box, HPc4.out.qs.bel⟩ (fun hHeld => ?_)
           clear hK K
           refine norm_ (a' := ?_) ?_ ?_
           rotate_left
           ·show Act.put _ (some 10) _ = _
            go_simp
            rfl
           refine norm_ ?_ (HCO.out (.slice v72 1 1, .slice (some adv) 1 cv, .pointer (some adv), .agg #[.int .i64 y.f2.f0, .string y.f2.f1, .int .i64 y.f2.f2.f0.f0, .int .i64 y.f2.f2.f0.f1, .int .i64 y.f2.f2.f0.f2, .string y.f2.f2.f1, .slice Ag y.f2.f2.f2.length cg], A1n, c1n, AOn, cOn, bz) _ ⟨HDQ.out, HBc4.out, HZb.out, HNb.out⟩)
           simp only [putAll, Act.put, List.setIfInBounds_toArray, List.set_cons_zero, List.set_cons_succ, i64_w, i32_w]
           try rfl
          ·skip
           refine event_step (v := .pointer (some ⟨x1.heap.size, 0, none⟩)) (w1 := (x1.alloc (.cells (qd 0 (.slice none 0 0) (.slice none 0 0)) 48 (0, 0)))) (by rfl) (by first | (go_simp; done) | (go_simp; rfl)) ?_
           have hst := below_alloc (Below.refl x1.heap.size x1) (.cells (qd 0 (.slice none 0 0) (.slice none 0 0)) 48 (0, 0))
           have HZb := Aside0.mk (blk_new x1 (.cells (qd 0 (.slice none 0 0) (.slice none 0 0)) 48 (0, 0)))
           obtain ⟨bz, hbz⟩ : ∃ bz, bz = x1.heap.size := ⟨_, rfl⟩
           have HNb := Aside0.mk (show wd.heap.size ≤ bz by rw [hbz]; exact HBc3.out.size)
           have HBn := Aside0.mk (HBc3.out.trans (hst.mono HBc3.out.size))
           have HPn := Aside0.mk (HPc3.out.below hst)
           have HRgn := Aside0.mk (RG.below HRg.out hst)
           clear HBc3 HPc3 HRg
           have HBc3 := HBn
           have HPc3 := HPn
           have HRg := HRgn
           clear HBn HPn HRgn
           rw [← hbz] at HZb ⊢
           clear hbz hst
           refine hK.out _ _ ⟨HPc3.out.box, HPc3.out.qs.bel⟩ (fun hHeld => ?_)
           clear hK K
           refine norm_ (a' := ?_) ?_ ?_
           rotate_left
           ·show Act.put _ (some 10) _ = _
            go_simp
            rfl
           refine one_ (i := 10) (N := some 76) (fB 17 18431) rfl rfl (by kernel_rfl) (by decide) (fun K hK => ?_)
           refine goes_ Tryd.func18 (by kernel_rfl) rfl #[.agg (dqc q A1 c1 AO cO), .agg (xc (rf y.f2) (.slice Ag y.f2.f2.f2.length cg))] (by rfl) rfl rfl (by first | rfl | (simp only [List.map_toArray, List.map_cons, List.map_nil]; rfl)) ?_
           refine (docOffer_is HPc3.out.dq (by have h1 := HBq.out.l; have h2 := HBq.out.r; omega) (by have h1 := HBq.out.o; have h2 := HBq.out.n; have h3 := HI6.out; omega) y.f2 HSG.out HRg.out.2.2.2.2.2.2.2).mono ?_
           rintro e z3 ⟨A1n, c1n, AOn, cOn, rfl, hdq, hst⟩
           have HDQ := Aside0.mk hdq
           clear hdq
           have HBn := Aside0.mk (HBc3.out.trans (hst.mono HBc3.out.size))
           have HPn := Aside0.mk (HPc3.out.below hst)
           have HZn := Aside0.mk (keepB HZb.out hst)
           clear HBc3 HPc3 HZb
           have HBc3 := HBn
           have HPc3 := HPn
           have HZb := HZn
           clear HBn HPn HZn
           clear hst
           refine ⟨_, rfl, hK.out _ _ ⟨HPc3.out.box, HPc3.out.qs.bel⟩ (fun hHeld => ?_)⟩
           clear hK K
           refine norm_ (a' := ?_) ?_ ?_
           rotate_left
           ·show Act.put _ (some 76) _ = _
            go_simp
            rfl
           refine pure_ (i := 11) (N := some 65) (v := ?_) (a' := ?_) (fB 17 20479) rfl rfl (by kernel_rfl) (fun _ _ _ h => h) (Or.inl ⟨by rfl, ?_⟩) ?_ ?_
           rotate_left
           ·intro w'; go_simp; with_reducible rfl
           rotate_left
           ·go_simp; rfl
           refine pure_ (i := 12) (N := some 77) (v := ?_) (a' := ?_) (fB 17 24575) rfl rfl (by kernel_rfl) (fun _ _ _ h => h) (Or.inl ⟨by rfl, ?_⟩) ?_ ?_
           rotate_left
           ·intro w'; go_simp; with_reducible rfl
           rotate_left
           ·go_simp; rfl
           refine pure_ (i := 13) (N := some 78) (v := ?_) (a' := ?_) (fB 17 32767) rfl rfl (by kernel_rfl) (fun _ _ _ h => h) (Or.inl ⟨by rfl, ?_⟩) ?_ ?_
           rotate_left
           ·intro w'; go_simp; with_reducible rfl
           rotate_left
           ·go_simp; rfl
           have HBc4 := HBc3
           have HPc4 := HPc3
           clear HBc3 HPc3
           refine norm_ ?_ (HCO.out (.slice v72 1 1, .slice (some adv) 1 cv, .pointer (some adv), .agg #[.int .i64 y.f2.f0, .string y.f2.f1, .int .i64 y.f2.f2.f0.f0, .int .i64 y.f2.f2.f0.f1, .int .i64 y.f2.f2.f0.f2, .string y.f2.f2.f1, .slice Ag y.f2.f2.f2.length cg], A1n, c1n, AOn, cOn, bz) _ ⟨HDQ.out, HBc4.out, HZb.out, HNb.out⟩)
           simp only [putAll, Act.put, List.setIfInBounds_toArray, List.set_cons_zero, List.set_cons_succ, i64_w, i32_w]
           try rfl
         ·skip
          refine event_step (v := .pointer (some ⟨x1.heap.size, 0, none⟩)) (w1 := (x1.alloc (.cells (qd 0 (.slice none 0 0) (.slice none 0 0)) 48 (0, 0)))) (by rfl) (by first | (go_simp; done) | (go_simp; rfl)) ?_
          have hst := below_alloc (Below.refl x1.heap.size x1) (.cells (qd 0 (.slice none 0 0) (.slice none 0 0)) 48 (0, 0))
          have HZb := Aside0.mk (blk_new x1 (.cells (qd 0 (.slice none 0 0) (.slice none 0 0)) 48 (0, 0)))
          obtain ⟨bz, hbz⟩ : ∃ bz, bz = x1.heap.size := ⟨_, rfl⟩
          have HNb := Aside0.mk (show wd.heap.size ≤ bz by rw [hbz]; exact HBc2.out.size)
          have HBn := Aside0.mk (HBc2.out.trans (hst.mono HBc2.out.size))
          have HPn := Aside0.mk (HPc2.out.below hst)
          have HRgn := Aside0.mk (RG.below HRg.out hst)
          clear HBc2 HPc2 HRg
          have HBc2 := HBn
          have HPc2 := HPn
          have HRg := HRgn
          clear HBn HPn HRgn
          rw [← hbz] at HZb ⊢
          clear hbz hst
          refine hK.out _ _ ⟨HPc2.out.box, HPc2.out.qs.bel⟩ (fun hHeld => ?_)
          clear hK K
          refine norm_ (a' := ?_) ?_ ?_
          rotate_left
          ·show Act.put _ (some 10) _ = _
           go_simp
           rfl
          refine one_ (i := 9) (N := some 75) (fB 17 17407) rfl rfl (by kernel_rfl) (by decide) (fun K hK => ?_)
          have y0 := HRg.out.1
          have y1 := HRg.out.2.1
          have y2 := HRg.out.2.2.1
          have y3 := HRg.out.2.2.2.1
          have y4 := HRg.out.2.2.2.2.1
          have y5 := HRg.out.2.2.2.2.2.1
          have y6 := HRg.out.2.2.2.2.2.2.1
          refine event_step (v := .agg #[.int .i64 y.f2.f0, .string y.f2.f1, .int .i64 y.f2.f2.f0.f0, .int .i64 y.f2.f2.f0.f1, .int .i64 y.f2.f2.f0.f2, .string y.f2.f2.f1, .slice Ag y.f2.f2.f2.length cg]) (w1 := (x1.alloc (.cells (qd 0 (.slice none 0 0) (.slice none 0 0)) 48 (0, 0)))) (by rfl) (by first | (go_simp; done) | (go_simp; rfl)) ?_
          clear y0 y1 y2 y3 y4 y5 y6
          refine hK.out _ _ ⟨HPc2.out.box, HPc2.out.qs.bel⟩ (fun hHeld => ?_)
          clear hK K
          refine norm_ (a' := ?_) ?_ ?_
          rotate_left
          ·show Act.put _ (some 75) _ = _
           go_simp
           rfl
          have HBc3 := HBc2
          have HPc3 := HPc2
          clear HBc2 HPc2
          refine one_ (i := 10) (N := some 76) (fB 17 18431) rfl rfl (by kernel_rfl) (by decide) (fun K hK => ?_)
          refine goes_ Tryd.func18 (by kernel_rfl) rfl #[.agg (dqc q A1 c1 AO cO), .agg (xc (rf y.f2) (.slice Ag y.f2.f2.f2.length cg))] (by rfl) rfl rfl (by first | rfl | (simp only [List.map_toArray, List.map_cons, List.map_nil]; rfl)) ?_
          refine (docOffer_is HPc3.out.dq (by have h1 := HBq.out.l; have h2 := HBq.out.r; omega) (by have h1 := HBq.out.o; have h2 := HBq.out.n; have h3 := HI6.out; omega) y.f2 HSG.out HRg.out.2.2.2.2.2.2.2).mono ?_
          rintro e z3 ⟨A1n, c1n, AOn, cOn, rfl, hdq, hst⟩
          have HDQ := Aside0.mk hdq
          clear hdq
          have HBn := Aside0.mk (HBc3.out.trans (hst.mono HBc3.out.size))
          have HPn := Aside0.mk (HPc3.out.below hst)
          have HZn := Aside0.mk (keepB HZb.out hst)
          clear HBc3 HPc3 HZb
          have HBc3 := HBn
          have HPc3 := HPn
          have HZb := HZn
          clear HBn HPn HZn
          clear hst
          refine ⟨_, rfl, hK.out _ _ ⟨HPc3.out.box, HPc3.out.qs.bel⟩ (fun hHeld => ?_)⟩
          clear hK K
          refine norm_ (a' := ?_) ?_ ?_
          rotate_left
          ·show Act.put _ (some 76) _ = _
           go_simp
           rfl
          refine pure_ (i := 11) (N := some 65) (v := ?_) (a' := ?_) (fB 17 20479) rfl rfl (by kernel_rfl) (fun _ _ _ h => h) (Or.inl ⟨by rfl, ?_⟩) ?_ ?_
          rotate_left
          ·intro w'; go_simp; with_reducible rfl
          rotate_left
          ·go_simp; rfl
          refine pure_ (i := 12) (N := some 77) (v := ?_) (a' := ?_) (fB 17 24575) rfl rfl (by kernel_rfl) (fun _ _ _ h => h) (Or.inl ⟨by rfl, ?_⟩) ?_ ?_
          rotate_left
          ·intro w'; go_simp; with_reducible rfl
          rotate_left
          ·go_simp; rfl
          refine pure_ (i := 13) (N := some 78) (v := ?_) (a' := ?_) (fB 17 32767) rfl rfl (by kernel_rfl) (fun _ _ _ h => h) (Or.inl ⟨by rfl, ?_⟩) ?_ ?_
          rotate_left
          ·intro w'; go_simp; with_reducible rfl
          rotate_left
          ·go_simp; rfl
          have HBc4 := HBc3
          have HPc4 := HPc3
          clear HBc3 HPc3
          refine norm_ ?_ (HCO.out (.slice v72 1 1, .slice (some adv) 1 cv, .pointer (some adv), .agg #[.int .i64 y.f2.f0, .string y.f2.f1, .int .i64 y.f2.f2.f0.f0, .int .i64 y.f2.f2.f0.f1, .int .i64 y.f2.f2.f0.f2, .string y.f2.f2.f1, .slice Ag y.f2.f2.f2.length cg], A1n, c1n, AOn, cOn, bz) _ ⟨HDQ.out, HBc4.out, HZb.out, HNb.out⟩)
          simp only [putAll, Act.put, List.setIfInBounds_toArray, List.set_cons_zero, List.set_cons_succ, i64_w, i32_w]
          try rfl
        ·skip
         refine event_step (v := .pointer (some ⟨(wd.alloc (.cells #[.int .i64 y.f2.f0, .string y.f2.f1, .int .i64 y.f2.f2.f0.f0, .int .i64 y.f2.f2.f0.f1, .int .i64 y.f2.f2.f0.f2, .string y.f2.f2.f1, .slice A8 y.f2.f2.f2.length c8] 36 (0, 0))).heap.size, 0, none⟩)) (w1 := ((wd.alloc (.cells #[.int .i64 y.f2.f0, .string y.f2.f1, .int .i64 y.f2.f2.f0.f0, .int .i64 y.f2.f2.f0.f1, .int .i64 y.f2.f2.f0.f2, .string y.f2.f2.f1, .slice A8 y.f2.f2.f2.length c8] 36 (0, 0))).alloc (.cells (qd 0 (.slice none 0 0) (.slice none 0 0)) 48 (0, 0)))) (by rfl) (by first | (go_simp; done) | (go_simp; rfl)) ?_
         have hst := below_alloc (Below.refl (wd.alloc (.cells #[.int .i64 y.f2.f0, .string y.f2.f1, .int .i64 y.f2.f2.f0.f0, .int .i64 y.f2.f2.f0.f1, .int .i64 y.f2.f2.f0.f2, .string y.f2.f2.f1, .slice A8 y.f2.f2.f2.length c8] 36 (0, 0))).heap.size (wd.alloc (.cells #[.int .i64 y.f2.f0, .string y.f2.f1, .int .i64 y.f2.f2.f0.f0, .int .i64 y.f2.f2.f0.f1, .int .i64 y.f2.f2.f0.f2, .string y.f2.f2.f1, .slice A8 y.f2.f2.f2.length c8] 36 (0, 0)))) (.cells (qd 0 (.slice none 0 0) (.slice none 0 0)) 48 (0, 0))
         have HZb := Aside0.mk (blk_new (wd.alloc (.cells #[.int .i64 y.f2.f0, .string y.f2.f1, .int .i64 y.f2.f2.f0.f0, .int .i64 y.f2.f2.f0.f1, .int .i64 y.f2.f2.f0.f2, .string y.f2.f2.f1, .slice A8 y.f2.f2.f2.length c8] 36 (0, 0))) (.cells (qd 0 (.slice none 0 0) (.slice none 0 0)) 48 (0, 0)))
         obtain ⟨bz, hbz⟩ : ∃ bz, bz = (wd.alloc (.cells #[.int .i64 y.f2.f0, .string y.f2.f1, .int .i64 y.f2.f2.f0.f0, .int .i64 y.f2.f2.f0.f1, .int .i64 y.f2.f2.f0.f2, .string y.f2.f2.f1, .slice A8 y.f2.f2.f2.length c8] 36 (0, 0))).heap.size := ⟨_, rfl⟩
         have HNb := Aside0.mk (show wd.heap.size ≤ bz by rw [hbz]; exact HBc1.out.size)
         have HBn := Aside0.mk (HBc1.out.trans (hst.mono HBc1.out.size))
         have HPn := Aside0.mk (HPc1.out.below hst)
         have HLitn := Aside0.mk (Kd.C_below HLit.out hst)
         clear HBc1 HPc1 HLit
         have HBc1 := HBn
         have HPc1 := HPn
         have HLit := HLitn
         clear HBn HPn HLitn
         rw [← hbz] at HZb ⊢
         clear hbz hst
         refine hK.out _ _ ⟨HPc1.out.box, HPc1.out.qs.bel⟩ (fun hHeld => ?_)
         clear hK K
         refine norm_ (a' := ?_) ?_ ?_
         rotate_left
         ·show Act.put _ (some 10) _ = _
          go_simp
          rfl
         refine one_ (i := 7) (N := some 73) (fB 17 16639) rfl rfl (by kernel_rfl) (by decide) (fun K hK => ?_)
         refine goes_ Tryd.func19 (by kernel_rfl) rfl #[.slice v72 1 1] (by rfl) rfl rfl (by first | rfl | (simp only [List.map_toArray, List.map_cons, List.map_nil]; rfl)) ?_
         refine (refs_n (n := 1) rfl HLit.out (Nat.le_refl _) (by decide) (fun G hG => by rw [List.mem_singleton.1 hG]; have := HSG.out.at_.1; omega)).mono ?_
         rintro e x1 ⟨Av, cv, rfl, hr, hst⟩
         clear HLit
         have hel := DRow.elem (DRow.of_R (Kd.R_lower hr (Nat.zero_le _))).2.2 0 Nat.zero_lt_one
         obtain ⟨adv, Ag, cg, rfl, g0, g1, g2, g3, g4, g5, g6, g7⟩ := hel
         rw [show adv.add (0 * 7) = adv by simp [Addr.add]] at g0 g1 g2 g3 g4 g5 g6
         have HRg := Aside0.mk (show RG x1 adv Ag cg y.f2 from (show x1.cell? adv = some (.int .i64 y.f2.f0) ∧ x1.cell? ⟨adv.block, adv.off + 1, none⟩ = some (.string y.f2.f1) ∧ x1.cell? ⟨adv.block, adv.off + 2, none⟩ = some (.int .i64 y.f2.f2.f0.f0) ∧ x1.cell? ⟨adv.block, adv.off + 3, none⟩ = some (.int .i64 y.f2.f2.f0.f1) ∧ x1.cell? ⟨adv.block, adv.off + 4, none⟩ = some (.int .i64 y.f2.f2.f0.f2) ∧ x1.cell? ⟨adv.block, adv.off + 5, none⟩ = some (.string y.f2.f2.f1) ∧ x1.cell? ⟨adv.block, adv.off + 6, none⟩ = some (.slice Ag y.f2.f2.f2.length cg) ∧ k104.R 104 x1 0 (fun _ => True) (.slice Ag y.f2.f2.f2.length cg) (y.f2.f2.f2.map ra) from ⟨g0, g1, g2, g3, g4, g5, by rw [g6]; show some (Value.slice Ag (y.f2.f2.f2.map ra).length cg) = _; rw [List.length_map], by have g8 : k104.R 104 x1 0 (fun _ => True) (.slice Ag (y.f2.f2.f2.map ra).length cg) (y.f2.f2.f2.map ra) := g7; rwa [List.length_map] at g8⟩))
         clear g0 g1 g2 g3 g4 g5 g6 g7 hr
         have HBn := Aside0.mk (HBc1.out.trans (hst.mono HBc1.out.size))
         have HPn := Aside0.mk (HPc1.out.below hst)
         have HZn := Aside0.mk (keepB HZb.out hst)
         clear HBc1 HPc1 HZb
         have HBc1 := HBn
         have HPc1 := HPn
         have HZb := HZn
         clear HBn HPn HZn
         clear hst
         refine ⟨_, rfl, hK.out _ _ ⟨HPc1.out.box, HPc1.out.qs.bel⟩ (fun hHeld => ?_)⟩
         clear hK K
         refine norm_ (a' := ?_) ?_ ?_
         rotate_left
         ·show Act.put _ (some 73) _ = _
          go_simp
          rfl
         refine pure_ (i := 8) (N := some 74) (v := ?_) (a' := ?_) (fB 17 16895) rfl rfl (by kernel_rfl) (fun _ _ _ h => h) (Or.inl ⟨by rfl, ?_⟩) ?_ ?_
         rotate_left
         ·intro w'; go_simp; with_reducible rfl
         rotate_left
         ·go_simp; rfl
         have HBc2 := HBc1
         have HPc2 := HPc1
         clear HBc1 HPc1
         refine one_ (i := 9) (N := some 75) (fB 17 17407) rfl rfl (by kernel_rfl) (by decide) (fun K hK => ?_)
         have y0 := HRg.out.1
         have y1 := HRg.out.2.1
         have y2 := HRg.out.2.2.1
         have y3 := HRg.out.2.2.2.1
         have y4 := HRg.out.2.2.2.2.1
         have y5 := HRg.out.2.2.2.2.2.1
         have y6 := HRg.out.2.2.2.2.2.2.1
         refine event_step (v := .agg #[.int .i64 y.f2.f0, .string y.f2.f1, .int .i64 y.f2.f2.f0.f0, .int .i64 y.f2.f2.f0.f1, .int .i64 y.f2.f2.f0.f2, .string y.f2.f2.f1, .slice Ag y.f2.f2.f2.length cg]) (w1 := x1) (by rfl) (by first | (go_simp; done) | (go_simp; rfl)) ?_
         clear y0 y1 y2 y3 y4 y5 y6
         refine hK.out _ _ ⟨HPc2.out.box, HPc2.out.qs.bel⟩ (fun hHeld => ?_)
         clear hK K
         refine norm_ (a' := ?_) ?_ ?_
         rotate_left
         ·show Act.put _ (some 75) _ = _
          go_simp
          rfl
         have HBc3 := HBc2
         have HPc3 := HPc2
         clear HBc2 HPc2
         refine one_ (i := 10) (N := some 76) (fB 17 18431) rfl rfl (by kernel_rfl) (by decide) (fun K hK => ?_)
         refine goes_ Tryd.func18 (by kernel_rfl) rfl #[.agg (dqc q A1 c1 AO cO), .agg (xc (rf y.f2) (.slice Ag y.f2.f2.f2.length cg))] (by rfl) rfl rfl (by first | rfl | (simp only [List.map_toArray, List.map_cons, List.map_nil]; rfl)) ?_
         refine (docOffer_is HPc3.out.dq (by have h1 := HBq.out.l; have h2 := HBq.out.r; omega) (by have h1 := HBq.out.o; have h2 := HBq.out.n; have h3 := HI6.out; omega) y.f2 HSG.out HRg.out.2.2.2.2.2.2.2).mono ?_
         rintro e z3 ⟨A1n, c1n, AOn, cOn, rfl, hdq, hst⟩
         have HDQ := Aside0.mk hdq
         clear hdq
         have HBn := Aside0.mk (HBc3.out.trans (hst.mono HBc3.out.size))
         have HPn := Aside0.mk (HPc3.out.below hst)
         have HZn := Aside0.mk (keepB HZb.out hst)
         clear HBc3 HPc3 HZb
         have HBc3 := HBn
         have HPc3 := HPn
         have HZb := HZn
         clear HBn HPn HZn
         clear hst
         refine ⟨_, rfl, hK.out _ _ ⟨HPc3.out.box, HPc3.out.qs.bel⟩ (fun hHeld => ?_)⟩
         clear hK K
         refine norm_ (a' := ?_) ?_ ?_
         rotate_left
         ·show Act.put _ (some 76) _ = _
          go_simp
          rfl
         refine pure_ (i := 11) (N := some 65) (v := ?_) (a' := ?_) (fB 17 20479) rfl rfl (by kernel_rfl) (fun _ _ _ h => h) (Or.inl ⟨by rfl, ?_⟩) ?_ ?_
         rotate_left
         ·intro w'; go_simp; with_reducible rfl
         rotate_left
         ·go_simp; rfl
         refine pure_ (i := 12) (N := some 77) (v := ?_) (a' := ?_) (fB 17 24575) rfl rfl (by kernel_rfl) (fun _ _ _ h => h) (Or.inl ⟨by rfl, ?_⟩) ?_ ?_
         rotate_left
         ·intro w'; go_simp; with_reducible rfl
         rotate_left
         ·go_simp; rfl
         refine pure_ (i := 13) (N := some 78) (v := ?_) (a' := ?_) (fB 17 32767) rfl rfl (by kernel_rfl) (fun _ _ _ h => h) (Or.inl ⟨by rfl, ?_⟩) ?_ ?_
         rotate_left
         ·intro w'; go_simp; with_reducible rfl
         rotate_left
         ·go_simp; rfl
         have HBc4 := HBc3
         have HPc4 := HPc3
         clear HBc3 HPc3
         refine norm_ ?_ (HCO.out (.slice v72 1 1, .slice (some adv) 1 cv, .pointer (some adv), .agg #[.int .i64 y.f2.f0, .string y.f2.f1, .int .i64 y.f2.f2.f0.f0, .int .i64 y.f2.f2.f0.f1, .int .i64 y.f2.f2.f0.f2, .string y.f2.f2.f1, .slice Ag y.f2.f2.f2.length cg], A1n, c1n, AOn, cOn, bz) _ ⟨HDQ.out, HBc4.out, HZb.out, HNb.out⟩)
         simp only [putAll, Act.put, List.setIfInBounds_toArray, List.set_cons_zero, List.set_cons_succ, i64_w, i32_w]
         try rfl
       ·skip
        refine event_step (v := .pointer (some ⟨wd.heap.size, 0, none⟩)) (w1 := (wd.alloc (.cells (qd 0 (.slice none 0 0) (.slice none 0 0)) 48 (0, 0)))) (by rfl) (by first | (go_simp; done) | (go_simp; rfl)) ?_
        have hst := below_alloc (Below.refl wd.heap.size wd) (.cells (qd 0 (.slice none 0 0) (.slice none 0 0)) 48 (0, 0))
        have HZb := Aside0.mk (blk_new wd (.cells (qd 0 (.slice none 0 0) (.slice none 0 0)) 48 (0, 0)))
        obtain ⟨bz, hbz⟩ : ∃ bz, bz = wd.heap.size := ⟨_, rfl⟩
        have HNb := Aside0.mk (show wd.heap.size ≤ bz by rw [hbz]; exact HBc0.out.size)
        have HBn := Aside0.mk (HBc0.out.trans (hst.mono HBc0.out.size))
        have HPn := Aside0.mk (HPc0.out.below hst)
        clear HBc0 HPc0
        have HBc0 := HBn
        have HPc0 := HPn
        clear HBn HPn 
        rw [← hbz] at HZb ⊢
        clear hbz hst
        refine hK.out _ _ ⟨HPc0.out.box, HPc0.out.qs.bel⟩ (fun hHeld => ?_)
        clear hK K
        refine norm_ (a' := ?_) ?_ ?_
        rotate_left
        ·show Act.put _ (some 10) _ = _
         go_simp
         rfl
        refine one_ (i := 6) (N := some 72) (fB 17 16511) rfl rfl (by kernel_rfl) (by decide) (fun K hK => ?_)
        refine event_step (v := .slice (some ⟨(wd.alloc (.cells (qd 0 (.slice none 0 0) (.slice none 0 0)) 48 (0, 0))).heap.size, 0, none⟩) 1 1) (w1 := ((wd.alloc (.cells (qd 0 (.slice none 0 0) (.slice none 0 0)) 48 (0, 0))).alloc (.cells #[.int .i64 y.f2.f0, .string y.f2.f1, .int .i64 y.f2.f2.f0.f0, .int .i64 y.f2.f2.f0.f1, .int .i64 y.f2.f2.f0.f2, .string y.f2.f2.f1, .slice A8 y.f2.f2.f2.length c8] 36 (0, 0)))) (by rfl) (by first | (go_simp; done) | (go_simp; rfl)) ?_
        have hst := below_alloc (Below.refl (wd.alloc (.cells (qd 0 (.slice none 0 0) (.slice none 0 0)) 48 (0, 0))).heap.size (wd.alloc (.cells (qd 0 (.slice none 0 0) (.slice none 0 0)) 48 (0, 0)))) (.cells #[.int .i64 y.f2.f0, .string y.f2.f1, .int .i64 y.f2.f2.f0.f0, .int .i64 y.f2.f2.f0.f1, .int .i64 y.f2.f2.f0.f2, .string y.f2.f2.f1, .slice A8 y.f2.f2.f2.length c8] 36 (0, 0))
        have HLit := Aside0.mk (show k36.C ((wd.alloc (.cells (qd 0 (.slice none 0 0) (.slice none 0 0)) 48 (0, 0))).alloc (.cells #[.int .i64 y.f2.f0, .string y.f2.f1, .int .i64 y.f2.f2.f0.f0, .int .i64 y.f2.f2.f0.f1, .int .i64 y.f2.f2.f0.f2, .string y.f2.f2.f1, .slice A8 y.f2.f2.f2.length c8] 36 (0, 0))) (some ⟨(wd.alloc (.cells (qd 0 (.slice none 0 0) (.slice none 0 0)) 48 (0, 0))).heap.size, 0, none⟩) 1 [y.f2] from lit36 (wd.alloc (.cells (qd 0 (.slice none 0 0) (.slice none 0 0)) 48 (0, 0))) y.f2 (Kd.C_below HC8.out HPc0.out.qs.bel) HC8l.out)
        obtain ⟨v72, hv72⟩ : ∃ v72 : Option Addr, v72 = some ⟨(wd.alloc (.cells (qd 0 (.slice none 0 0) (.slice none 0 0)) 48 (0, 0))).heap.size, 0, none⟩ := ⟨_, rfl⟩
        rw [← hv72] at HLit ⊢
        clear hv72
        have HBn := Aside0.mk (HBc0.out.trans (hst.mono HBc0.out.size))
        have HPn := Aside0.mk (HPc0.out.below hst)
        have HZn := Aside0.mk (keepB HZb.out hst)
        clear HBc0 HPc0 HZb
        have HBc0 := HBn
        have HPc0 := HPn
        have HZb := HZn
        clear HBn HPn HZn
        clear hst
        refine hK.out _ _ ⟨HPc0.out.box, HPc0.out.qs.bel⟩ (fun hHeld => ?_)
        clear hK K
        refine norm_ (a' := ?_) ?_ ?_
        rotate_left
        ·show Act.put _ (some 72) _ = _
         go_simp
         rfl
        have HBc1 := HBc0
        have HPc1 := HPc0
        clear HBc0 HPc0
        refine one_ (i := 7) (N := some 73) (fB 17 16639) rfl rfl (by kernel_rfl) (by decide) (fun K hK => ?_)
        refine goes_ Tryd.func19 (by kernel_rfl) rfl #[.slice v72 1 1] (by rfl) rfl rfl (by first | rfl | (simp only [List.map_toArray, List.map_cons, List.map_nil]; rfl)) ?_
        refine (refs_n (n := 1) rfl HLit.out (Nat.le_refl _) (by decide) (fun G hG => by rw [List.mem_singleton.1 hG]; have := HSG.out.at_.1; omega)).mono ?_
        rintro e x1 ⟨Av, cv, rfl, hr, hst⟩
        clear HLit
        have hel := DRow.elem (DRow.of_R (Kd.R_lower hr (Nat.zero_le _))).2.2 0 Nat.zero_lt_one
        obtain ⟨adv, Ag, cg, rfl, g0, g1, g2, g3, g4, g5, g6, g7⟩ := hel
        rw [show adv.add (0 * 7) = adv by simp [Addr.add]] at g0 g1 g2 g3 g4 g5 g6
        have HRg := Aside0.mk (show RG x1 adv Ag cg y.f2 from (show x1.cell? adv = some (.int .i64 y.f2.f0) ∧ x1.cell? ⟨adv.block, adv.off + 1, none⟩ = some (.string y.f2.f1) ∧ x1.cell? ⟨adv.block, adv.off + 2, none⟩ = some (.int .i64 y.f2.f2.f0.f0) ∧ x1.cell? ⟨adv.block, adv.off + 3, none⟩ = some (.int .i64 y.f2.f2.f0.f1) ∧ x1.cell? ⟨adv.block, adv.off + 4, none⟩ = some (.int .i64 y.f2.f2.f0.f2) ∧ x1.cell? ⟨adv.block, adv.off + 5, none⟩ = some (.string y.f2.f2.f1) ∧ x1.cell? ⟨adv.block, adv.off + 6, none⟩ = some (.slice Ag y.f2.f2.f2.length cg) ∧ k104.R 104 x1 0 (fun _ => True) (.slice Ag y.f2.f2.f2.length cg) (y.f2.f2.f2.map ra) from ⟨g0, g1, g2, g3, g4, g5, by rw [g6]; show some (Value.slice Ag (y.f2.f2.f2.map ra).length cg) = _; rw [List.length_map], by have g8 : k104.R 104 x1 0 (fun _ => True) (.slice Ag (y.f2.f2.f2.map ra).length cg) (y.f2.f2.f2.map ra) := g7; rwa [List.length_map] at g8⟩))
        clear g0 g1 g2 g3 g4 g5 g6 g7 hr
        have HBn := Aside0.mk (HBc1.out.trans (hst.mono HBc1.out.size))
        have HPn := Aside0.mk (HPc1.out.below hst)
        have HZn := Aside0.mk (keepB HZb.out hst)
        clear HBc1 HPc1 HZb
        have HBc1 := HBn
        have HPc1 := HPn
        have HZb := HZn
        clear HBn HPn HZn
        clear hst
        refine ⟨_, rfl, hK.out _ _ ⟨HPc1.out.box, HPc1.out.qs.bel⟩ (fun hHeld => ?_)⟩
        clear hK K
        refine norm_ (a' := ?_) ?_ ?_
        rotate_left
        ·show Act.put _ (some 73) _ = _
         go_simp
         rfl
        refine pure_ (i := 8) (N := some 74) (v := ?_) (a' := ?_) (fB 17 16895) rfl rfl (by kernel_rfl) (fun _ _ _ h => h) (Or.inl ⟨by rfl, ?_⟩) ?_ ?_
        rotate_left
        ·intro w'; go_simp; with_reducible rfl
        rotate_left
        ·go_simp; rfl
        have HBc2 := HBc1
        have HPc2 := HPc1
        clear HBc1 HPc1
        refine one_ (i := 9) (N := some 75) (fB 17 17407) rfl rfl (by kernel_rfl) (by decide) (fun K hK => ?_)
        have y0 := HRg.out.1
        have y1 := HRg.out.2.1
        have y2 := HRg.out.2.2.1
        have y3 := HRg.out.2.2.2.1
        have y4 := HRg.out.2.2.2.2.1
        have y5 := HRg.out.2.2.2.2.2.1
        have y6 := HRg.out.2.2.2.2.2.2.1
        refine event_step (v := .agg #[.int .i64 y.f2.f0, .string y.f2.f1, .int .i64 y.f2.f2.f0.f0, .int .i64 y.f2.f2.f0.f1, .int .i64 y.f2.f2.f0.f2, .string y.f2.f2.f1, .slice Ag y.f2.f2.f2.length cg]) (w1 := x1) (by rfl) (by first | (go_simp; done) | (go_simp; rfl)) ?_
        clear y0 y1 y2 y3 y4 y5 y6
        refine hK.out _ _ ⟨HPc2.out.box, HPc2.out.qs.bel⟩ (fun hHeld => ?_)
        clear hK K
        refine norm_ (a' := ?_) ?_ ?_
        rotate_left
        ·show Act.put _ (some 75) _ = _
         go_simp
         rfl
        have HBc3 := HBc2
        have HPc3 := HPc2
        clear HBc2 HPc2
        refine one_ (i := 10) (N := some 76) (fB 17 18431) rfl rfl (by kernel_rfl) (by decide) (fun K hK => ?_)
        refine goes_ Tryd.func18 (by kernel_rfl) rfl #[.agg (dqc q A1 c1 AO cO), .agg (xc (rf y.f2) (.slice Ag y.f2.f2.f2.length cg))] (by rfl) rfl rfl (by first | rfl | (simp only [List.map_toArray, List.map_cons, List.map_nil]; rfl)) ?_
        refine (docOffer_is HPc3.out.dq (by have h1 := HBq.out.l; have h2 := HBq.out.r; omega) (by have h1 := HBq.out.o; have h2 := HBq.out.n; have h3 := HI6.out; omega) y.f2 HSG.out HRg.out.2.2.2.2.2.2.2).mono ?_
        rintro e z3 ⟨A1n, c1n, AOn, cOn, rfl, hdq, hst⟩
        have HDQ := Aside0.mk hdq
        clear hdq
        have HBn := Aside0.mk (HBc3.out.trans (hst.mono HBc3.out.size))
        have HPn := Aside0.mk (HPc3.out.below hst)
        have HZn := Aside0.mk (keepB HZb.out hst)
        clear HBc3 HPc3 HZb
        have HBc3 := HBn
        have HPc3 := HPn
        have HZb := HZn
        clear HBn HPn HZn
        clear hst
        refine ⟨_, rfl, hK.out _ _ ⟨HPc3.out.box, HPc3.out.qs.bel⟩ (fun hHeld => ?_)⟩
        clear hK K
        refine norm_ (a' := ?_) ?_ ?_
        rotate_left
        ·show Act.put _ (some 76) _ = _
         go_simp
         rfl
        refine pure_ (i := 11) (N := some 65) (v := ?_) (a' := ?_) (fB 17 20479) rfl rfl (by kernel_rfl) (fun _ _ _ h => h) (Or.inl ⟨by rfl, ?_⟩) ?_ ?_
        rotate_left
        ·intro w'; go_simp; with_reducible rfl
        rotate_left
        ·go_simp; rfl
        refine pure_ (i := 12) (N := some 77) (v := ?_) (a' := ?_) (fB 17 24575) rfl rfl (by kernel_rfl) (fun _ _ _ h => h) (Or.inl ⟨by rfl, ?_⟩) ?_ ?_
        rotate_left
        ·intro w'; go_simp; with_reducible rfl
        rotate_left
        ·go_simp; rfl
        refine pure_ (i := 13) (N := some 78) (v := ?_) (a' := ?_) (fB 17 32767) rfl rfl (by kernel_rfl) (fun _ _ _ h => h) (Or.inl ⟨by rfl, ?_⟩) ?_ ?_
        rotate_left
        ·intro w'; go_simp; with_reducible rfl
        rotate_left
        ·go_simp; rfl
        have HBc4 := HBc3
        have HPc4 := HPc3
        clear HBc3 HPc3
        refine norm_ ?_ (HCO.out (.slice v72 1 1, .slice (some adv) 1 cv, .pointer (some adv), .agg #[.int .i64 y.f2.f0, .string y.f2.f1, .int .i64 y.f2.f2.f0.f0, .int .i64 y.f2.f2.f0.f1, .int .i64 y.f2.f2.f0.f2, .string y.f2.f2.f1, .slice Ag y.f2.f2.f2.length cg], A1n, c1n, AOn, cOn, bz) _ ⟨HDQ.out, HBc4.out, HZb.out, HNb.out⟩)
        simp only [putAll, Act.put, List.setIfInBounds_toArray, List.set_cons_zero, List.set_cons_succ, i64_w, i32_w]
        try rfl
      rintro ⟨v72, v73, v74, v75, A1n, c1n, AOn, cOn, bz⟩ wj hj
      try dsimp only at hj ⊢
      refine norm_ (a' := ?_) ?_ ?_
      rotate_left
      ·simp only [putAll, Act.put, List.setIfInBounds_toArray, List.set_cons_zero, List.set_cons_succ, i64_w, i32_w]
       rfl
      obtain ⟨hdq, hbw, hzb, hnb⟩ := hj
      obtain ⟨r2, hr2⟩ : ∃ r2, r2 = offQ q y.f2 (chk y.f2.f1.data.toList) (evB y.f2.f2) := ⟨_, rfl⟩
      rw [← hr2] at hdq ⊢
      obtain ⟨hps, hx1, hx2⟩ := HPc0.out.put hbw hdq hzb hnb
      skip
      refine last_ (i := 15) (N := none) (fB 17 65535) rfl rfl (by kernel_rfl) (by decide) (fun K hK => ?_)
      refine storeRow_ (by rfl) 48 (.tmp 10) (.tmp 77) rfl rfl bz (dqc r2 A1n c1n AOn cOn) rfl rfl 48 (qd 0 (.slice none 0 0) (.slice none 0 0)) hzb info48s rfl (dqc_one _ _ _ _ _) ?_
      have HPS := Aside0.mk hps
      have HX1 := Aside0.mk hx1
      have HX2 := Aside0.mk hx2
      have HR2 := Aside0.mk hr2
      clear hdq hbw hzb hnb hps hx1 hx2 hr2
      refine hK.out _ _ ?_
      clear hK K
      refine pure_ (i := 16) (N := some 11) (v := ?_) (a' := ?_) (fB 17 131071) rfl rfl (by kernel_rfl) (fun _ _ _ h => h) (Or.inl ⟨by rfl, ?_⟩) ?_ ?_
      rotate_left
      ·intro w'; go_simp; with_reducible rfl
      rotate_left
      ·go_simp; rfl
      refine done_ (by kernel_rfl) ?_
      have e2 := cellB HPS.out.qs.bel HY.out.2.2.1
      have e3 := cellB HPS.out.qs.bel HY.out.2.2.2.1
      have e4 := cellB HPS.out.qs.bel HY.out.2.2.2.2.1
      have e5 := cellB HPS.out.qs.bel HY.out.2.2.2.2.2.1
      have e6 := cellB HPS.out.qs.bel HY.out.2.2.2.2.2.2.1
      have e7 := cellB HPS.out.qs.bel HY.out.2.2.2.2.2.2.2.1
      have e8 := cellB HPS.out.qs.bel HY.out.2.2.2.2.2.2.2.2
      go_wp2_with (first
       | ((with_reducible refine gate_dst (N := 79) rfl ?_); refine wpList_load_row rfl 48 (.tmp 10) rfl bz rfl 48 _ (0, 0) _ HX1.out Tryd.underlying48 rfl info48s ?_)
       | ((with_reducible refine gate_store (t := 48) (p := 8) rfl ?_); refine wpList_store_row rfl 48 (.tmp 8) (.tmp 79) rfl gr (dqc r2 A1n c1n AOn cOn) rfl rfl 48 (dqc q A1 c1 AO cO) HX2.out info48s rfl (dqc_one _ _ _ _ _) ?_)
       | ((with_reducible refine gate_dst (N := 86) rfl ?_); refine goesL_ (some 86) rfl rfl Tryd.func9 (by kernel_rfl) rfl #[.pointer (some ⟨g, 0, none⟩), .agg (gc y.f2 (.slice A8 y.f2.f2.f2.length c8))] rfl (by first | (simp only [List.map_toArray, List.map_cons, List.map_nil]; rfl) | rfl) ?_; refine (offer_is HPS.out.qs.qu HBq.out (by omega) (HT.out.below HPS.out.qs.bel) y.f2 (Kd.C_below HC8.out HPS.out.qs.bel) HC8l.out (by have := HSG.out.at_.1; omega) HWf.out.2 (NQ.name_Check_is y.f2.f1 (by have := HSG.out.f1; omega)) (event_is y.f2.f2 HSG.out.ty HSG.out.at_)).mono ?_; rintro e w9 ⟨rfl, v9, hs9⟩; have HP9 := Aside0.mk (show PS W w9 g m gr r2 v9 r2 A1n c1n AOn cOn by have h9 := HPS.out.step hs9; rwa [← HR2.out] at h9); clear hs9; refine ⟨_, rfl, ?_⟩))
      go_meet
      case rel => exact ⟨r2, v9, _, _, _, _, HP9, ⟨by rw [HR2.out]; exact HBq.out.offQ _ _ _⟩, ⟨by rw [HR2.out]; exact HSm.out.offQ (by have := HSG.out.at_.1; omega) _ _⟩⟩
     ·have f0 : (y.f0 == 0) = false := by simpa using k0
      by_cases k1' : y.f0 = 1
      ·have f1 : (y.f0 == 1) = true := by rw [k1']; rfl
       clear k0 k1'
       have HPd := Aside0.mk (HP.out.below (below_drew1 (Below.refl _ _)))
       go_wp2
       refine start_ (n := 13) (S := fun w' => w'.heap[gr]? = some (.cells (dqc q A1 c1 AO cO) 48 (0, 0)) ∧ Below W.heap.size W w') (ds := [11]) #[false, false, false, false, false, false, false, false, false, false, false, false, false] (by kernel_rfl) rfl rfl ⟨HPd.out.box, HPd.out.qs.bel⟩ (fun hHeld => ?_)
       
       refine take_ (i := 0) (N := some 92) (v := ?_) (a' := ?_) (fB 13 1) rfl rfl (by kernel_rfl) (fun _ _ _ h => h) (Or.inl ⟨by rfl, ?_⟩) hHeld ?_ ?_
       rotate_left
       ·rintro w' ⟨s0, s1⟩
        have y0 := (blk_cell s0 0).trans (show (dqc q A1 c1 AO cO)[0]? = some (.int .i64 q.room) from rfl)
        have y1 := (blk_cell s0 1).trans (show (dqc q A1 c1 AO cO)[1]? = some (.slice A1 q.l.length c1) from rfl)
        have y2 := (blk_cell s0 2).trans (show (dqc q A1 c1 AO cO)[2]? = some (.slice AO q.os.length cO) from rfl)
        go_simp; with_reducible rfl
       rotate_left
       ·go_simp; rfl
       refine pure_ (i := 1) (N := some 93) (v := ?_) (a' := ?_) (fB 13 3) rfl rfl (by kernel_rfl) (fun _ _ _ h => h) (Or.inl ⟨by rfl, ?_⟩) ?_ ?_
       rotate_left
       ·intro w'; go_simp; with_reducible rfl
       rotate_left
       ·go_simp; rfl
       refine pure_ (i := 2) (N := some 94) (v := ?_) (a' := ?_) (fB 13 7) rfl rfl (by kernel_rfl) (fun _ _ _ h => h) (Or.inl ⟨by rfl, ?_⟩) ?_ ?_
       rotate_left
       ·intro w'; go_simp; with_reducible rfl
       rotate_left
       ·go_simp; rfl
       refine pure_ (i := 3) (N := some 95) (v := ?_) (a' := ?_) (fB 13 15) rfl rfl (by kernel_rfl) (fun _ _ _ h => h) (Or.inl ⟨by rfl, ?_⟩) ?_ ?_
       rotate_left
       ·intro w'; go_simp; with_reducible rfl
       rotate_left
       ·go_simp; rfl
       refine pure_ (i := 4) (N := some 96) (v := ?_) (a' := ?_) (fB 13 31) rfl rfl (by kernel_rfl) (fun _ _ _ h => h) (Or.inl ⟨by rfl, ?_⟩) ?_ ?_
       rotate_left
       ·intro w'; go_simp; with_reducible rfl
       rotate_left
       ·go_simp; rfl
       refine take_ (i := 5) (N := some 97) (v := ?_) (a' := ?_) (fB 13 63) rfl rfl (by kernel_rfl) (fun _ _ _ h => h) (Or.inl ⟨by rfl, ?_⟩) hHeld ?_ ?_
       rotate_left
       ·rintro w' ⟨s0, s1⟩
        have g1 := cellB s1 HY.out.2.1
        go_simp; with_reducible rfl
       rotate_left
       ·go_simp; rfl
       obtain ⟨wd, hwd⟩ : ∃ wd, wd = wf.drew := ⟨_, rfl⟩
       rw [← hwd] at hHeld HPd ⊢
       clear hwd
       have HPc0 := HPd
       have HBc0 := Aside0.mk (Below.refl wd.heap.size wd)
       clear HPd
       refine join_ (σ := Option Addr × Nat × Nat) 2 (fB 13 2047) (fun s => [(98, .tuple #[.agg (dqc { q with l := q.l.drop (pollN q y.f1) } s.1 s.2.1 AO cO), .slice A1 (pollN q y.f1) c1]), (91, .tuple #[.agg (dqc { q with l := q.l.drop (pollN q y.f1) } s.1 s.2.1 AO cO), .slice A1 (pollN q y.f1) c1]), (99, .agg (dqc { q with l := q.l.drop (pollN q y.f1) } s.1 s.2.1 AO cO)), (100, .slice A1 (pollN q y.f1) c1), (12, .pointer (some ⟨s.2.2, 0, none⟩))]) (fun s w' => DQ w' { q with l := q.l.drop (pollN q y.f1) } s.1 s.2.1 AO cO ∧ Below wd.heap.size wd w' ∧ w'.heap[s.2.2]? = some (.cells (qd 0 (.slice none 0 0) (.slice none 0 0)) 48 (0, 0)) ∧ wd.heap.size ≤ s.2.2) ?_ ?_
       rotate_left
       ·intro hcont
        have HCO := Aside0.mk hcont
        clear hcont
        refine two_ (i := 6) (j := 10) (Ni := some 98) (Nj := some 12) (fB 13 127) (fB 13 1087) rfl rfl rfl rfl (by kernel_rfl) (by decide) (by decide) (fun K hK => ?_) (fun K hK => ?_)
        ·skip
         refine goes_ Tryd.func20 (by kernel_rfl) rfl #[.agg (dqc q A1 c1 AO cO), .int .i64 y.f1] (by rfl) rfl rfl (by first | rfl | (simp only [List.map_toArray, List.map_cons, List.map_nil]; rfl)) ?_
         refine (docPoll_is HPc0.out.dq (by have h1 := HBq.out.l; have h2 := HBq.out.r; omega) y.f1).mono ?_
         rintro e z0 ⟨A1n, c1n, rfl, hdq, hst⟩
         have HDQ := Aside0.mk hdq
         clear hdq
         have HBn := Aside0.mk (HBc0.out.trans (hst.mono HBc0.out.size))
         have HPn := Aside0.mk (HPc0.out.below hst)
         clear HBc0 HPc0
         have HBc0 := HBn
         have HPc0 := HPn
         clear HBn HPn 
         clear hst
         refine ⟨_, rfl, hK.out _ _ ⟨HPc0.out.box, HPc0.out.qs.bel⟩ (fun hHeld => ?_)⟩
         clear hK K
         refine norm_ (a' := ?_) ?_ ?_
         rotate_left
         ·show Act.put _ (some 98) _ = _
          go_simp
          rfl
         refine pure_ (i := 7) (N := some 91) (v := ?_) (a' := ?_) (fB 13 255) rfl rfl (by kernel_rfl) (fun _ _ _ h => h) (Or.inl ⟨by rfl, ?_⟩) ?_ ?_
         rotate_left
         ·intro w'; go_simp; with_reducible rfl
         rotate_left
         ·go_simp; rfl
         refine pure_ (i := 8) (N := some 99) (v := ?_) (a' := ?_) (fB 13 511) rfl rfl (by kernel_rfl) (fun _ _ _ h => h) (Or.inl ⟨by rfl, ?_⟩) ?_ ?_
         rotate_left
         ·intro w'; go_simp; with_reducible rfl
         rotate_left
         ·go_simp; rfl
         refine pure_ (i := 9) (N := some 100) (v := ?_) (a' := ?_) (fB 13 1023) rfl rfl (by kernel_rfl) (fun _ _ _ h => h) (Or.inl ⟨by rfl, ?_⟩) ?_ ?_
         rotate_left
         ·intro w'; go_simp; with_reducible rfl
         rotate_left
         ·go_simp; rfl
         have HBc1 := HBc0
         have HPc1 := HPc0
         clear HBc0 HPc0
         refine one_ (i := 10) (N := some 12) (fB 13 2047) rfl rfl (by kernel_rfl) (by decide) (fun K hK => ?_)
         refine event_step (v := .pointer (some ⟨z0.heap.size, 0, none⟩)) (w1 := (z0.alloc (.cells (qd 0 (.slice none 0 0) (.slice none 0 0)) 48 (0, 0)))) (by rfl) (by first | (go_simp; done) | (go_simp; rfl)) ?_
         have hst := below_alloc (Below.refl z0.heap.size z0) (.cells (qd 0 (.slice none 0 0) (.slice none 0 0)) 48 (0, 0))
         have HZb := Aside0.mk (blk_new z0 (.cells (qd 0 (.slice none 0 0) (.slice none 0 0)) 48 (0, 0)))
         obtain ⟨bz, hbz⟩ : ∃ bz, bz = z0.heap.size := ⟨_, rfl⟩
         have HNb := Aside0.mk (show wd.heap.size ≤ bz by rw [hbz]; exact HBc1.out.size)
         have HBn := Aside0.mk (HBc1.out.trans (hst.mono HBc1.out.size))
         have HPn := Aside0.mk (HPc1.out.below hst)
         have HDQn := Aside0.mk (HDQ.out.below hst)
         clear HBc1 HPc1 HDQ
         have HBc1 := HBn
         have HPc1 := HPn
         have HDQ := HDQn
         clear HBn HPn HDQn
         rw [← hbz] at HZb ⊢
         clear hbz hst
         refine hK.out _ _ ⟨HPc1.out.box, HPc1.out.qs.bel⟩ (fun hHeld => ?_)
         clear hK K
         refine norm_ (a' := ?_) ?_ ?_
         rotate_left
         ·show Act.put _ (some 12) _ = _
          go_simp
          rfl
         refine norm_ ?_ (HCO.out (A1n, c1n, bz) _ ⟨HDQ.out, HBc1.out, HZb.out, HNb.out⟩)
         simp only [putAll, Act.put, List.setIfInBounds_toArray, List.set_cons_zero, List.set_cons_succ, i64_w, i32_w]
         try rfl
        ·skip
         refine event_step (v := .pointer (some ⟨wd.heap.size, 0, none⟩)) (w1 := (wd.alloc (.cells (qd 0 (.slice none 0 0) (.slice none 0 0)) 48 (0, 0)))) (by rfl) (by first | (go_simp; done) | (go_simp; rfl)) ?_
         have hst := below_alloc (Below.refl wd.heap.size wd) (.cells (qd 0 (.slice none 0 0) (.slice none 0 0)) 48 (0, 0))
         have HZb := Aside0.mk (blk_new wd (.cells (qd 0 (.slice none 0 0) (.slice none 0 0)) 48 (0, 0)))
         obtain ⟨bz, hbz⟩ : ∃ bz, bz = wd.heap.size := ⟨_, rfl⟩
         have HNb := Aside0.mk (show wd.heap.size ≤ bz by rw [hbz]; exact HBc0.out.size)
         have HBn := Aside0.mk (HBc0.out.trans (hst.mono HBc0.out.size))
         have HPn := Aside0.mk (HPc0.out.below hst)
         clear HBc0 HPc0
         have HBc0 := HBn
         have HPc0 := HPn
         clear HBn HPn 
         rw [← hbz] at HZb ⊢
         clear hbz hst
         refine hK.out _ _ ⟨HPc0.out.box, HPc0.out.qs.bel⟩ (fun hHeld => ?_)
         clear hK K
         refine norm_ (a' := ?_) ?_ ?_
         rotate_left
         ·show Act.put _ (some 12) _ = _
          go_simp
          rfl
         refine one_ (i := 6) (N := some 98) (fB 13 1151) rfl rfl (by kernel_rfl) (by decide) (fun K hK => ?_)
         refine goes_ Tryd.func20 (by kernel_rfl) rfl #[.agg (dqc q A1 c1 AO cO), .int .i64 y.f1] (by rfl) rfl rfl (by first | rfl | (simp only [List.map_toArray, List.map_cons, List.map_nil]; rfl)) ?_
         refine (docPoll_is HPc0.out.dq (by have h1 := HBq.out.l; have h2 := HBq.out.r; omega) y.f1).mono ?_
         rintro e z0 ⟨A1n, c1n, rfl, hdq, hst⟩
         have HDQ := Aside0.mk hdq
         clear hdq
         have HBn := Aside0.mk (HBc0.out.trans (hst.mono HBc0.out.size))
         have HPn := Aside0.mk (HPc0.out.below hst)
         have HZn := Aside0.mk (keepB HZb.out hst)
         clear HBc0 HPc0 HZb
         have HBc0 := HBn
         have HPc0 := HPn
         have HZb := HZn
         clear HBn HPn HZn
         clear hst
         refine ⟨_, rfl, hK.out _ _ ⟨HPc0.out.box, HPc0.out.qs.bel⟩ (fun hHeld => ?_)⟩
         clear hK K
         refine norm_ (a' := ?_) ?_ ?_
         rotate_left
         ·show Act.put _ (some 98) _ = _
          go_simp
          rfl
         refine pure_ (i := 7) (N := some 91) (v := ?_) (a' := ?_) (fB 13 1279) rfl rfl (by kernel_rfl) (fun _ _ _ h => h) (Or.inl ⟨by rfl, ?_⟩) ?_ ?_
         rotate_left
         ·intro w'; go_simp; with_reducible rfl
         rotate_left
         ·go_simp; rfl
         refine pure_ (i := 8) (N := some 99) (v := ?_) (a' := ?_) (fB 13 1535) rfl rfl (by kernel_rfl) (fun _ _ _ h => h) (Or.inl ⟨by rfl, ?_⟩) ?_ ?_
         rotate_left
         ·intro w'; go_simp; with_reducible rfl
         rotate_left
         ·go_simp; rfl
         refine pure_ (i := 9) (N := some 100) (v := ?_) (a' := ?_) (fB 13 2047) rfl rfl (by kernel_rfl) (fun _ _ _ h => h) (Or.inl ⟨by rfl, ?_⟩) ?_ ?_
         rotate_left
         ·intro w'; go_simp; with_reducible rfl
         rotate_left
         ·go_simp; rfl
         have HBc1 := HBc0
         have HPc1 := HPc0
         clear HBc0 HPc0
         refine norm_ ?_ (HCO.out (A1n, c1n, bz) _ ⟨HDQ.out, HBc1.out, HZb.out, HNb.out⟩)
         simp only [putAll, Act.put, List.setIfInBounds_toArray, List.set_cons_zero, List.set_cons_succ, i64_w, i32_w]
         try rfl
       rintro ⟨A1n, c1n, bz⟩ wj hj
       try dsimp only at hj ⊢
       refine norm_ (a' := ?_) ?_ ?_
       rotate_left
       ·simp only [putAll, Act.put, List.setIfInBounds_toArray, List.set_cons_zero, List.set_cons_succ, i64_w, i32_w]
        rfl
       obtain ⟨hdq, hbw, hzb, hnb⟩ := hj
       obtain ⟨r2, hr2⟩ : ∃ r2, r2 = ({ q with l := q.l.drop (pollN q y.f1) } : Qu) := ⟨_, rfl⟩
       rw [← hr2] at hdq ⊢
       obtain ⟨hps, hx1, hx2⟩ := HPc0.out.put hbw hdq hzb hnb
       have HDo := Aside0.mk (((HPc0.out.dq.doc.below hbw).set hzb (dqc r2 A1n c1n AO cO)).set hx2 (dqc r2 A1n c1n AO cO))
       skip
       refine last_ (i := 11) (N := none) (fB 13 4095) rfl rfl (by kernel_rfl) (by decide) (fun K hK => ?_)
       refine storeRow_ (by rfl) 48 (.tmp 12) (.tmp 99) rfl rfl bz (dqc r2 A1n c1n AO cO) rfl rfl 48 (qd 0 (.slice none 0 0) (.slice none 0 0)) hzb info48s rfl (dqc_one _ _ _ _ _) ?_
       have HPS := Aside0.mk hps
       have HX1 := Aside0.mk hx1
       have HX2 := Aside0.mk hx2
       have HR2 := Aside0.mk hr2
       clear hdq hbw hzb hnb hps hx1 hx2 hr2
       refine hK.out _ _ ?_
       clear hK K
       refine pure_ (i := 12) (N := some 13) (v := ?_) (a' := ?_) (fB 13 8191) rfl rfl (by kernel_rfl) (fun _ _ _ h => h) (Or.inl ⟨by rfl, ?_⟩) ?_ ?_
       rotate_left
       ·intro w'; go_simp; with_reducible rfl
       rotate_left
       ·go_simp; rfl
       refine done_ (by kernel_rfl) ?_
       have e1 := cellB HPS.out.qs.bel HY.out.2.1
       have hpl := pollN_le q y.f1
       have hbl := HBq.out.l
       have hbr := HBq.out.r
       have HTl := Aside0.mk (show (q.l.take (pollN q y.f1)).length = pollN q y.f1 by rw [List.length_take]; omega)
       obtain ⟨pn_, hpn⟩ : ∃ pn_, pn_ = pollN q y.f1 := ⟨_, rfl⟩
       have HPN := Aside0.mk hpn
       have HPL := Aside0.mk (show pn_ ≤ 100 by omega)
       rw [← hpn] at HTl HR2 ⊢
       clear hpl hbl hbr hpn
       go_wp2_with (first
        | ((with_reducible refine gate_dst (N := 101) rfl ?_); refine wpList_load_row rfl 48 (.tmp 12) rfl bz rfl 48 _ (0, 0) _ HX1.out Tryd.underlying48 rfl info48s ?_)
        | ((with_reducible refine gate_store (t := 48) (p := 8) rfl ?_); refine wpList_store_row rfl 48 (.tmp 8) (.tmp 101) rfl gr (dqc r2 A1n c1n AO cO) rfl rfl 48 (dqc q A1 c1 AO cO) HX2.out info48s rfl (dqc_one _ _ _ _ _) ?_)
        | ((with_reducible refine gate_dst (N := 108) rfl ?_); refine goesL_ (some 108) rfl rfl Tryd.func11 (by kernel_rfl) rfl #[.pointer (some ⟨g, 0, none⟩), .int .i64 y.f1] rfl (by first | (simp only [List.map_toArray, List.map_cons, List.map_nil]; rfl) | rfl) ?_; refine (poll_is HPS.out.qs.qu HBq.out y.f1).mono ?_; rintro e w9 ⟨o, v9, rfl, hr, hs9⟩; rw [← HPN.out] at hr hs9; obtain ⟨Ao, co, rfl, hco, hr⟩ := R_named (n := pn_) hr HTl.out; have HP9 := Aside0.mk (show PS W w9 g m gr r2 v9 r2 A1n c1n AO cO by have h9 := HPS.out.step hs9; rwa [← HR2.out] at h9); have HDo9 := Aside0.mk (HDo.out.step HPS.out.qs.qu hs9); have HRo := Aside0.mk (C_named hr).2; have HCo := Aside0.mk hco; clear hs9 hr hco; refine ⟨_, rfl, ?_⟩)
        | ((with_reducible refine gate_dst (N := 109) rfl ?_); refine goesL_ (some 109) rfl rfl Tryd.func19 (by kernel_rfl) rfl #[.slice Ao pn_ co] rfl (by first | (simp only [List.map_toArray, List.map_cons, List.map_nil]; rfl) | rfl) ?_; refine (refs_n HTl.out (by have h0 := HRo.out; rwa [HTl.out] at h0) HCo.out (by have := HPL.out; omega) (fun G hG => HSm.out G (List.mem_of_mem_take hG))).mono ?_; rintro e w10 ⟨Ar, cr, rfl, hr10, hb10⟩; have HP10 := Aside0.mk (HP9.out.below hb10); have HDo10 := Aside0.mk (HDo9.out.below hb10); have HR10 := Aside0.mk hr10; clear hr10 hb10; refine ⟨_, rfl, ?_⟩)
        | ((with_reducible refine gate_dst (N := 111) rfl ?_); refine goesL_ (some 111) rfl rfl Tryd.func21 (by kernel_rfl) rfl #[.slice Ar pn_ cr, .slice A1 pn_ c1] rfl (by first | (simp only [List.map_toArray, List.map_cons, List.map_nil]; rfl) | rfl) ?_; refine (same18_is (l := (q.l.take pn_).map rf) (by rw [List.length_map]; exact HTl.out) (by have h0 := (Kd.R_reads' HR10.out).2.2; rwa [List.length_map, HTl.out] at h0) (doc_C HDo10.out (by have h0 := HTl.out; rw [List.length_take] at h0; omega)) (Kd.R_reads' HR10.out).2.1 (Nat.le_trans (by have h0 := HTl.out; rw [List.length_take] at h0; omega) (doc_c1 HDo10.out)) (by have := HPL.out; omega) (same_len _ (fun G hG => HSm.out G (List.mem_of_mem_take hG)))).mono ?_; rintro e w11 ⟨rfl, hb11⟩; have HP11 := Aside0.mk (HP10.out.below hb11); clear hb11; refine ⟨_, rfl, ?_⟩))
       go_meet
       case rel => exact ⟨r2, v9, _, _, _, _, HP11, ⟨by rw [HR2.out]; exact (HBq.out.cut _ (by rw [List.length_drop]; omega)).mono (by omega)⟩, ⟨by rw [HR2.out]; exact fun G hG => HSm.out G (List.mem_of_mem_drop hG)⟩⟩
      ·have f1 : (y.f0 == 1) = false := by simpa using k1'
       by_cases k2' : y.f0 = 2
       ·have f2 : (y.f0 == 2) = true := by rw [k2']; rfl
        clear k0 k1' k2'
        have HPd := Aside0.mk (HP.out.below (below_drew1 (Below.refl _ _)))
        go_wp2
        refine start_ (n := 9) (S := fun w' => w'.heap[gr]? = some (.cells (dqc q A1 c1 AO cO) 48 (0, 0)) ∧ Below W.heap.size W w') (ds := [8]) #[false, false, false, false, false, false, false, false, false] (by kernel_rfl) rfl rfl ⟨HPd.out.box, HPd.out.qs.bel⟩ (fun hHeld => ?_)
        
        refine take_ (i := 0) (N := some 115) (v := ?_) (a' := ?_) (fB 9 1) rfl rfl (by kernel_rfl) (fun _ _ _ h => h) (Or.inl ⟨by rfl, ?_⟩) hHeld ?_ ?_
        rotate_left
        ·rintro w' ⟨s0, s1⟩
         have y0 := (blk_cell s0 0).trans (show (dqc q A1 c1 AO cO)[0]? = some (.int .i64 q.room) from rfl)
         have y1 := (blk_cell s0 1).trans (show (dqc q A1 c1 AO cO)[1]? = some (.slice A1 q.l.length c1) from rfl)
         have y2 := (blk_cell s0 2).trans (show (dqc q A1 c1 AO cO)[2]? = some (.slice AO q.os.length cO) from rfl)
         go_simp; with_reducible rfl
        rotate_left
        ·go_simp; rfl
        refine pure_ (i := 1) (N := some 116) (v := ?_) (a' := ?_) (fB 9 3) rfl rfl (by kernel_rfl) (fun _ _ _ h => h) (Or.inl ⟨by rfl, ?_⟩) ?_ ?_
        rotate_left
        ·intro w'; go_simp; with_reducible rfl
        rotate_left
        ·go_simp; rfl
        refine pure_ (i := 2) (N := some 117) (v := ?_) (a' := ?_) (fB 9 7) rfl rfl (by kernel_rfl) (fun _ _ _ h => h) (Or.inl ⟨by rfl, ?_⟩) ?_ ?_
        rotate_left
        ·intro w'; go_simp; with_reducible rfl
        rotate_left
        ·go_simp; rfl
        refine pure_ (i := 3) (N := some 118) (v := ?_) (a' := ?_) (fB 9 15) rfl rfl (by kernel_rfl) (fun _ _ _ h => h) (Or.inl ⟨by rfl, ?_⟩) ?_ ?_
        rotate_left
        ·intro w'; go_simp; with_reducible rfl
        rotate_left
        ·go_simp; rfl
        refine pure_ (i := 4) (N := some 119) (v := ?_) (a' := ?_) (fB 9 31) rfl rfl (by kernel_rfl) (fun _ _ _ h => h) (Or.inl ⟨by rfl, ?_⟩) ?_ ?_
        rotate_left
        ·intro w'; go_simp; with_reducible rfl
        rotate_left
        ·go_simp; rfl
        refine take_ (i := 5) (N := some 120) (v := ?_) (a' := ?_) (fB 9 63) rfl rfl (by kernel_rfl) (fun _ _ _ h => h) (Or.inl ⟨by rfl, ?_⟩) hHeld ?_ ?_
        rotate_left
        ·rintro w' ⟨s0, s1⟩
         have g1 := cellB s1 HY.out.2.1
         go_simp; with_reducible rfl
        rotate_left
        ·go_simp; rfl
        obtain ⟨wd, hwd⟩ : ∃ wd, wd = wf.drew := ⟨_, rfl⟩
        rw [← hwd] at hHeld HPd ⊢
        clear hwd
        have HPc0 := HPd
        have HBc0 := Aside0.mk (Below.refl wd.heap.size wd)
        clear HPd
        refine join_ (σ := Option Addr × Nat × Option Addr × Nat × Nat) 1 (fB 9 255) (fun s => [(121, .agg (dqc (fgQ q y.f1) s.1 s.2.1 s.2.2.1 s.2.2.2.1)), (14, .pointer (some ⟨s.2.2.2.2, 0, none⟩))]) (fun s w' => DQ w' (fgQ q y.f1) s.1 s.2.1 s.2.2.1 s.2.2.2.1 ∧ Below wd.heap.size wd w' ∧ w'.heap[s.2.2.2.2]? = some (.cells (qd 0 (.slice none 0 0) (.slice none 0 0)) 48 (0, 0)) ∧ wd.heap.size ≤ s.2.2.2.2) ?_ ?_
        rotate_left
        ·intro hcont
         have HCO := Aside0.mk hcont
         clear hcont
         refine two_ (i := 6) (j := 7) (Ni := some 121) (Nj := some 14) (fB 9 127) (fB 9 191) rfl rfl rfl rfl (by kernel_rfl) (by decide) (by decide) (fun K hK => ?_) (fun K hK => ?_)
         ·skip
          refine goes_ Tryd.func22 (by kernel_rfl) rfl #[.agg (dqc q A1 c1 AO cO), .int .i64 y.f1] (by rfl) rfl rfl (by first | rfl | (simp only [List.map_toArray, List.map_cons, List.map_nil]; rfl)) ?_
          refine (docForget_is HPc0.out.dq (by have h1 := HBq.out.l; have h2 := HBq.out.r; omega) (by have h1 := HBq.out.o; have h2 := HBq.out.n; have h3 := HI6.out; omega) y.f1).mono ?_
          rintro e z0 ⟨A1n, c1n, AOn, cOn, rfl, hdq, hst⟩
          have HDQ := Aside0.mk hdq
          clear hdq
          have HBn := Aside0.mk (HBc0.out.trans (hst.mono HBc0.out.size))
          have HPn := Aside0.mk (HPc0.out.below hst)
          clear HBc0 HPc0
          have HBc0 := HBn
          have HPc0 := HPn
          clear HBn HPn 
          clear hst
          refine ⟨_, rfl, hK.out _ _ ⟨HPc0.out.box, HPc0.out.qs.bel⟩ (fun hHeld => ?_)⟩
          clear hK K
          refine norm_ (a' := ?_) ?_ ?_
          rotate_left
          ·show Act.put _ (some 121) _ = _
           go_simp
           rfl
          have HBc1 := HBc0
          have HPc1 := HPc0
          clear HBc0 HPc0
          refine one_ (i := 7) (N := some 14) (fB 9 255) rfl rfl (by kernel_rfl) (by decide) (fun K hK => ?_)
          refine event_step (v := .pointer (some ⟨z0.heap.size, 0, none⟩)) (w1 := (z0.alloc (.cells (qd 0 (.slice none 0 0) (.slice none 0 0)) 48 (0, 0)))) (by rfl) (by first | (go_simp; done) | (go_simp; rfl)) ?_
          have hst := below_alloc (Below.refl z0.heap.size z0) (.cells (qd 0 (.slice none 0 0) (.slice none 0 0)) 48 (0, 0))
          have HZb := Aside0.mk (blk_new z0 (.cells (qd 0 (.slice none 0 0) (.slice none 0 0)) 48 (0, 0)))
          obtain ⟨bz, hbz⟩ : ∃ bz, bz = z0.heap.size := ⟨_, rfl⟩
          have HNb := Aside0.mk (show wd.heap.size ≤ bz by rw [hbz]; exact HBc1.out.size)
          have HBn := Aside0.mk (HBc1.out.trans (hst.mono HBc1.out.size))
          have HPn := Aside0.mk (HPc1.out.below hst)
          have HDQn := Aside0.mk (HDQ.out.below hst)
          clear HBc1 HPc1 HDQ
          have HBc1 := HBn
          have HPc1 := HPn
          have HDQ := HDQn
          clear HBn HPn HDQn
          rw [← hbz] at HZb ⊢
          clear hbz hst
          refine hK.out _ _ ⟨HPc1.out.box, HPc1.out.qs.bel⟩ (fun hHeld => ?_)
          clear hK K
          refine norm_ (a' := ?_) ?_ ?_
          rotate_left
          ·show Act.put _ (some 14) _ = _
           go_simp
           rfl
          refine norm_ ?_ (HCO.out (A1n, c1n, AOn, cOn, bz) _ ⟨HDQ.out, HBc1.out, HZb.out, HNb.out⟩)
          simp only [putAll, Act.put, List.setIfInBounds_toArray, List.set_cons_zero, List.set_cons_succ, i64_w, i32_w]
          try rfl
         ·skip
          refine event_step (v := .pointer (some ⟨wd.heap.size, 0, none⟩)) (w1 := (wd.alloc (.cells (qd 0 (.slice none 0 0) (.slice none 0 0)) 48 (0, 0)))) (by rfl) (by first | (go_simp; done) | (go_simp; rfl)) ?_
          have hst := below_alloc (Below.refl wd.heap.size wd) (.cells (qd 0 (.slice none 0 0) (.slice none 0 0)) 48 (0, 0))
          have HZb := Aside0.mk (blk_new wd (.cells (qd 0 (.slice none 0 0) (.slice none 0 0)) 48 (0, 0)))
          obtain ⟨bz, hbz⟩ : ∃ bz, bz = wd.heap.size := ⟨_, rfl⟩
          have HNb := Aside0.mk (show wd.heap.size ≤ bz by rw [hbz]; exact HBc0.out.size)
          have HBn := Aside0.mk (HBc0.out.trans (hst.mono HBc0.out.size))
          have HPn := Aside0.mk (HPc0.out.below hst)
          clear HBc0 HPc0
          have HBc0 := HBn
          have HPc0 := HPn
          clear HBn HPn 
          rw [← hbz] at HZb ⊢
          clear hbz hst
          refine hK.out _ _ ⟨HPc0.out.box, HPc0.out.qs.bel⟩ (fun hHeld => ?_)
          clear hK K
          refine norm_ (a' := ?_) ?_ ?_
          rotate_left
          ·show Act.put _ (some 14) _ = _
           go_simp
           rfl
          refine one_ (i := 6) (N := some 121) (fB 9 255) rfl rfl (by kernel_rfl) (by decide) (fun K hK => ?_)
          refine goes_ Tryd.func22 (by kernel_rfl) rfl #[.agg (dqc q A1 c1 AO cO), .int .i64 y.f1] (by rfl) rfl rfl (by first | rfl | (simp only [List.map_toArray, List.map_cons, List.map_nil]; rfl)) ?_
          refine (docForget_is HPc0.out.dq (by have h1 := HBq.out.l; have h2 := HBq.out.r; omega) (by have h1 := HBq.out.o; have h2 := HBq.out.n; have h3 := HI6.out; omega) y.f1).mono ?_
          rintro e z0 ⟨A1n, c1n, AOn, cOn, rfl, hdq, hst⟩
          have HDQ := Aside0.mk hdq
          clear hdq
          have HBn := Aside0.mk (HBc0.out.trans (hst.mono HBc0.out.size))
          have HPn := Aside0.mk (HPc0.out.below hst)
          have HZn := Aside0.mk (keepB HZb.out hst)
          clear HBc0 HPc0 HZb
          have HBc0 := HBn
          have HPc0 := HPn
          have HZb := HZn
          clear HBn HPn HZn
          clear hst
          refine ⟨_, rfl, hK.out _ _ ⟨HPc0.out.box, HPc0.out.qs.bel⟩ (fun hHeld => ?_)⟩
          clear hK K
          refine norm_ (a' := ?_) ?_ ?_
          rotate_left
          ·show Act.put _ (some 121) _ = _
           go_simp
           rfl
          have HBc1 := HBc0
          have HPc1 := HPc0
          clear HBc0 HPc0
          refine norm_ ?_ (HCO.out (A1n, c1n, AOn, cOn, bz) _ ⟨HDQ.out, HBc1.out, HZb.out, HNb.out⟩)
          simp only [putAll, Act.put, List.setIfInBounds_toArray, List.set_cons_zero, List.set_cons_succ, i64_w, i32_w]
          try rfl
        rintro ⟨A1n, c1n, AOn, cOn, bz⟩ wj hj
        try dsimp only at hj ⊢
        refine norm_ (a' := ?_) ?_ ?_
        rotate_left
        ·simp only [putAll, Act.put, List.setIfInBounds_toArray, List.set_cons_zero, List.set_cons_succ, i64_w, i32_w]
         rfl
        obtain ⟨hdq, hbw, hzb, hnb⟩ := hj
        obtain ⟨r2, hr2⟩ : ∃ r2, r2 = fgQ q y.f1 := ⟨_, rfl⟩
        rw [← hr2] at hdq ⊢
        obtain ⟨_, hx1, hx2⟩ := HPc0.out.put hbw hdq hzb hnb
        have hp1 : PS W (wj.setRow bz (dqc r2 A1n c1n AOn cOn)) g m gr q v q A1 c1 AO cO := HPc0.out.below (below_setRow hbw hnb _)
        have hd1 := hdq.set hzb (dqc r2 A1n c1n AOn cOn)
        skip
        refine last_ (i := 8) (N := none) (fB 9 511) rfl rfl (by kernel_rfl) (by decide) (fun K hK => ?_)
        refine storeRow_ (by rfl) 48 (.tmp 14) (.tmp 121) rfl rfl bz (dqc r2 A1n c1n AOn cOn) rfl rfl 48 (qd 0 (.slice none 0 0) (.slice none 0 0)) hzb info48s rfl (dqc_one _ _ _ _ _) ?_
        obtain ⟨wk, hwk⟩ : ∃ wk, wk = wj.setRow bz (dqc r2 A1n c1n AOn cOn) := ⟨_, rfl⟩
        rw [← hwk] at hp1 hd1 hx1 ⊢
        have HPk := Aside0.mk hp1
        have HDk := Aside0.mk hd1
        have HX1 := Aside0.mk hx1
        have HR2 := Aside0.mk hr2
        clear hdq hbw hzb hnb hp1 hd1 hx1 hx2 hr2 hwk
        refine hK.out _ _ ?_
        clear hK K
        refine done_ (by kernel_rfl) ?_
        have HPd := Aside0.mk (HPk.out.below (below_drew1 (Below.refl _ _)))
        have HDd := Aside0.mk (HDk.out.below (below_drew1 (Below.refl _ _)))
        have HXd := Aside0.mk (blk_drew HX1.out)
        go_wp2
        refine start_ (n := 15) (S := fun w' => w'.heap[gr]? = some (.cells (dqc q A1 c1 AO cO) 48 (0, 0)) ∧ w'.heap[bz]? = some (.cells (dqc r2 A1n c1n AOn cOn) 48 (0, 0)) ∧ Below W.heap.size W w') (ds := []) #[false, false, false, false, false, false, false, false, false, false, false, false, false, false, false] (by kernel_rfl) rfl rfl ⟨HPd.out.box, HXd.out, HPd.out.qs.bel⟩ (fun hHeld => ?_)
        refine pure_ (i := 0) (N := some 122) (v := ?_) (a' := ?_) (fB 15 1) rfl rfl (by kernel_rfl) (fun _ _ _ h => h) (Or.inl ⟨by rfl, ?_⟩) ?_ ?_
        rotate_left
        ·intro w'; go_simp; with_reducible rfl
        rotate_left
        ·go_simp; rfl
        refine pure_ (i := 1) (N := some 123) (v := ?_) (a' := ?_) (fB 15 3) rfl rfl (by kernel_rfl) (fun _ _ _ h => h) (Or.inl ⟨by rfl, ?_⟩) ?_ ?_
        rotate_left
        ·intro w'; go_simp; with_reducible rfl
        rotate_left
        ·go_simp; rfl
        refine pure_ (i := 2) (N := some 124) (v := ?_) (a' := ?_) (fB 15 7) rfl rfl (by kernel_rfl) (fun _ _ _ h => h) (Or.inl ⟨by rfl, ?_⟩) ?_ ?_
        rotate_left
        ·intro w'; go_simp; with_reducible rfl
        rotate_left
        ·go_simp; rfl
        refine pure_ (i := 3) (N := some 125) (v := ?_) (a' := ?_) (fB 15 15) rfl rfl (by kernel_rfl) (fun _ _ _ h => h) (Or.inl ⟨by rfl, ?_⟩) ?_ ?_
        rotate_left
        ·intro w'; go_simp; with_reducible rfl
        rotate_left
        ·go_simp; rfl
        refine pure_ (i := 4) (N := some 126) (v := ?_) (a' := ?_) (fB 15 31) rfl rfl (by kernel_rfl) (fun _ _ _ h => h) (Or.inl ⟨by rfl, ?_⟩) ?_ ?_
        rotate_left
        ·intro w'; go_simp; with_reducible rfl
        rotate_left
        ·go_simp; rfl
        refine take_ (i := 5) (N := some 127) (v := ?_) (a' := ?_) (fB 15 63) rfl rfl (by kernel_rfl) (fun _ _ _ h => h) (Or.inl ⟨by rfl, ?_⟩) hHeld ?_ ?_
        rotate_left
        ·rintro w' ⟨s0, s1, s2⟩
         have g1 := cellB s2 HY.out.2.1
         go_simp; with_reducible rfl
        rotate_left
        ·go_simp; rfl
        refine pure_ (i := 7) (N := some 129) (v := ?_) (a' := ?_) (fB 15 191) rfl rfl (by kernel_rfl) (fun _ _ _ h => h) (Or.inl ⟨by rfl, ?_⟩) ?_ ?_
        rotate_left
        ·intro w'; go_simp; with_reducible rfl
        rotate_left
        ·go_simp; rfl
        refine take_ (i := 8) (N := some 130) (v := ?_) (a' := ?_) (fB 15 447) rfl rfl (by kernel_rfl) (fun _ _ _ h => h) (Or.inl ⟨by rfl, ?_⟩) hHeld ?_ ?_
        rotate_left
        ·rintro w' ⟨s0, s1, s2⟩
         have y1 := (blk_cell s0 1).trans (show (dqc q A1 c1 AO cO)[1]? = some (.slice A1 q.l.length c1) from rfl)
         go_simp; with_reducible rfl
        rotate_left
        ·go_simp; rfl
        refine pure_ (i := 9) (N := some 131) (v := ?_) (a' := ?_) (fB 15 959) rfl rfl (by kernel_rfl) (fun _ _ _ h => h) (Or.inl ⟨by rfl, ?_⟩) ?_ ?_
        rotate_left
        ·intro w'; go_simp; with_reducible rfl
        rotate_left
        ·go_simp; rfl
        refine pure_ (i := 10) (N := some 132) (v := ?_) (a' := ?_) (fB 15 1983) rfl rfl (by kernel_rfl) (fun _ _ _ h => h) (Or.inl ⟨by rfl, ?_⟩) ?_ ?_
        rotate_left
        ·intro w'; go_simp; with_reducible rfl
        rotate_left
        ·go_simp; rfl
        refine take_ (i := 11) (N := some 133) (v := ?_) (a' := ?_) (fB 15 4031) rfl rfl (by kernel_rfl) (fun _ _ _ h => h) (Or.inl ⟨by rfl, ?_⟩) hHeld ?_ ?_
        rotate_left
        ·rintro w' ⟨s0, s1, s2⟩
         have y1 := (blk_cell s1 1).trans (show (dqc r2 A1n c1n AOn cOn)[1]? = some (.slice A1n r2.l.length c1n) from rfl)
         go_simp; with_reducible rfl
        rotate_left
        ·go_simp; rfl
        refine pure_ (i := 12) (N := some 134) (v := ?_) (a' := ?_) (fB 15 8127) rfl rfl (by kernel_rfl) (fun _ _ _ h => h) (Or.inl ⟨by rfl, ?_⟩) ?_ ?_
        rotate_left
        ·intro w'; go_simp; with_reducible rfl
        rotate_left
        ·go_simp; rfl
        refine pure_ (i := 13) (N := some 135) (v := ?_) (a' := ?_) (fB 15 16319) rfl rfl (by kernel_rfl) (fun _ _ _ h => h) (Or.inl ⟨by rfl, ?_⟩) ?_ ?_
        rotate_left
        ·intro w'; go_simp; with_reducible rfl
        rotate_left
        ·go_simp; rfl
        refine one_ (i := 6) (N := some 128) (fB 15 16383) rfl rfl (by kernel_rfl) (by decide) (fun K hK => ?_)
        refine goes_ Tryd.func16 (by kernel_rfl) rfl #[.pointer (some ⟨g, 0, none⟩), .int .i64 y.f1] (by rfl) rfl rfl (by first | rfl | (simp only [List.map_toArray, List.map_cons, List.map_nil]; rfl)) ?_
        refine (forget_is HPd.out.qs.qu HBq.out y.f1 HWf.out.1).mono ?_
        rintro e w9 ⟨rfl, v9, hs9⟩; have HP9 := Aside0.mk (show PS W w9 g m gr r2 v9 q A1 c1 AO cO by have h9 := HPd.out.step hs9; rwa [← HR2.out] at h9); have HX9 := Aside0.mk (hs9.keep HPd.out.qs.qu HXd.out (by decide) (by decide)); have HD9 := Aside0.mk (HDd.out.step HPd.out.qs.qu hs9); clear hs9
        refine ⟨_, rfl, hK.out _ _ ⟨HP9.out.box, HX9.out, HP9.out.qs.bel⟩ (fun hHeld => ?_)⟩
        clear hK K
        refine norm_ (a' := ?_) ?_ ?_
        rotate_left
        ·show Act.put _ (some 128) _ = _
         go_simp
         rfl
        refine pure_ (i := 14) (N := some 136) (v := ?_) (a' := ?_) (fB 15 32767) rfl rfl (by kernel_rfl) (fun _ _ _ h => h) (Or.inl ⟨by rfl, ?_⟩) ?_ ?_
        rotate_left
        ·intro w'; go_simp; with_reducible rfl
        rotate_left
        ·go_simp; rfl
        refine done_ (by kernel_rfl) ?_
        have hfl : (fl q y.f1).length = r2.l.length := by rw [HR2.out]; rfl
        have hfl2 := fl_le q y.f1
        have dN : (((q.l.length : Int) - ((fl q y.f1).length : Int)) != wrap64 ((q.l.length : Int) - (r2.l.length : Int))) = false := by
         have h1 := HBq.out.l
         have h2 := HBq.out.r
         rw [← hfl, wrapId (by omega) (by omega)]
         exact bne_self_eq_false _
        clear hfl hfl2
        go_wp2_with (first
         | ((with_reducible refine gate_dst (N := 137) rfl ?_); refine wpList_load_row rfl 48 (.tmp 14) rfl bz rfl 48 _ (0, 0) _ HX9.out Tryd.underlying48 rfl info48s ?_)
         | ((with_reducible refine gate_store (t := 48) (p := 8) rfl ?_); refine wpList_store_row rfl 48 (.tmp 8) (.tmp 137) rfl gr (dqc r2 A1n c1n AOn cOn) rfl rfl 48 (dqc q A1 c1 AO cO) HP9.out.box info48s rfl (dqc_one _ _ _ _ _) ?_))
        go_meet
        case rel => exact ⟨r2, v9, _, _, _, _, ⟨HP9.out.turn HD9.out⟩, ⟨by rw [HR2.out]; exact (HBq.out.fg _).mono (by omega)⟩, ⟨by rw [HR2.out]; exact HSm.out.fg _⟩⟩
       ·have f2 : (y.f0 == 2) = false := by simpa using k2'
        clear k0 k1' k2'
        go_wp2
        go_meet
        case rel => exact ⟨q, v, A1, c1, AO, cO, HP, ⟨HBq.out.mono (by omega)⟩, HSm⟩
    case rest =>
     clear e0 HP HY HC8 HC8l HSG HF HBq HSm HWf
     obtain ⟨q2, v2, A2, c2, AP, cP, HPc, HBq2, HSm2⟩ := hcut
     have HPd := Aside0.mk (HPc.out.below (below_drew1 (Below.refl _ _)))
     have hb1 := HBq2.out.l
     have hb2 := HBq2.out.r
     have HQl := Aside0.mk (show q2.l.length ≤ 100 by omega)
     have HOl := Aside0.mk (show q2.os.length ≤ 1000 by have h1 := HBq2.out.o; have h2 := HBq2.out.n; have h3 := HI6.out; omega)
     clear hb1 hb2
     go_wp2
     refine start_ (n := 24) (S := fun w' => w'.heap[gr]? = some (.cells (dqc q2 A2 c2 AP cP) 48 (0, 0)) ∧ True) (ds := []) #[false, false, false, false, false, false, false, false, false, false, false, false, false, false, false, false, false, false, false, false, false, false, false, false] (by kernel_rfl) rfl rfl ⟨HPd.out.box, trivial⟩ (fun hHeld => ?_)
     refine pure_ (i := 0) (N := some 138) (v := ?_) (a' := ?_) (fB 24 1) rfl rfl (by kernel_rfl) (fun _ _ _ h => h) (Or.inl ⟨by rfl, ?_⟩) ?_ ?_
     rotate_left
     ·intro w'; go_simp; with_reducible rfl
     rotate_left
     ·go_simp; rfl
     refine pure_ (i := 2) (N := some 140) (v := ?_) (a' := ?_) (fB 24 5) rfl rfl (by kernel_rfl) (fun _ _ _ h => h) (Or.inl ⟨by rfl, ?_⟩) ?_ ?_
     rotate_left
     ·intro w'; go_simp; with_reducible rfl
     rotate_left
     ·go_simp; rfl
     refine take_ (i := 3) (N := some 141) (v := ?_) (a' := ?_) (fB 24 13) rfl rfl (by kernel_rfl) (fun _ _ _ h => h) (Or.inl ⟨by rfl, ?_⟩) hHeld ?_ ?_
     rotate_left
     ·rintro w' ⟨s0, s1⟩
      have y1 := (blk_cell s0 1).trans (show (dqc q2 A2 c2 AP cP)[1]? = some (.slice A2 q2.l.length c2) from rfl)
      go_simp; with_reducible rfl
     rotate_left
     ·go_simp; rfl
     refine pure_ (i := 4) (N := some 142) (v := ?_) (a' := ?_) (fB 24 29) rfl rfl (by kernel_rfl) (fun _ _ _ h => h) (Or.inl ⟨by rfl, ?_⟩) ?_ ?_
     rotate_left
     ·intro w'; go_simp; with_reducible rfl
     rotate_left
     ·go_simp; rfl
     refine one_ (i := 1) (N := some 139) (fB 24 31) rfl rfl (by kernel_rfl) (by decide) (fun K hK => ?_)
     refine goes_ Tryd.func14 (by kernel_rfl) rfl #[.pointer (some ⟨g, 0, none⟩)] (by rfl) rfl rfl (by first | rfl | (simp only [List.map_toArray, List.map_cons, List.map_nil]; rfl)) ?_
     refine (len_is HPd.out.qs.qu).mono ?_
     rintro e x1 ⟨rfl, hb⟩; have HP1 := Aside0.mk (HPd.out.below hb); clear hb
     refine ⟨_, rfl, hK.out _ _ ⟨HP1.out.box, trivial⟩ (fun hHeld => ?_)⟩
     clear hK K
     refine norm_ (a' := ?_) ?_ ?_
     rotate_left
     ·show Act.put _ (some 139) _ = _
      go_simp
      rfl
     refine pure_ (i := 5) (N := some 143) (v := ?_) (a' := ?_) (fB 24 63) rfl rfl (by kernel_rfl) (fun _ _ _ h => h) (Or.inl ⟨by rfl, ?_⟩) ?_ ?_
     rotate_left
     ·intro w'; go_simp; with_reducible rfl
     rotate_left
     ·go_simp; rfl
     refine pure_ (i := 6) (N := some 144) (v := ?_) (a' := ?_) (fB 24 127) rfl rfl (by kernel_rfl) (fun _ _ _ h => h) (Or.inl ⟨by rfl, ?_⟩) ?_ ?_
     rotate_left
     ·intro w'; go_simp; with_reducible rfl
     rotate_left
     ·go_simp; rfl
     refine pure_ (i := 7) (N := some 145) (v := ?_) (a' := ?_) (fB 24 255) rfl rfl (by kernel_rfl) (fun _ _ _ h => h) (Or.inl ⟨by rfl, ?_⟩) ?_ ?_
     rotate_left
     ·intro w'; go_simp; with_reducible rfl
     rotate_left
     ·go_simp; rfl
     refine pure_ (i := 8) (N := some 146) (v := ?_) (a' := ?_) (fB 24 511) rfl rfl (by kernel_rfl) (fun _ _ _ h => h) (Or.inl ⟨by rfl, ?_⟩) ?_ ?_
     rotate_left
     ·intro w'; go_simp; with_reducible rfl
     rotate_left
     ·go_simp; rfl
     refine take_ (i := 10) (N := some 148) (v := ?_) (a' := ?_) (fB 24 1535) rfl rfl (by kernel_rfl) (fun _ _ _ h => h) (Or.inl ⟨by rfl, ?_⟩) hHeld ?_ ?_
     rotate_left
     ·rintro w' ⟨s0, s1⟩
      have y0 := (blk_cell s0 0).trans (show (dqc q2 A2 c2 AP cP)[0]? = some (.int .i64 q2.room) from rfl)
      have y1 := (blk_cell s0 1).trans (show (dqc q2 A2 c2 AP cP)[1]? = some (.slice A2 q2.l.length c2) from rfl)
      have y2 := (blk_cell s0 2).trans (show (dqc q2 A2 c2 AP cP)[2]? = some (.slice AP q2.os.length cP) from rfl)
      go_simp; with_reducible rfl
     rotate_left
     ·go_simp; rfl
     refine pure_ (i := 11) (N := some 149) (v := ?_) (a' := ?_) (fB 24 3583) rfl rfl (by kernel_rfl) (fun _ _ _ h => h) (Or.inl ⟨by rfl, ?_⟩) ?_ ?_
     rotate_left
     ·intro w'; go_simp; with_reducible rfl
     rotate_left
     ·go_simp; rfl
     refine one_ (i := 9) (N := some 147) (fB 24 4095) rfl rfl (by kernel_rfl) (by decide) (fun K hK => ?_)
     refine goes_ Tryd.func13 (by kernel_rfl) rfl #[.pointer (some ⟨g, 0, none⟩), .int .i64 sub] (by rfl) rfl rfl (by first | rfl | (simp only [List.map_toArray, List.map_cons, List.map_nil]; rfl)) ?_
     refine (over_is HP1.out.qs.qu sub hs).mono ?_
     rintro e x2 ⟨rfl, hb⟩; have HP2 := Aside0.mk (HP1.out.below hb); clear hb
     refine ⟨_, rfl, hK.out _ _ ⟨HP2.out.box, trivial⟩ (fun hHeld => ?_)⟩
     clear hK K
     refine norm_ (a' := ?_) ?_ ?_
     rotate_left
     ·show Act.put _ (some 147) _ = _
      go_simp
      rfl
     refine one_ (i := 12) (N := some 150) (fB 24 8191) rfl rfl (by kernel_rfl) (by decide) (fun K hK => ?_)
     refine goes_ Tryd.func23 (by kernel_rfl) rfl #[.agg (dqc q2 A2 c2 AP cP), .int .i64 sub] (by rfl) rfl rfl (by first | rfl | (simp only [List.map_toArray, List.map_cons, List.map_nil]; rfl)) ?_
     refine (docMissed_is HP2.out.dq HOl.out sub).mono ?_
     rintro e x3 ⟨rfl, hb⟩; have HP3 := Aside0.mk (HP2.out.below hb); clear hb
     refine ⟨_, rfl, hK.out _ _ ⟨HP3.out.box, trivial⟩ (fun hHeld => ?_)⟩
     clear hK K
     refine norm_ (a' := ?_) ?_ ?_
     rotate_left
     ·show Act.put _ (some 150) _ = _
      go_simp
      rfl
     refine pure_ (i := 13) (N := some 151) (v := ?_) (a' := ?_) (fB 24 16383) rfl rfl (by kernel_rfl) (fun _ _ _ h => h) (Or.inl ⟨by rfl, ?_⟩) ?_ ?_
     rotate_left
     ·intro w'; go_simp; with_reducible rfl
     rotate_left
     ·go_simp; rfl
     refine pure_ (i := 14) (N := some 152) (v := ?_) (a' := ?_) (fB 24 32767) rfl rfl (by kernel_rfl) (fun _ _ _ h => h) (Or.inl ⟨by rfl, ?_⟩) ?_ ?_
     rotate_left
     ·intro w'; go_simp; with_reducible rfl
     rotate_left
     ·go_simp; rfl
     refine pure_ (i := 15) (N := some 153) (v := ?_) (a' := ?_) (fB 24 65535) rfl rfl (by kernel_rfl) (fun _ _ _ h => h) (Or.inl ⟨by rfl, ?_⟩) ?_ ?_
     rotate_left
     ·intro w'; go_simp; with_reducible rfl
     rotate_left
     ·go_simp; rfl
     refine pure_ (i := 16) (N := some 154) (v := ?_) (a' := ?_) (fB 24 131071) rfl rfl (by kernel_rfl) (fun _ _ _ h => h) (Or.inl ⟨by rfl, ?_⟩) ?_ ?_
     rotate_left
     ·intro w'; go_simp; with_reducible rfl
     rotate_left
     ·go_simp; rfl
     refine pure_ (i := 19) (N := some 157) (v := ?_) (a' := ?_) (fB 24 655359) rfl rfl (by kernel_rfl) (fun _ _ _ h => h) (Or.inl ⟨by rfl, ?_⟩) ?_ ?_
     rotate_left
     ·intro w'; go_simp; with_reducible rfl
     rotate_left
     ·go_simp; rfl
     refine take_ (i := 20) (N := some 158) (v := ?_) (a' := ?_) (fB 24 1703935) rfl rfl (by kernel_rfl) (fun _ _ _ h => h) (Or.inl ⟨by rfl, ?_⟩) hHeld ?_ ?_
     rotate_left
     ·rintro w' ⟨s0, s1⟩
      have y1 := (blk_cell s0 1).trans (show (dqc q2 A2 c2 AP cP)[1]? = some (.slice A2 q2.l.length c2) from rfl)
      go_simp; with_reducible rfl
     rotate_left
     ·go_simp; rfl
     refine one_ (i := 17) (N := some 155) (fB 24 1835007) rfl rfl (by kernel_rfl) (by decide) (fun K hK => ?_)
     refine goes_ Tryd.func12 (by kernel_rfl) rfl #[.pointer (some ⟨g, 0, none⟩)] (by rfl) rfl rfl (by first | rfl | (simp only [List.map_toArray, List.map_cons, List.map_nil]; rfl)) ?_
     refine (peek_is HP3.out.qs.qu HBq2.out HSm2.out).mono ?_
     rintro e x4 ⟨o, rfl, hr, hb⟩; obtain ⟨Ao, co, rfl⟩ := Kd.R_slice hr; have HP4 := Aside0.mk (HP3.out.below hb); have HRo := Aside0.mk hr; clear hr hb
     refine ⟨_, rfl, hK.out _ _ ⟨HP4.out.box, trivial⟩ (fun hHeld => ?_)⟩
     clear hK K
     refine norm_ (a' := ?_) ?_ ?_
     rotate_left
     ·show Act.put _ (some 155) _ = _
      go_simp
      rfl
     refine one_ (i := 18) (N := some 156) (fB 24 2097151) rfl rfl (by kernel_rfl) (by decide) (fun K hK => ?_)
     refine goes_ Tryd.func19 (by kernel_rfl) rfl #[.slice Ao q2.l.length co] (by rfl) rfl rfl (by first | rfl | (simp only [List.map_toArray, List.map_cons, List.map_nil]; rfl)) ?_
     refine (refs_n rfl (Kd.R_reads' HRo.out).2.2 (Kd.R_reads' HRo.out).2.1 (by have := HQl.out; omega) HSm2.out).mono ?_
     rintro e x5 ⟨Ar, cr, rfl, hr, hb⟩; have HP5 := Aside0.mk (HP4.out.below hb); have HRr := Aside0.mk hr; clear hr hb
     refine ⟨_, rfl, hK.out _ _ ⟨HP5.out.box, trivial⟩ (fun hHeld => ?_)⟩
     clear hK K
     refine norm_ (a' := ?_) ?_ ?_
     rotate_left
     ·show Act.put _ (some 156) _ = _
      go_simp
      rfl
     refine one_ (i := 21) (N := some 159) (fB 24 4194303) rfl rfl (by kernel_rfl) (by decide) (fun K hK => ?_)
     refine goes_ Tryd.func21 (by kernel_rfl) rfl #[.slice Ar q2.l.length cr, .slice A2 q2.l.length c2] (by rfl) rfl rfl (by first | rfl | (simp only [List.map_toArray, List.map_cons, List.map_nil]; rfl)) ?_
     refine (same18_is (l := q2.l.map rf) (List.length_map _) (by have h0 := (Kd.R_reads' HRr.out).2.2; rwa [List.length_map] at h0) (by have h0 := HP5.out.dq.doc.D.C; rwa [List.length_map] at h0) (Kd.R_reads' HRr.out).2.1 (doc_c1 HP5.out.dq.doc) (by have := HQl.out; omega) (same_len _ HSm2.out)).mono ?_
     rintro e x6 ⟨rfl, hb⟩; have HP6 := Aside0.mk (HP5.out.below hb); clear hb
     refine ⟨_, rfl, hK.out _ _ ⟨HP6.out.box, trivial⟩ (fun hHeld => ?_)⟩
     clear hK K
     refine norm_ (a' := ?_) ?_ ?_
     rotate_left
     ·show Act.put _ (some 159) _ = _
      go_simp
      rfl
     refine pure_ (i := 22) (N := some 160) (v := ?_) (a' := ?_) (fB 24 8388607) rfl rfl (by kernel_rfl) (fun _ _ _ h => h) (Or.inl ⟨by rfl, ?_⟩) ?_ ?_
     rotate_left
     ·intro w'; go_simp; with_reducible rfl
     rotate_left
     ·go_simp; rfl
     refine pure_ (i := 23) (N := some 161) (v := ?_) (a' := ?_) (fB 24 16777215) rfl rfl (by kernel_rfl) (fun _ _ _ h => h) (Or.inl ⟨by rfl, ?_⟩) ?_ ?_
     rotate_left
     ·intro w'; go_simp; with_reducible rfl
     rotate_left
     ·go_simp; rfl
     refine done_ (by kernel_rfl) ?_
     go_wp2
     go_roundg k1
     case measure => omega
     case rel => exact ⟨i + 1, q2, v2, A2, c2, AP, cP, rfl, ⟨by omega⟩, HP6, HBq2, HSm2⟩
end Go.Proofs.YtmcochnofkjhaaaDoor.QU
