/- The document's link: Take, the walk. By hand. -/
import Derived.Test.YtdibaeomepallaaMd
namespace Go.Proofs.Ytdibaeomepallaa.LK
open Go.RowKit Go.Proofs.YtdibaeomepallaaW.PrintWords Go.Proofs.YtdibaeomepallaaW.PrintLast Go.Proofs.YtdibaeomepallaaW.PrintMore Go.Proofs.Ytdibaeomepallaa.PAll Go.Proofs.Ytdibaeomepallaa.NW
set_option linter.unusedVariables false
set_option linter.unusedSimpArgs false
set_option maxRecDepth 100000
set_option maxHeartbeats 64000000 in
theorem take13_is {w : World} {P : Nat → Prop} {l : Lk} {vq ve : Value} (ho : One l) (h9 : l.er.length ≤ 999) (hq : RW Kd.string w P vq l.q) (he : RW k142 w P ve (erS l.er)) (p : Pk) :
    Calls Try.prog 48 #[.agg #[.int .i64 l.x.f0, .int .i64 l.x.f1, .int .i64 l.x.f2, .int .i64 l.x.f3, .int .i64 l.x.f4, vq, .int .i64 l.base, .int .i64 l.out, .int .i64 l.want, ve], .agg #[.int .i64 p.f0, .int .i64 p.f1, .int .i64 p.f2, .int .i64 p.f3, .int .i64 p.f4, .int .i64 p.f5, .string p.f6]] w (Take13 w P l p) := by
  have hu81 := Try.underlying81
  have hu87 := Try.underlying87
  have hu58 := Try.underlying58
  have hu142 := Try.underlying142
  have HO := Aside0.mk ho
  have HBd := Aside0.mk ho.bd
  have HQ0 := Aside0.mk hq
  have HE0 := Aside0.mk he
  obtain ⟨p1, p2, o8, oq, q64, z1, z2, e1000⟩ := ho.bd
  obtain ⟨Aq, cq, rfl, hcq, _⟩ := hq
  obtain ⟨Ae, ce, rfl, hce, hFe⟩ := he
  rw [erS_len] at hce hFe HE0 ⊢
  have HEF := Aside0.mk (show Kd.F k142 w P Ae (erS l.er).length (erS l.er) by rw [erS_len]; exact hFe)
  have HEC := Aside0.mk (Kd.F_now hFe)
  clear hFe
  have hck := check13_is p
  clear ho
  cases hok : okP p with
  | false =>
    rw [hok] at hck
    have HCK := Aside0.mk hck
    have HE := Aside0.mk (show tkE l p = 1 by unfold tkE; rw [if_neg (fun e => by rw [hok] at e; cases e.1)])
    clear hck hok
    go_enter Try.func48, Try.ntmps48
    go_wp2_with (first
      | ((with_reducible refine gate_dst (N := 2) rfl ?_); refine box_event ?hg (N := 2) ?hd (cs := #[.int .i64 l.x.f0, .int .i64 l.x.f1, .int .i64 l.x.f2, .int .i64 l.x.f3, .int .i64 l.x.f4, .slice Aq l.q.length cq, .int .i64 l.base, .int .i64 l.out, .int .i64 l.want, .slice Ae l.er.length ce]) (t := 81) ?hr ?_; (case hd => rfl); (case hg => rfl); (case hr => first | (go_simp; done) | (go_simp; rfl)); intro g1 hg1 v1 kg1 bg1; have Gg1 := Aside0.mk hg1; clear hg1; have H1 := Aside0.mk kg1; have HB1 := Aside0.mk bg1; clear kg1 bg1)
      | ((with_reducible refine gate_dst (N := 3) rfl ?_); refine box_event ?hg (N := 3) ?hd (cs := #[.int .i64 p.f0, .int .i64 p.f1, .int .i64 p.f2, .int .i64 p.f3, .int .i64 p.f4, .int .i64 p.f5, .string p.f6]) (t := 58) ?hr ?_; (case hd => rfl); (case hg => rfl); (case hr => first | (go_simp; done) | (go_simp; rfl)); intro g2 hg2 v2 kg2 bg2; have Gg2 := Aside0.mk hg2; clear hg2; have H2 := Aside0.mk kg2; have H12 := Aside0.mk (keepB H1.out bg2); have HB2 := Aside0.mk (HB1.out.trans (bg2.mono HB1.out.size)); clear kg2 bg2)
      | ((with_reducible refine gate_dst (N := 4) rfl ?_); refine box_event ?hg (N := 4) ?hd (cs := #[.int .i64 0, .int .i64 0, .int .i64 0, .int .i64 0, .int .i64 0, .slice none 0 0, .int .i64 0, .int .i64 0, .int .i64 0, .slice none 0 0, .slice none 0 0, .slice none 0 0, .int .i64 0]) (t := 87) ?hr ?_; (case hd => rfl); (case hg => rfl); (case hr => first | (go_simp; done) | (go_simp; rfl)); intro g3 hg3 v3 kg3 bg3; have Gg3 := Aside0.mk hg3; clear hg3; have HT3 := Aside0.mk (show TB w v3 g1 g2 g3 l (.slice Aq l.q.length cq) (.slice Ae l.er.length ce) p from ⟨keepB H12.out bg3, keepB H2.out bg3, kg3, by have := blk_lt H1.out; have := Gg2.out; omega, by have := blk_lt H2.out; have := Gg3.out; omega, by rw [Gg1.out]; exact Nat.le_refl _, HB2.out.trans (bg3.mono HB2.out.size)⟩); clear kg3 bg3 HB1 HB2 H1 H2 H12)
      | ((with_reducible refine gate_dst (N := 11) rfl ?_); refine wpList_load_row rfl 58 (.tmp 3) rfl g2 rfl 58 _ (0, 0) _ HT3.out.h2 Try.underlying58 rfl info58s ?_)
      | ((with_reducible refine gate_dst (N := 12) rfl ?_); refine goesL_ (some 12) rfl rfl Try.func79 (by kernel_rfl) rfl #[.agg #[.int .i64 p.f0, .int .i64 p.f1, .int .i64 p.f2, .int .i64 p.f3, .int .i64 p.f4, .int .i64 p.f5, .string p.f6]] rfl (by first | (simp only [List.map_toArray, List.map_cons, List.map_nil]; rfl) | rfl) ?_; refine (caduceusref11_CheckPacket.calls p.f0 p.f1 p.f2 p.f3 p.f4 p.f5 p.f6 _ _ HCK.out).mono ?_; rintro e w4 ⟨rfl, hb4⟩; have HT4 := Aside0.mk (HT3.out.bel hb4); have HV4 := Aside0.mk (Nat.lt_of_lt_of_le (blk_lt HT3.out.h3) hb4.size); clear hb4 HT3; have xf0 : w4.cell? ⟨g2, 0, none⟩ = some (.int .i64 p.f0) := (blk_cell HT4.out.h2 0).trans rfl; have xf1 : w4.cell? ⟨g2, 1, none⟩ = some (.int .i64 p.f1) := (blk_cell HT4.out.h2 1).trans rfl; have xf2 : w4.cell? ⟨g2, 2, none⟩ = some (.int .i64 p.f2) := (blk_cell HT4.out.h2 2).trans rfl; have xf3 : w4.cell? ⟨g2, 3, none⟩ = some (.int .i64 p.f3) := (blk_cell HT4.out.h2 3).trans rfl; have xf4 : w4.cell? ⟨g2, 4, none⟩ = some (.int .i64 p.f4) := (blk_cell HT4.out.h2 4).trans rfl; have xf5 : w4.cell? ⟨g2, 5, none⟩ = some (.int .i64 p.f5) := (blk_cell HT4.out.h2 5).trans rfl; have xf6 : w4.cell? ⟨g2, 6, none⟩ = some (.string p.f6) := (blk_cell HT4.out.h2 6).trans rfl; have y0 : w4.cell? ⟨g1, 0, none⟩ = some (.int .i64 l.x.f0) := (blk_cell HT4.out.h1 0).trans rfl; have y1 : w4.cell? ⟨g1, 1, none⟩ = some (.int .i64 l.x.f1) := (blk_cell HT4.out.h1 1).trans rfl; have y2 : w4.cell? ⟨g1, 2, none⟩ = some (.int .i64 l.x.f2) := (blk_cell HT4.out.h1 2).trans rfl; have y3 : w4.cell? ⟨g1, 3, none⟩ = some (.int .i64 l.x.f3) := (blk_cell HT4.out.h1 3).trans rfl; have c5 : w4.cell? ⟨g1, 5, none⟩ = some (.slice Aq l.q.length cq) := (blk_cell HT4.out.h1 5).trans rfl; have c6 : w4.cell? ⟨g1, 6, none⟩ = some (.int .i64 l.base) := (blk_cell HT4.out.h1 6).trans rfl; have c7 : w4.cell? ⟨g1, 7, none⟩ = some (.int .i64 l.out) := (blk_cell HT4.out.h1 7).trans rfl; have c8 : w4.cell? ⟨g1, 8, none⟩ = some (.int .i64 l.want) := (blk_cell HT4.out.h1 8).trans rfl; have c9 : w4.cell? ⟨g1, 9, none⟩ = some (.slice Ae l.er.length ce) := (blk_cell HT4.out.h1 9).trans rfl; refine ⟨_, rfl, ?_⟩)
      | ((with_reducible refine gate_dst (N := 30) rfl ?_); refine wpList_load_row rfl 81 (.tmp 2) rfl g1 rfl 81 _ (0, 0) _ HT4.out.h1 Try.underlying81 rfl info81s ?_)
      | ((with_reducible refine gate_store (t := 87) (p := 4) rfl ?_); refine wpList_store_row rfl 87 (.tmp 4) (.tmp 31) rfl g3 #[.int .i64 l.x.f0, .int .i64 l.x.f1, .int .i64 l.x.f2, .int .i64 l.x.f3, .int .i64 l.x.f4, .slice Aq l.q.length cq, .int .i64 l.base, .int .i64 l.out, .int .i64 l.want, .slice Ae l.er.length ce, .slice none 0 0, .slice none 0 0, .int .i64 1] rfl rfl 87 _ HT4.out.h3 info87s rfl (by rw [List.all_toArray]; rfl) ?_))
    refine bodyPost_ret (results_cell_row rfl _ _ g3 87 #[.int .i64 l.x.f0, .int .i64 l.x.f1, .int .i64 l.x.f2, .int .i64 l.x.f3, .int .i64 l.x.f4, .slice Aq l.q.length cq, .int .i64 l.base, .int .i64 l.out, .int .i64 l.want, .slice Ae l.er.length ce, .slice none 0 0, .slice none 0 0, .int .i64 1] (0, 0) _ rfl (setRow_heap _ _ _ _ _ _ HT4.out.h3) hu87 rfl info87s) rfl ?_
    exact take13_no HQ0.out HE0.out (below_setRow HT4.out.below (by have := HT4.out.low; have := HT4.out.n12; have := HT4.out.n23; omega) _) HE.out (by decide)
  | true =>
    rw [hok] at hck
    have HCK := Aside0.mk hck
    have HOK := Aside0.mk hok
    clear hck hok
    by_cases h1 : p.f0 = l.x.f2
    · have n1 : (p.f0 != l.x.f2) = false := by rw [h1]; simp
      by_cases h2 : p.f1 = l.x.f0
      · have n2 : (p.f1 != l.x.f0) = false := by rw [h2]; simp
        by_cases h3 : p.f2 = l.x.f3
        · have n3 : (p.f2 != l.x.f3) = false := by rw [h3]; simp
          by_cases h4 : p.f3 = l.x.f1
          · have n4 : (p.f3 != l.x.f1) = false := by rw [h4]; simp
            have HE := Aside0.mk (show tkE l p = 0 by unfold tkE; rw [if_pos ⟨HOK.out, h1, h2⟩, if_pos ⟨h3, h4⟩])
            clear h1 h2 h3 h4
            obtain ⟨q0, q1, q2, q3, q4⟩ := okP_nums HOK.out
            obtain ⟨l1, hl1⟩ : ∃ l1, ack l p.f5 = l1 := ⟨_, rfl⟩
            have HL1 := Aside0.mk hl1
            obtain ⟨l2, hl2⟩ : ∃ l2, tk2 l p = l2 := ⟨_, rfl⟩
            have HL2 := Aside0.mk hl2
            have HBd1 := Aside0.mk (show Bd l1 by rw [← hl1]; exact HBd.out.ack p.f5)
            have HBd2 := Aside0.mk (show Bd l2 by rw [← hl2]; exact HBd.out.tk2 h9 p)
            have HER1 := Aside0.mk (show l1.er = l.er by rw [← hl1]; rfl)
            have HW1 := Aside0.mk (show l1.want = l.want by rw [← hl1]; rfl)
            clear hl1 hl2
            go_enter Try.func48, Try.ntmps48
            go_upto_region 5 with (first
                | ((with_reducible refine gate_dst (N := 2) rfl ?_); refine box_event ?hg (N := 2) ?hd (cs := #[.int .i64 l.x.f0, .int .i64 l.x.f1, .int .i64 l.x.f2, .int .i64 l.x.f3, .int .i64 l.x.f4, .slice Aq l.q.length cq, .int .i64 l.base, .int .i64 l.out, .int .i64 l.want, .slice Ae l.er.length ce]) (t := 81) ?hr ?_; (case hd => rfl); (case hg => rfl); (case hr => first | (go_simp; done) | (go_simp; rfl)); intro g1 hg1 v1 kg1 bg1; have Gg1 := Aside0.mk hg1; clear hg1; have H1 := Aside0.mk kg1; have HB1 := Aside0.mk bg1; clear kg1 bg1)
                | ((with_reducible refine gate_dst (N := 3) rfl ?_); refine box_event ?hg (N := 3) ?hd (cs := #[.int .i64 p.f0, .int .i64 p.f1, .int .i64 p.f2, .int .i64 p.f3, .int .i64 p.f4, .int .i64 p.f5, .string p.f6]) (t := 58) ?hr ?_; (case hd => rfl); (case hg => rfl); (case hr => first | (go_simp; done) | (go_simp; rfl)); intro g2 hg2 v2 kg2 bg2; have Gg2 := Aside0.mk hg2; clear hg2; have H2 := Aside0.mk kg2; have H12 := Aside0.mk (keepB H1.out bg2); have HB2 := Aside0.mk (HB1.out.trans (bg2.mono HB1.out.size)); clear kg2 bg2)
                | ((with_reducible refine gate_dst (N := 4) rfl ?_); refine box_event ?hg (N := 4) ?hd (cs := #[.int .i64 0, .int .i64 0, .int .i64 0, .int .i64 0, .int .i64 0, .slice none 0 0, .int .i64 0, .int .i64 0, .int .i64 0, .slice none 0 0, .slice none 0 0, .slice none 0 0, .int .i64 0]) (t := 87) ?hr ?_; (case hd => rfl); (case hg => rfl); (case hr => first | (go_simp; done) | (go_simp; rfl)); intro g3 hg3 v3 kg3 bg3; have Gg3 := Aside0.mk hg3; clear hg3; have HT3 := Aside0.mk (show TB w v3 g1 g2 g3 l (.slice Aq l.q.length cq) (.slice Ae l.er.length ce) p from ⟨keepB H12.out bg3, keepB H2.out bg3, kg3, by have := blk_lt H1.out; have := Gg2.out; omega, by have := blk_lt H2.out; have := Gg3.out; omega, by rw [Gg1.out]; exact Nat.le_refl _, HB2.out.trans (bg3.mono HB2.out.size)⟩); clear kg3 bg3 HB1 HB2 H1 H2 H12)
                | ((with_reducible refine gate_dst (N := 11) rfl ?_); refine wpList_load_row rfl 58 (.tmp 3) rfl g2 rfl 58 _ (0, 0) _ HT3.out.h2 Try.underlying58 rfl info58s ?_)
                | ((with_reducible refine gate_dst (N := 12) rfl ?_); refine goesL_ (some 12) rfl rfl Try.func79 (by kernel_rfl) rfl #[.agg #[.int .i64 p.f0, .int .i64 p.f1, .int .i64 p.f2, .int .i64 p.f3, .int .i64 p.f4, .int .i64 p.f5, .string p.f6]] rfl (by first | (simp only [List.map_toArray, List.map_cons, List.map_nil]; rfl) | rfl) ?_; refine (caduceusref11_CheckPacket.calls p.f0 p.f1 p.f2 p.f3 p.f4 p.f5 p.f6 _ _ HCK.out).mono ?_; rintro e w4 ⟨rfl, hb4⟩; have HT4 := Aside0.mk (HT3.out.bel hb4); have HV4 := Aside0.mk (Nat.lt_of_lt_of_le (blk_lt HT3.out.h3) hb4.size); clear hb4 HT3; have xf0 : w4.cell? ⟨g2, 0, none⟩ = some (.int .i64 p.f0) := (blk_cell HT4.out.h2 0).trans rfl; have xf1 : w4.cell? ⟨g2, 1, none⟩ = some (.int .i64 p.f1) := (blk_cell HT4.out.h2 1).trans rfl; have xf2 : w4.cell? ⟨g2, 2, none⟩ = some (.int .i64 p.f2) := (blk_cell HT4.out.h2 2).trans rfl; have xf3 : w4.cell? ⟨g2, 3, none⟩ = some (.int .i64 p.f3) := (blk_cell HT4.out.h2 3).trans rfl; have xf4 : w4.cell? ⟨g2, 4, none⟩ = some (.int .i64 p.f4) := (blk_cell HT4.out.h2 4).trans rfl; have xf5 : w4.cell? ⟨g2, 5, none⟩ = some (.int .i64 p.f5) := (blk_cell HT4.out.h2 5).trans rfl; have xf6 : w4.cell? ⟨g2, 6, none⟩ = some (.string p.f6) := (blk_cell HT4.out.h2 6).trans rfl; have y0 : w4.cell? ⟨g1, 0, none⟩ = some (.int .i64 l.x.f0) := (blk_cell HT4.out.h1 0).trans rfl; have y1 : w4.cell? ⟨g1, 1, none⟩ = some (.int .i64 l.x.f1) := (blk_cell HT4.out.h1 1).trans rfl; have y2 : w4.cell? ⟨g1, 2, none⟩ = some (.int .i64 l.x.f2) := (blk_cell HT4.out.h1 2).trans rfl; have y3 : w4.cell? ⟨g1, 3, none⟩ = some (.int .i64 l.x.f3) := (blk_cell HT4.out.h1 3).trans rfl; have c5 : w4.cell? ⟨g1, 5, none⟩ = some (.slice Aq l.q.length cq) := (blk_cell HT4.out.h1 5).trans rfl; have c6 : w4.cell? ⟨g1, 6, none⟩ = some (.int .i64 l.base) := (blk_cell HT4.out.h1 6).trans rfl; have c7 : w4.cell? ⟨g1, 7, none⟩ = some (.int .i64 l.out) := (blk_cell HT4.out.h1 7).trans rfl; have c8 : w4.cell? ⟨g1, 8, none⟩ = some (.int .i64 l.want) := (blk_cell HT4.out.h1 8).trans rfl; have c9 : w4.cell? ⟨g1, 9, none⟩ = some (.slice Ae l.er.length ce) := (blk_cell HT4.out.h1 9).trans rfl; refine ⟨_, rfl, ?_⟩))
            clear n1 n2 n3 n4 y0 y1 y2 y3 xf0 xf1 xf2 xf3 xf4 xf6 c8 c9
            go_cut [62] from 11 (fun s62 wx => s62 = .bool (decide (l.base ≤ p.f5 ∧ p.f5 < l.base + (l.out : Int))) ∧ wx = w4)
            case first =>
              by_cases a1 : l.base ≤ p.f5
              · have e1 : decide (l.base ≤ p.f5) = true := decide_eq_true a1
                by_cases a2 : p.f5 < l.base + (l.out : Int)
                · have e2 : decide (p.f5 < l.base + (l.out : Int)) = true := decide_eq_true a2
                  have EE := Aside0.mk (decide_eq_true (And.intro a1 a2))
                  clear a1 a2
                  go_wp2
                  go_meet
                  case rel => exact ⟨by rw [EE.out], rfl⟩
                · have e2 : decide (p.f5 < l.base + (l.out : Int)) = false := decide_eq_false a2
                  have EE := Aside0.mk (decide_eq_false (fun e : l.base ≤ p.f5 ∧ p.f5 < l.base + (l.out : Int) => a2 e.2))
                  clear a1 a2
                  go_wp2
                  go_meet
                  case rel => exact ⟨by rw [EE.out], rfl⟩
              · have e1 : decide (l.base ≤ p.f5) = false := decide_eq_false a1
                have EE := Aside0.mk (decide_eq_false (fun e : l.base ≤ p.f5 ∧ p.f5 < l.base + (l.out : Int) => a1 e.1))
                clear a1
                go_wp2
                go_meet
                case rel => exact ⟨by rw [EE.out], rfl⟩
            case rest =>
            obtain ⟨rfl, rfl⟩ := hcut
            go_upto_if 62 with fail
            go_cut [] from 11 (fun wx => ∃ vq1, Aside0 (TB w wx g1 g2 g3 l1 vq1 (.slice Ae l.er.length ce) p) ∧ Aside0 (RW Kd.string w P vq1 l1.q))
            case first =>
              by_cases a : l.base ≤ p.f5 ∧ p.f5 < l.base + (l.out : Int)
              · have e1 : decide (l.base ≤ p.f5 ∧ p.f5 < l.base + (l.out : Int)) = true := decide_eq_true a
                rw [e1]
                obtain ⟨a1, a2⟩ := a
                have hk : ackN l p.f5 = (p.f5 - l.base + 1).toNat := if_neg (by omega)
                have HK := Aside0.mk hk
                clear hk
                obtain ⟨i9, hi9, he9⟩ := Option.map_eq_some_iff.1 info9
                obtain ⟨A', hrun, hreads, hle⟩ := print_drop_of (P := Try.prog) Value.string emp 73 9 .i64 Try.underlying73 hi9 (congrArg (·.2.1) he9) Aq cq l.q (p.f5 - l.base + 1) (by omega) (by omega) hcq
                have HDR := Aside0.mk (RW.drop HQ0.out hreads hle)
                have hne : g2 ≠ g1 := by have := HT4.out.n12; omega
                rw [List.length_drop] at hrun HDR
                clear hreads hle hi9 he9
                have f5 := blk_frozen HT4.out.h1 5
                have f6 := blk_frozen HT4.out.h1 6
                have f7 := blk_frozen HT4.out.h1 7
                go_wp2
                go_meet
                case rel =>
                  obtain rfl := HL1.out
                  have e6 : p.f5 + 1 = (ack l p.f5).base := by show _ = l.base + (ackN l p.f5 : Int); rw [HK.out]; omega
                  have e7 : (l.out : Int) - (p.f5 - l.base + 1) = ((ack l p.f5).out : Int) := by show _ = ((l.out - ackN l p.f5 : Nat) : Int); rw [HK.out]; omega
                  refine ⟨.slice A' (l.q.length - (p.f5 - l.base + 1).toNat) (cq - (p.f5 - l.base + 1).toNat), ⟨?_⟩, ⟨?_⟩⟩
                  · rw [e6, e7]
                    have t1 := HT4.out.set (l' := { ack l p.f5 with base := l.base, out := l.out }) (vq' := .slice A' (l.q.length - (p.f5 - l.base + 1).toNat) (cq - (p.f5 - l.base + 1).toNat)) (ve' := .slice Ae l.er.length ce) 5 (.slice A' (l.q.length - (p.f5 - l.base + 1).toNat) (cq - (p.f5 - l.base + 1).toNat)) rfl
                    have t2 := t1.set (l' := { ack l p.f5 with out := l.out }) (vq' := .slice A' (l.q.length - (p.f5 - l.base + 1).toNat) (cq - (p.f5 - l.base + 1).toNat)) (ve' := .slice Ae l.er.length ce) 6 (.int .i64 (ack l p.f5).base) rfl
                    exact t2.set (l' := ack l p.f5) (vq' := .slice A' (l.q.length - (p.f5 - l.base + 1).toNat) (cq - (p.f5 - l.base + 1).toNat)) (ve' := .slice Ae l.er.length ce) 7 (.int .i64 (ack l p.f5).out) rfl
                  · show RW Kd.string w P _ (l.q.drop (ackN l p.f5))
                    rw [HK.out]
                    exact HDR.out
              · have e1 : decide (l.base ≤ p.f5 ∧ p.f5 < l.base + (l.out : Int)) = false := decide_eq_false a
                rw [e1]
                have HA := Aside0.mk (show l1 = l by rw [← HL1.out]; exact ack_out (by omega))
                go_wp2
                go_meet
                case rel => exact ⟨_, ⟨by rw [HA.out]; exact HT4.out⟩, ⟨by rw [HA.out]; exact HQ0.out⟩⟩
            case rest =>
            obtain ⟨vq1, HT1, HQ1⟩ := hcut
            obtain ⟨W1, hW1⟩ : ∃ W1, W1 = wc := ⟨_, rfl⟩
            subst hW1
            clear HT4 HV4 xf5 c5 c6 c7
            have HI1 := Aside0.mk (show Idle l1.want l1.er by rw [HW1.out, HER1.out]; exact HO.out.idle)
            have HG3 := Aside0.mk (blk_lt HT1.out.h3)
            have xf4 : W1.cell? ⟨g2, 4, none⟩ = some (.int .i64 p.f4) := (blk_cell HT1.out.h2 4).trans rfl
            have c8 : W1.cell? ⟨g1, 8, none⟩ = some (.int .i64 l1.want) := (blk_cell HT1.out.h1 8).trans rfl
            have c9 : W1.cell? ⟨g1, 9, none⟩ = some (.slice Ae l.er.length ce) := (blk_cell HT1.out.h1 9).trans rfl
            have hw1 : 1 ≤ l1.want := by rw [HW1.out]; exact z1
            have hw2 : l1.want ≤ 1099511627775 := by rw [HW1.out]; exact z2
            go_upto_region 11 with fail
            go_cut [108] from 11 (fun s108 wx => ∃ b : Bool, s108 = .bool b ∧ Aside0 (b = true ↔ isNew l1 p) ∧ Aside0 (Below W1.heap.size W1 wx))
            case first =>
              by_cases a1 : l1.want ≤ p.f4
              · have e1 : decide (l1.want ≤ p.f4) = true := decide_eq_true a1
                have n5 : (p.f4 != 0) = true := bne_iff_ne.mpr (by omega)
                have HA1 := Aside0.mk a1
                by_cases a2 : p.f4 - l1.want < 8
                · have e2 : decide (p.f4 - l1.want < 8) = true := decide_eq_true a2
                  have HA2 := Aside0.mk a2
                  clear a1 a2
                  cases hf : fnd l.er p.f4 with
                  | none =>
                    have HH := Aside0.mk (has_none hf)
                    have HF := Aside0.mk hf
                    clear hf
                    go_wp2_with (first
                      | ((with_reducible refine gate_dst (N := 106) rfl ?_); refine gate_guard (by rfl) ?_; dsimp only; refine goesL_ (some 106) rfl rfl Try.func80 (by kernel_rfl) rfl #[.slice Ae l.er.length ce, .int .i64 p.f4] rfl (by first | (simp only [List.map_toArray, List.map_cons, List.map_nil]; rfl) | rfl) ?_; refine (has_is (Kd.C_below HEC.out HT1.out.below) hce (by omega) p.f4).mono ?_; rintro e w5 ⟨rfl, hb5⟩; rw [HH.out]; have HB5 := Aside0.mk hb5; clear hb5; refine ⟨_, rfl, ?_⟩))
                    go_meet
                    case rel => exact ⟨true, rfl, ⟨⟨fun _ => ⟨HA1.out, HA2.out, by rw [HER1.out]; exact HF.out⟩, fun _ => rfl⟩⟩, HB5⟩
                  | some s =>
                    obtain ⟨j, hj, _, _⟩ := has_some hf
                    have HH := Aside0.mk hj
                    have HF := Aside0.mk hf
                    have e4 : decide ((j : Int) < 0) = false := decide_eq_false (by omega)
                    clear hf hj
                    go_wp2_with (first
                      | ((with_reducible refine gate_dst (N := 106) rfl ?_); refine gate_guard (by rfl) ?_; dsimp only; refine goesL_ (some 106) rfl rfl Try.func80 (by kernel_rfl) rfl #[.slice Ae l.er.length ce, .int .i64 p.f4] rfl (by first | (simp only [List.map_toArray, List.map_cons, List.map_nil]; rfl) | rfl) ?_; refine (has_is (Kd.C_below HEC.out HT1.out.below) hce (by omega) p.f4).mono ?_; rintro e w5 ⟨rfl, hb5⟩; rw [HH.out]; have HB5 := Aside0.mk hb5; clear hb5; refine ⟨_, rfl, ?_⟩))
                    go_meet
                    case rel => exact ⟨false, rfl, ⟨⟨fun e => (by cases e), fun e => (by have h := e.2.2; rw [HER1.out, HF.out] at h; cases h)⟩⟩, HB5⟩
                · have e2 : decide (p.f4 - l1.want < 8) = false := decide_eq_false a2
                  have HA2 := Aside0.mk (show ¬ isNew l1 p from fun e => a2 e.2.1)
                  clear a1 a2
                  go_wp2
                  go_meet
                  case rel => exact ⟨false, rfl, ⟨⟨fun e => (by cases e), fun e => absurd e HA2.out⟩⟩, ⟨Below.refl _ _⟩⟩
              · have e1 : decide (l1.want ≤ p.f4) = false := decide_eq_false a1
                have HA2 := Aside0.mk (show ¬ isNew l1 p from fun e => a1 e.1)
                clear a1
                go_wp2
                go_meet
                case rel => exact ⟨false, rfl, ⟨⟨fun e => (by cases e), fun e => absurd e HA2.out⟩⟩, ⟨Below.refl _ _⟩⟩
            case rest =>
            obtain ⟨b, rfl, HBN, HB5⟩ := hcut
            obtain ⟨W2, hW2⟩ : ∃ W2, W2 = wc := ⟨_, rfl⟩
            subst hW2
            have HT2 := Aside0.mk (HT1.out.bel HB5.out)
            have HG4 := Aside0.mk (show g3 < W2.heap.size from Nat.lt_of_lt_of_le HG3.out HB5.out.size)
            clear HT1 HB5 HG3 xf4 c8 c9
            go_upto_if 108 with fail
            go_cut [6] from 11 (fun s6 wx => ∃ ve2, Aside0 (TB w wx g1 g2 g3 l2 vq1 ve2 p) ∧ Aside0 (RW k142 wx (fun k => (P k ∧ k < w.heap.size) ∨ W2.heap.size ≤ k) ve2 (erS l2.er)) ∧ Aside0 (Kd.string.R 9 wx W2.heap.size (fun _ => True) s6 (tkT l p)))
            case first =>
              as_aux_lemma =>
                cases b with
                | false =>
                  have HTO := Aside0.mk (take_old HL1.out HL2.out HI1.out (fun e => by have := HBN.out.2 e; cases this))
                  go_wp2
                  go_meet
                  case rel =>
                    refine ⟨.slice Ae l.er.length ce, ⟨?_⟩, ⟨?_⟩, ⟨?_⟩⟩
                    · rw [← HTO.out.1]; exact HT2.out
                    · rw [← HTO.out.1, HER1.out]
                      refine ((RW.bound ⟨Ae, ce, by rw [erS_len], by rw [erS_len]; exact hce, HEF.out⟩).below HT2.out.below).mono (fun k hk => .inl hk)
                    · rw [HTO.out.2]; exact Kd.R_nil _ _ _ _ _
                | true =>
                  have HN := Aside0.mk (HBN.out.1 rfl)
                  obtain ⟨er0, her0⟩ : ∃ er0, l.er ++ [(p.f4, p.f6)] = er0 := ⟨_, rfl⟩
                  have HR0 := Aside0.mk her0
                  have HLE := Aside0.mk (show er0.length = l.er.length + 1 by rw [← her0, List.length_append]; rfl)
                  have HKE := Aside0.mk (show Keys er0 by
                    have h := keys_put HO.out.keys p.f4 p.f6
                    rw [put_new (by rw [← HER1.out]; exact HN.out.2.2), her0] at h
                    exact h)
                  have HES := Aside0.mk (show erS l.er ++ [(⟨p.f4, p.f6⟩ : S142)] = erS er0 by rw [← her0, erS_append]; rfl)
                  clear her0
                  have c9 : W2.cell? ⟨g1, 9, none⟩ = some (.slice Ae l.er.length ce) := (blk_cell HT2.out.h1 9).trans rfl
                  go_wp2
                  clear c9
                  go_loopg [7, 8] l.er.length (fun kq v7 v8 w' => ∃ i : Nat, v8 = .int .i64 i ∧ Aside0 (k142.R 142 w' W2.heap.size (fun _ => True) v7 (erS (l.er.take i))) ∧ Aside0 (i + kq = l.er.length) ∧ Aside0 (Below W2.heap.size W2 w'))
                  case atStart => exact ⟨0, rfl, ⟨Kd.R_nil _ _ _ _ _⟩, ⟨by omega⟩, ⟨Below.refl _ _⟩⟩
                  case round =>
                    obtain ⟨i, rfl, HO7, HK, HB⟩ := hrel
                    have HTr := Aside0.mk (HT2.out.bel HB.out)
                    have c9 : wr.cell? ⟨g1, 9, none⟩ = some (.slice Ae l.er.length ce) := (blk_cell HTr.out.h1 9).trans rfl
                    cases gk with
                    | zero =>
                      have e : i = l.er.length := by have := HK.out; omega
                      subst e
                      have d5 : decide ((l.er.length : Int) < (l.er.length : Int)) = false := decide_eq_false (by omega)
                      have HO8 := Aside0.mk (show k142.R 142 wr W2.heap.size (fun _ => True) u7 (erS l.er) by have h := HO7.out; rw [List.take_length] at h; exact h)
                      have xf4 : wr.cell? ⟨g2, 4, none⟩ = some (.int .i64 p.f4) := (blk_cell HTr.out.h2 4).trans rfl
                      have xf6 : wr.cell? ⟨g2, 6, none⟩ = some (.string p.f6) := (blk_cell HTr.out.h2 6).trans rfl
                      clear HO7
                      go_wp2_with (first
                        | ((with_reducible refine gate_builtin (b := .append) (xs := #[.tmp 124, .tmp 130]) rfl ?_); at_builtin; refine Kd.R_append k142 (w0 := W2) W2.heap.size rfl (.tmp 124) (.tmp 130) 79 142 (.agg #[.int .i64 0, .string ⟨#[]⟩]) 24 rfl Try.underlying79 info142p rfl (by decide) (by omega) _ _ (⟨p.f4, p.f6⟩ : S142) [.int .i64 p.f4, .string p.f6] (fun _ => True) (fun _ => False) rfl rfl (k142_mkM _ _ _ (⟨p.f4, p.f6⟩ : S142)) (fun _ hk => hk.elim) (fun _ _ => trivial) HO8.out HB.out HB.out.size (by rw [erS_len]; omega) ?_; intro v5 w5 h1 h2 h3 h4; rw [HES.out] at h1; obtain ⟨A5, c5, rfl, hc5⟩ : ∃ A c, v5 = .slice A er0.length c ∧ er0.length ≤ c := (by obtain ⟨A, c, h, hc, _⟩ := Kd.R_reads h1; exact ⟨A, c, by rw [h, erS_len], by rw [erS_len] at hc; exact hc⟩); have HV5 := Aside0.mk h1; have HB6 := Aside0.mk h2; have HC5 := Aside0.mk hc5; have HT5 := Aside0.mk (HT2.out.bel h2); clear h1 h2 h3 h4 hc5 c9 xf4 xf6; have c8 : w5.cell? ⟨g1, 8, none⟩ = some (.int .i64 l1.want) := (blk_cell HT5.out.h1 8).trans rfl; have c9 : w5.cell? ⟨g1, 9, none⟩ = some (.slice Ae l.er.length ce) := (blk_cell HT5.out.h1 9).trans rfl; have f9 := blk_frozen HT5.out.h1 9)
                        | ((with_reducible refine gate_dst (N := 138) rfl ?_); refine goesL_ (some 138) rfl rfl Try.func80 (by kernel_rfl) rfl #[.slice A5 er0.length c5, .int .i64 l1.want] rfl (by first | (simp only [List.map_toArray, List.map_cons, List.map_nil]; rfl) | rfl) ?_; refine (has_is (by have h := (Kd.R_set HV5.out HT5.out.h1 (k142_types (by decide)) 9 (.slice A5 er0.length c5)); rw [← erS_len] at h; have h2 := (Kd.R_reads' h).2.2; rw [erS_len] at h2; exact h2) HC5.out (by have := HLE.out; omega) l1.want).mono ?_; rintro e w6 ⟨rfl, hb6⟩; have HV6 := Aside0.mk (Kd.R_below (Kd.R_set HV5.out HT5.out.h1 (k142_types (by decide)) 9 (.slice A5 er0.length c5)) hb6); have HT6 := Aside0.mk ((HT5.out.set (l' := { l1 with want := l1.want + ((0 : Nat) : Int), er := er0 }) (vq' := vq1) (ve' := .slice A5 er0.length c5) 9 (.slice A5 er0.length c5) (by rw [show l1.want + ((0 : Nat) : Int) = l1.want by omega]; rfl)).bel hb6); have HS6 := Aside0.mk (Nat.le_trans HB6.out.size (show w5.heap.size ≤ w6.heap.size by have := hb6.size; simpa using this)); clear hb6 c8 c9 f9 HV5 HT5 HB6; refine ⟨_, rfl, ?_⟩))
                      clear HTr
                      go_loopg [6, 9] (er0.length + 1) (fun kq v6 v9 w' => ∃ (d : Nat) (er : List (Int × ByteArray)) (acc : List ByteArray) (A' : Option Addr) (c' : Nat), v9 = .int .i64 (hasA (l1.want + (d : Int)) er 0) ∧ Aside0 (Hd (er0.length + 1) l1.want er0 kq d er acc ∧ er.length ≤ c' ∧ er.length ≤ 1000) ∧ Aside0 (TB w w' g1 g2 g3 { l1 with want := l1.want + (d : Int), er := er } vq1 (.slice A' er.length c') p) ∧ Aside0 (k142.R 142 w' W2.heap.size (fun _ => True) (.slice A' er.length c') (erS er)) ∧ Aside0 (Kd.string.R 9 w' W2.heap.size (fun _ => True) v6 acc) ∧ Aside0 (W2.heap.size ≤ w'.heap.size))
                      case atStart =>
                        refine ⟨0, er0, [], A5, c5, by rw [show l1.want + ((0 : Nat) : Int) = l1.want by omega], ⟨⟨?_, HKE.out, by omega⟩, HC5.out, by have := HLE.out; omega⟩, HT6, HV6, ⟨Kd.R_nil _ _ _ _ _⟩, HS6⟩
                        rw [show l1.want + ((0 : Nat) : Int) = l1.want by omega]
                        simp
                      case round =>
                        obtain ⟨d, er, acc, A7, c7, rfl, HH, HT7, HR7, HA7, HZ7⟩ := hrel
                        have c8 : wr.cell? ⟨g1, 8, none⟩ = some (.int .i64 (l1.want + (d : Int))) := (blk_cell HT7.out.h1 8).trans rfl
                        clear HV6 HT6 HS6
                        cases gk with
                        | zero => exact absurd HH.out.1.2.2 (by omega)
                        | succ k2 =>
                          cases hf : fnd er (l1.want + (d : Int)) with
                          | none =>
                            rw [has_none hf]
                            have HID := Aside0.mk (show Idle (l1.want + (d : Int)) er from .inl hf)
                            clear hf
                            go_wp2
                            go_meet
                            case rel =>
                              obtain ⟨ea, eb⟩ := take_new HL1.out HL2.out HE.out hw1 HN.out (d := d) (er := er) (acc := acc) (by rw [HER1.out, HR0.out]; exact HH.out.1.stop HID.out)
                              refine ⟨.slice A7 er.length c7, ⟨?_⟩, ⟨?_⟩, ⟨?_⟩⟩
                              · rw [← ea]; exact HT7.out
                              · rw [← ea]; exact (RW.of_R HR7.out).mono (fun k hk => .inr hk)
                              · rw [eb]; exact HA7.out
                          | some s =>
                            obtain ⟨j, hj, hjs, hwo⟩ := has_some hf
                            rw [hj]
                            have e0 : decide ((0 : Int) ≤ (j : Int)) = true := decide_eq_true (by omega)
                            by_cases hx : l1.want + (d : Int) < 1099511627775
                            · have e1 : decide (l1.want + (d : Int) < 1099511627775) = true := decide_eq_true hx
                              have b0 : (0 : Int) ≤ l1.want + (d : Int) := by omega
                              have hjl : j < er.length := (List.getElem?_eq_some_iff.1 hjs).1
                              have j0 : (0 : Int) ≤ (j : Int) := by omega
                              have j1 : (j : Int) < (er.length : Int) := by omega
                              obtain ⟨er2, her2⟩ : ∃ er2, del er (l1.want + (d : Int)) = er2 := ⟨_, rfl⟩
                              have HWO := Aside0.mk (show woA (j : Int) er 0 = er2 by rw [hwo HH.out.1.2.1]; exact her2)
                              have HNX := Aside0.mk (show Hd (er0.length + 1) l1.want er0 k2 (d + 1) er2 (acc ++ [s]) by rw [← her2]; exact HH.out.1.next hf hx)
                              have HLN := Aside0.mk (show er2.length ≤ er.length by rw [← her2]; exact Nat.le_of_lt (del_len hf))
                              have HAC := Aside0.mk (show acc.length ≤ 1000 by
                                have h := congrArg (fun x => x.2.2.length + x.2.1.length) HH.out.1.1
                                have hl := hand_all (er0.length + 1) l1.want er0
                                have h2 := congrArg (fun x => x.2.2.length) HH.out.1.1
                                simp only [List.length_append] at h2
                                have := HLE.out
                                omega)
                              obtain ⟨ad, hA, e2, e3⟩ := at_T142 (Kd.R_reads' HR7.out).2.2 (j : Int) j0 (by rw [erS_len]; exact j1)
                              subst hA
                              rw [Int.toNat_natCast, rd142_at hjs] at e2 e3
                              have c9 : wr.cell? ⟨g1, 9, none⟩ = some (.slice (some ad) er.length c7) := (blk_cell HT7.out.h1 9).trans rfl
                              clear hf hj hjs hwo her2 hjl
                              go_wp2_with (first
                                | ((with_reducible refine gate_builtin (b := .append) (xs := #[.tmp 151, .tmp 158]) rfl ?_); at_builtin; refine Kd.R_append Kd.string (w0 := wr) W2.heap.size rfl (.tmp 151) (.tmp 158) 73 9 (.string ⟨#[]⟩) 16 rfl Try.underlying73 info9 rfl (by decide) (by omega) _ _ s [.string s] (fun _ => True) (fun _ => False) rfl rfl rfl (fun _ hk => hk.elim) (fun _ _ => trivial) HA7.out (Below.refl _ _) HZ7.out (by have := HAC.out; omega) ?_; intro v8 w8 h1 h2 h3 h4; have HA8 := Aside0.mk h1; have HR8 := Aside0.mk (R_apart HR7.out HA7.out h3); have HT8 := Aside0.mk (HT7.out.grown h3 (fun k hk => by obtain ⟨inner, hi⟩ := Kd.R_own HA7.out; exact Nat.lt_of_lt_of_le HG4.out (own_base hi k hk))); have HZ8 := Aside0.mk (Nat.le_trans HZ7.out h3.size); clear h1 h2 h3 h4 c8 c9 e2 e3; have c9 : w8.cell? ⟨g1, 9, none⟩ = some (.slice (some ad) er.length c7) := (blk_cell HT8.out.h1 9).trans rfl)
                                | ((with_reducible refine gate_dst (N := 163) rfl ?_); refine goesL_ (some 163) rfl rfl Try.func81 (by kernel_rfl) rfl #[.slice (some ad) er.length c7, .int .i64 (j : Int)] rfl (by first | (simp only [List.map_toArray, List.map_cons, List.map_nil]; rfl) | rfl) ?_; refine (without_is (by have h := (Kd.R_reads' HR8.out).2.2; rw [erS_len] at h; exact h) HH.out.2.1 (by have := HH.out.2.2; omega) (j : Int)).mono ?_; rintro e w9 ⟨v9, rfl, hv, hb9⟩; rw [HWO.out] at hv; obtain ⟨A9, c9', rfl, hc9'⟩ : ∃ A c, v9 = .slice A er2.length c ∧ er2.length ≤ c := (by obtain ⟨A, c, h, hc, _⟩ := Kd.R_reads hv; exact ⟨A, c, by rw [h, erS_len], by rw [erS_len] at hc; exact hc⟩); have HC9 := Aside0.mk hc9'; have HR9 := Aside0.mk (Kd.R_lower hv HZ8.out); have HA9 := Aside0.mk (Kd.R_below HA8.out hb9); have HT9 := Aside0.mk (HT8.out.bel hb9); have HZ9 := Aside0.mk (Nat.le_trans HZ8.out hb9.size); clear hv hb9 hc9' c9; have c9 : w9.cell? ⟨g1, 9, none⟩ = some (.slice (some ad) er.length c7) := (blk_cell HT9.out.h1 9).trans rfl; have f9 := blk_frozen HT9.out.h1 9; have c8 : w9.cell? ⟨g1, 8, none⟩ = some (.int .i64 (l1.want + (d : Int))) := (blk_cell HT9.out.h1 8).trans rfl; have f8 := blk_frozen HT9.out.h1 8; have HTa := Aside0.mk ((HT9.out.set (l' := { l1 with want := l1.want + (d : Int), er := er2 }) (vq' := vq1) (ve' := .slice A9 er2.length c9') 9 (.slice A9 er2.length c9') rfl)); have HTb := Aside0.mk (HTa.out.set (l' := { l1 with want := l1.want + ((d + 1 : Nat) : Int), er := er2 }) (vq' := vq1) (ve' := .slice A9 er2.length c9') 8 (.int .i64 (l1.want + (d : Int) + 1)) (by rw [show l1.want + ((d + 1 : Nat) : Int) = l1.want + (d : Int) + 1 by omega]; rfl)); have HRb := Aside0.mk (Kd.R_set (Kd.R_set HR9.out HT9.out.h1 (k142_types (by decide)) 9 (.slice A9 er2.length c9')) HTa.out.h1 (k142_types (by decide)) 8 (.int .i64 (l1.want + (d : Int) + 1))); have HAb := Aside0.mk (Kd.R_set (Kd.R_set HA9.out HT9.out.h1 (string_types (by decide)) 9 (.slice A9 er2.length c9')) HTa.out.h1 (string_types (by decide)) 8 (.int .i64 (l1.want + (d : Int) + 1))); refine ⟨_, rfl, ?_⟩)
                                | ((with_reducible refine gate_dst (N := 150) rfl ?_); refine goesL_ (some 150) rfl rfl Try.func80 (by kernel_rfl) rfl #[.slice A9 er2.length c9', .int .i64 (l1.want + (d : Int) + 1)] rfl (by first | (simp only [List.map_toArray, List.map_cons, List.map_nil]; rfl) | rfl) ?_; refine (has_is (by have h := (Kd.R_reads' HRb.out).2.2; rw [erS_len] at h; exact h) HC9.out (by have := HH.out.2.2; have := HLN.out; omega) (l1.want + (d : Int) + 1)).mono ?_; rintro e wa ⟨rfl, hba⟩; have HT10 := Aside0.mk (HTb.out.bel hba); have HR10 := Aside0.mk (Kd.R_below HRb.out hba); have HA10 := Aside0.mk (Kd.R_below HAb.out hba); have HZ10 := Aside0.mk (Nat.le_trans HZ9.out (show w9.heap.size ≤ wa.heap.size by have := hba.size; simpa using this)); clear hba c8 c9 f8 f9; refine ⟨_, rfl, ?_⟩))
                              go_roundg k2
                              case measure => omega
                              case rel => exact ⟨d + 1, er2, acc ++ [s], A9, c9', by rw [show l1.want + ((d + 1 : Nat) : Int) = l1.want + (d : Int) + 1 by omega], ⟨HNX.out, HC9.out, by have := HH.out.2.2; have := HLN.out; omega⟩, HT10, HR10, HA10, HZ10⟩
                            · have e1 : decide (l1.want + (d : Int) < 1099511627775) = false := decide_eq_false hx
                              have HID := Aside0.mk (show Idle (l1.want + (d : Int)) er from .inr (by omega))
                              clear hf hj hjs hwo hx
                              go_wp2
                              go_meet
                              case rel =>
                                obtain ⟨ea, eb⟩ := take_new HL1.out HL2.out HE.out hw1 HN.out (d := d) (er := er) (acc := acc) (by rw [HER1.out, HR0.out]; exact HH.out.1.stop HID.out)
                                refine ⟨.slice A7 er.length c7, ⟨?_⟩, ⟨?_⟩, ⟨?_⟩⟩
                                · rw [← ea]; exact HT7.out
                                · rw [← ea]; exact (RW.of_R HR7.out).mono (fun k hk => .inr hk)
                                · rw [eb]; exact HA7.out
                    | succ k1 =>
                      have hi : i < l.er.length := by have := HK.out; omega
                      have d5 : decide ((i : Int) < (l.er.length : Int)) = true := decide_eq_true (by omega)
                      have i0 : (0 : Int) ≤ (i : Int) := by omega
                      have i1 : (i : Int) < (l.er.length : Int) := by omega
                      obtain ⟨ad, hA, e0, e1⟩ := at_T142 (Kd.C_below HEC.out HTr.out.below) (i : Int) i0 i1
                      subst hA
                      rw [Int.toNat_natCast, rd142_at (List.getElem?_eq_getElem hi)] at e0 e1
                      obtain ⟨x, hx⟩ : ∃ x, l.er[i] = x := ⟨_, rfl⟩
                      rw [hx] at e0 e1
                      have HTK := Aside0.mk (show erS (l.er.take (i + 1)) = erS (l.er.take i) ++ [(⟨x.1, x.2⟩ : S142)] by
                        rw [List.take_add_one, List.getElem?_eq_getElem hi, erS_append, ← hx]
                        rfl)
                      clear hx
                      go_wp2_with ((with_reducible refine gate_builtin (b := .append) (xs := #[.tmp 116, .tmp 122]) rfl ?_); at_builtin; refine Kd.R_append k142 (w0 := W2) W2.heap.size rfl (.tmp 116) (.tmp 122) 79 142 (.agg #[.int .i64 0, .string ⟨#[]⟩]) 24 rfl Try.underlying79 info142p rfl (by decide) (by omega) _ _ (⟨x.1, x.2⟩ : S142) [.int .i64 x.1, .string x.2] (fun _ => True) (fun _ => False) rfl rfl (k142_mkM _ _ _ (⟨x.1, x.2⟩ : S142)) (fun _ hk => hk.elim) (fun _ _ => trivial) HO7.out HB.out HB.out.size (by rw [erS_len, List.length_take]; omega) ?_; intro v5 w5 h1 h2 h3 h4; have HV5 := Aside0.mk h1; have HB6 := Aside0.mk h2; clear h1 h2 h3 h4 c9 e0 e1)
                      go_roundg k1
                      case measure => omega
                      case rel => exact ⟨i + 1, by first | rfl | simp, ⟨by rw [HTK.out]; exact HV5.out⟩, ⟨by have := HK.out; omega⟩, HB6⟩
            case rest =>
            obtain ⟨ve2, HT3, HRE, HRT⟩ := hcut
            obtain ⟨Wc, hWc⟩ : ∃ Wc, Wc = wc := ⟨_, rfl⟩
            subst hWc
            rw [tk2_q HL1.out HL2.out] at HQ1
            obtain ⟨Ae2, ce2, rfl, hce2, hF2⟩ := HRE.out
            rw [erS_len] at hce2 hF2 HRE HT3
            have HF2 := Aside0.mk hF2
            obtain ⟨Aq1, cq1, rfl, hcq1, hFq⟩ := HQ1.out
            have HFq := Aside0.mk hFq
            obtain ⟨At, ct, rfl⟩ := Kd.R_slice HRT.out
            obtain ⟨nt, hnt⟩ : ∃ nt, (tkT l p).length = nt := ⟨_, rfl⟩
            rw [hnt] at HRT ⊢
            obtain ⟨no, hno⟩ : ∃ no, ((goP l2).map to58).length = no := ⟨_, rfl⟩
            have HN0 := Aside0.mk hno
            clear hF2 hFq hnt hno HT2 HBN
            by_cases k4 : p.f4 = 0
            · have n5 : (p.f4 != 0) = false := by rw [k4]; simp
              have hos : (goP l2).map to58 = (tkP l p).map to58 := by unfold tkP; rw [if_pos HE.out, HL2.out, if_neg (fun e => e.1 k4)]
              have HOS := Aside0.mk hos
              clear k4 hos
              go_wp2_with (first
                | ((with_reducible refine gate_dst (N := 169) rfl ?_); refine wpList_load_row rfl 81 (.tmp 2) rfl g1 rfl 81 _ (0, 0) _ HT3.out.h1 Try.underlying81 rfl info81s ?_)
                | ((with_reducible refine gate_dst (N := 170) rfl ?_); refine goesL_ (some 170) rfl rfl Try.func78 (by kernel_rfl) rfl #[.agg #[.int .i64 l2.x.f0, .int .i64 l2.x.f1, .int .i64 l2.x.f2, .int .i64 l2.x.f3, .int .i64 l2.x.f4, .slice Aq1 l2.q.length cq1, .int .i64 l2.base, .int .i64 l2.out, .int .i64 l2.want, .slice Ae2 l2.er.length ce2]] rfl (by first | (simp only [List.map_toArray, List.map_cons, List.map_nil]; rfl) | rfl) ?_; refine (goOut13_is HBd2.out (Kd.C_below (Kd.F_now HFq.out) HT3.out.below) hcq1 (Kd.F_now HF2.out) hce2).mono ?_; rintro e w8 ⟨o, rfl, ho, hb8⟩; obtain ⟨Ao, co, rfl⟩ : ∃ A c, o = .slice A no c := (by obtain ⟨A, c, h⟩ := Kd.R_slice ho; exact ⟨A, c, by rw [h, HN0.out]⟩); have HO8 := Aside0.mk ho; have HB8 := Aside0.mk hb8; clear ho hb8; refine ⟨_, rfl, ?_⟩)
                | ((with_reducible refine gate_dst (N := 10) rfl ?_); refine box_event ?hg (N := 10) ?hd (cs := #[.int .i64 0, .int .i64 0, .int .i64 0, .int .i64 0, .int .i64 0, .slice none 0 0, .int .i64 0, .int .i64 0, .int .i64 0, .slice none 0 0, .slice none 0 0, .slice none 0 0, .int .i64 0]) (t := 87) ?hr ?_; (case hd => rfl); (case hg => rfl); (case hr => first | (go_simp; done) | (go_simp; rfl)); intro g5 hg5 w9 kg5 bg5; have Gg5 := Aside0.mk hg5; clear hg5; have H5 := Aside0.mk kg5; have HO9 := Aside0.mk (Kd.R_below HO8.out bg5); have HB9 := Aside0.mk (HB8.out.trans (bg5.mono HB8.out.size)); have HG5 := Aside0.mk (show Wc.heap.size ≤ g5 by rw [Gg5.out]; exact HB8.out.size); clear kg5 bg5 HO8)
                | (((with_reducible refine gate_store (t := 87) (p := 10) rfl ?_); refine wpList_store_row rfl 87 (.tmp 10) (.tmp 170) rfl g5 #[.int .i64 (goL l2).x.f0, .int .i64 (goL l2).x.f1, .int .i64 (goL l2).x.f2, .int .i64 (goL l2).x.f3, .int .i64 (goL l2).x.f4, .slice Aq1 l2.q.length cq1, .int .i64 (goL l2).base, .int .i64 (goL l2).out, .int .i64 (goL l2).want, .slice Ae2 l2.er.length ce2, .slice none 0 0, .slice Ao no co, .int .i64 0] rfl rfl 87 _ H5.out info87s rfl (by rw [List.all_toArray]; rfl) ?_); have h6 := setRow_heap w9 g5 _ #[.int .i64 (goL l2).x.f0, .int .i64 (goL l2).x.f1, .int .i64 (goL l2).x.f2, .int .i64 (goL l2).x.f3, .int .i64 (goL l2).x.f4, .slice Aq1 l2.q.length cq1, .int .i64 (goL l2).base, .int .i64 (goL l2).out, .int .i64 (goL l2).want, .slice Ae2 l2.er.length ce2, .slice none 0 0, .slice Ao no co, .int .i64 0] 87 (0, 0) H5.out; have ho6 := R_setRow HO9.out H5.out (k58_types (by decide)) #[.int .i64 (goL l2).x.f0, .int .i64 (goL l2).x.f1, .int .i64 (goL l2).x.f2, .int .i64 (goL l2).x.f3, .int .i64 (goL l2).x.f4, .slice Aq1 l2.q.length cq1, .int .i64 (goL l2).base, .int .i64 (goL l2).out, .int .i64 (goL l2).want, .slice Ae2 l2.er.length ce2, .slice none 0 0, .slice Ao no co, .int .i64 0]; have hb6 := below_setRow HB9.out HG5.out #[.int .i64 (goL l2).x.f0, .int .i64 (goL l2).x.f1, .int .i64 (goL l2).x.f2, .int .i64 (goL l2).x.f3, .int .i64 (goL l2).x.f4, .slice Aq1 l2.q.length cq1, .int .i64 (goL l2).base, .int .i64 (goL l2).out, .int .i64 (goL l2).want, .slice Ae2 l2.er.length ce2, .slice none 0 0, .slice Ao no co, .int .i64 0]; generalize w9.setRow g5 #[.int .i64 (goL l2).x.f0, .int .i64 (goL l2).x.f1, .int .i64 (goL l2).x.f2, .int .i64 (goL l2).x.f3, .int .i64 (goL l2).x.f4, .slice Aq1 l2.q.length cq1, .int .i64 (goL l2).base, .int .i64 (goL l2).out, .int .i64 (goL l2).want, .slice Ae2 l2.er.length ce2, .slice none 0 0, .slice Ao no co, .int .i64 0] = w10 at h6 ho6 hb6 ⊢; have H6 := Aside0.mk h6; have HO6 := Aside0.mk ho6; have HB6 := Aside0.mk hb6; clear h6 ho6 hb6 HO9 HB9 H5; have c10 : w10.cell? ⟨g5, 10, none⟩ = some (.slice none 0 0) := (blk_cell H6.out 10).trans rfl; have f10 := blk_frozen H6.out 10; have c11 : w10.cell? ⟨g5, 11, none⟩ = some (.slice Ao no co) := (blk_cell H6.out 11).trans rfl; have xf4 : w10.cell? ⟨g2, 4, none⟩ = some (.int .i64 p.f4) := (blk_cell (keepB HT3.out.h2 HB6.out) 4).trans rfl; have hne2 : g2 ≠ g5 := (by have := blk_lt HT3.out.h2; have := HG5.out; omega); have hne3 : g5 ≠ g2 := Ne.symm hne2; have H7 := Aside0.mk (show (w10.setCell ⟨g5, 10, none⟩ (.slice At nt ct)).heap[g5]? = some (.cells #[.int .i64 (goL l2).x.f0, .int .i64 (goL l2).x.f1, .int .i64 (goL l2).x.f2, .int .i64 (goL l2).x.f3, .int .i64 (goL l2).x.f4, .slice Aq1 l2.q.length cq1, .int .i64 (goL l2).base, .int .i64 (goL l2).out, .int .i64 (goL l2).want, .slice Ae2 l2.er.length ce2, .slice At nt ct, .slice Ao no co, .int .i64 0] 87 (0, 0)) from blk_set H6.out 10 _); have H37 := Aside0.mk (blk_far (keepB HT3.out.h3 HB6.out) (p := ⟨g5, 10, none⟩) (show g3 ≠ g5 by have := blk_lt HT3.out.h3; have := HG5.out; omega) (.slice At nt ct)); have HO7 := Aside0.mk (Kd.R_set HO6.out H6.out (k58_types (by decide)) 10 (.slice At nt ct)); have HB7 := Aside0.mk (below_cell HB6.out (show Wc.heap.size ≤ g5 from HG5.out) (p := ⟨g5, 10, none⟩) (.slice At nt ct)))
                | ((with_reducible refine gate_dst (N := 189) rfl ?_); refine wpList_load_row rfl 87 (.tmp 10) rfl g5 rfl 87 _ (0, 0) _ H7.out Try.underlying87 rfl info87s ?_)
                | ((with_reducible refine gate_store (t := 87) (p := 4) rfl ?_); refine wpList_store_row rfl 87 (.tmp 4) (.tmp 189) rfl g3 #[.int .i64 (goL l2).x.f0, .int .i64 (goL l2).x.f1, .int .i64 (goL l2).x.f2, .int .i64 (goL l2).x.f3, .int .i64 (goL l2).x.f4, .slice Aq1 l2.q.length cq1, .int .i64 (goL l2).base, .int .i64 (goL l2).out, .int .i64 (goL l2).want, .slice Ae2 l2.er.length ce2, .slice At nt ct, .slice Ao no co, .int .i64 0] rfl rfl 87 _ H37.out info87s rfl (by rw [List.all_toArray]; rfl) ?_))
              refine bodyPost_ret (results_cell_row rfl _ _ g3 87 #[.int .i64 (goL l2).x.f0, .int .i64 (goL l2).x.f1, .int .i64 (goL l2).x.f2, .int .i64 (goL l2).x.f3, .int .i64 (goL l2).x.f4, .slice Aq1 l2.q.length cq1, .int .i64 (goL l2).base, .int .i64 (goL l2).out, .int .i64 (goL l2).want, .slice Ae2 l2.er.length ce2, .slice At nt ct, .slice Ao no co, .int .i64 0] (0, 0) _ rfl (setRow_heap _ _ _ _ _ _ H37.out) hu87 rfl info87s) rfl ?_
              exact take13_end HE.out HL2.out HT3.out HQ1.out HRE.out HRT.out HG4.out HB7.out (Kd.R_lower HO7.out HT3.out.below.size) HOS.out _
            · have n5 : (p.f4 != 0) = true := bne_iff_ne.mpr k4
              have K4 := Aside0.mk k4
              clear k4
              by_cases ko : goP l2 = []
              · have KO := Aside0.mk ko
                have hn0 : no = 0 := by rw [← HN0.out, ko]; rfl
                clear ko
                subst hn0
                go_wp2_with (first
                  | ((with_reducible refine gate_dst (N := 169) rfl ?_); refine wpList_load_row rfl 81 (.tmp 2) rfl g1 rfl 81 _ (0, 0) _ HT3.out.h1 Try.underlying81 rfl info81s ?_)
                  | ((with_reducible refine gate_dst (N := 170) rfl ?_); refine goesL_ (some 170) rfl rfl Try.func78 (by kernel_rfl) rfl #[.agg #[.int .i64 l2.x.f0, .int .i64 l2.x.f1, .int .i64 l2.x.f2, .int .i64 l2.x.f3, .int .i64 l2.x.f4, .slice Aq1 l2.q.length cq1, .int .i64 l2.base, .int .i64 l2.out, .int .i64 l2.want, .slice Ae2 l2.er.length ce2]] rfl (by first | (simp only [List.map_toArray, List.map_cons, List.map_nil]; rfl) | rfl) ?_; refine (goOut13_is HBd2.out (Kd.C_below (Kd.F_now HFq.out) HT3.out.below) hcq1 (Kd.F_now HF2.out) hce2).mono ?_; rintro e w8 ⟨o, rfl, ho, hb8⟩; obtain ⟨Ao, co, rfl⟩ : ∃ A c, o = .slice A 0 c := (by obtain ⟨A, c, h⟩ := Kd.R_slice ho; exact ⟨A, c, by rw [h, HN0.out]⟩); have HO8 := Aside0.mk ho; have HB8 := Aside0.mk hb8; clear ho hb8; refine ⟨_, rfl, ?_⟩)
                  | ((with_reducible refine gate_dst (N := 10) rfl ?_); refine box_event ?hg (N := 10) ?hd (cs := #[.int .i64 0, .int .i64 0, .int .i64 0, .int .i64 0, .int .i64 0, .slice none 0 0, .int .i64 0, .int .i64 0, .int .i64 0, .slice none 0 0, .slice none 0 0, .slice none 0 0, .int .i64 0]) (t := 87) ?hr ?_; (case hd => rfl); (case hg => rfl); (case hr => first | (go_simp; done) | (go_simp; rfl)); intro g5 hg5 w9 kg5 bg5; have Gg5 := Aside0.mk hg5; clear hg5; have H5 := Aside0.mk kg5; have HO9 := Aside0.mk (Kd.R_below HO8.out bg5); have HB9 := Aside0.mk (HB8.out.trans (bg5.mono HB8.out.size)); have HG5 := Aside0.mk (show Wc.heap.size ≤ g5 by rw [Gg5.out]; exact HB8.out.size); clear kg5 bg5 HO8)
                  | (((with_reducible refine gate_store (t := 87) (p := 10) rfl ?_); refine wpList_store_row rfl 87 (.tmp 10) (.tmp 170) rfl g5 #[.int .i64 (goL l2).x.f0, .int .i64 (goL l2).x.f1, .int .i64 (goL l2).x.f2, .int .i64 (goL l2).x.f3, .int .i64 (goL l2).x.f4, .slice Aq1 l2.q.length cq1, .int .i64 (goL l2).base, .int .i64 (goL l2).out, .int .i64 (goL l2).want, .slice Ae2 l2.er.length ce2, .slice none 0 0, .slice Ao 0 co, .int .i64 0] rfl rfl 87 _ H5.out info87s rfl (by rw [List.all_toArray]; rfl) ?_); have h6 := setRow_heap w9 g5 _ #[.int .i64 (goL l2).x.f0, .int .i64 (goL l2).x.f1, .int .i64 (goL l2).x.f2, .int .i64 (goL l2).x.f3, .int .i64 (goL l2).x.f4, .slice Aq1 l2.q.length cq1, .int .i64 (goL l2).base, .int .i64 (goL l2).out, .int .i64 (goL l2).want, .slice Ae2 l2.er.length ce2, .slice none 0 0, .slice Ao 0 co, .int .i64 0] 87 (0, 0) H5.out; have ho6 := R_setRow HO9.out H5.out (k58_types (by decide)) #[.int .i64 (goL l2).x.f0, .int .i64 (goL l2).x.f1, .int .i64 (goL l2).x.f2, .int .i64 (goL l2).x.f3, .int .i64 (goL l2).x.f4, .slice Aq1 l2.q.length cq1, .int .i64 (goL l2).base, .int .i64 (goL l2).out, .int .i64 (goL l2).want, .slice Ae2 l2.er.length ce2, .slice none 0 0, .slice Ao 0 co, .int .i64 0]; have hb6 := below_setRow HB9.out HG5.out #[.int .i64 (goL l2).x.f0, .int .i64 (goL l2).x.f1, .int .i64 (goL l2).x.f2, .int .i64 (goL l2).x.f3, .int .i64 (goL l2).x.f4, .slice Aq1 l2.q.length cq1, .int .i64 (goL l2).base, .int .i64 (goL l2).out, .int .i64 (goL l2).want, .slice Ae2 l2.er.length ce2, .slice none 0 0, .slice Ao 0 co, .int .i64 0]; generalize w9.setRow g5 #[.int .i64 (goL l2).x.f0, .int .i64 (goL l2).x.f1, .int .i64 (goL l2).x.f2, .int .i64 (goL l2).x.f3, .int .i64 (goL l2).x.f4, .slice Aq1 l2.q.length cq1, .int .i64 (goL l2).base, .int .i64 (goL l2).out, .int .i64 (goL l2).want, .slice Ae2 l2.er.length ce2, .slice none 0 0, .slice Ao 0 co, .int .i64 0] = w10 at h6 ho6 hb6 ⊢; have H6 := Aside0.mk h6; have HO6 := Aside0.mk ho6; have HB6 := Aside0.mk hb6; clear h6 ho6 hb6 HO9 HB9 H5; have c10 : w10.cell? ⟨g5, 10, none⟩ = some (.slice none 0 0) := (blk_cell H6.out 10).trans rfl; have f10 := blk_frozen H6.out 10; have c11 : w10.cell? ⟨g5, 11, none⟩ = some (.slice Ao 0 co) := (blk_cell H6.out 11).trans rfl; have xf4 : w10.cell? ⟨g2, 4, none⟩ = some (.int .i64 p.f4) := (blk_cell (keepB HT3.out.h2 HB6.out) 4).trans rfl; have hne2 : g2 ≠ g5 := (by have := blk_lt HT3.out.h2; have := HG5.out; omega); have hne3 : g5 ≠ g2 := Ne.symm hne2; have H7 := Aside0.mk (show (w10.setCell ⟨g5, 10, none⟩ (.slice At nt ct)).heap[g5]? = some (.cells #[.int .i64 (goL l2).x.f0, .int .i64 (goL l2).x.f1, .int .i64 (goL l2).x.f2, .int .i64 (goL l2).x.f3, .int .i64 (goL l2).x.f4, .slice Aq1 l2.q.length cq1, .int .i64 (goL l2).base, .int .i64 (goL l2).out, .int .i64 (goL l2).want, .slice Ae2 l2.er.length ce2, .slice At nt ct, .slice Ao 0 co, .int .i64 0] 87 (0, 0)) from blk_set H6.out 10 _); have H37 := Aside0.mk (blk_far (keepB HT3.out.h3 HB6.out) (p := ⟨g5, 10, none⟩) (show g3 ≠ g5 by have := blk_lt HT3.out.h3; have := HG5.out; omega) (.slice At nt ct)); have HO7 := Aside0.mk (Kd.R_set HO6.out H6.out (k58_types (by decide)) 10 (.slice At nt ct)); have HB7 := Aside0.mk (below_cell HB6.out (show Wc.heap.size ≤ g5 from HG5.out) (p := ⟨g5, 10, none⟩) (.slice At nt ct))))
                have HPd := Aside0.mk (show Below Wc.heap.size Wc (w10.setCell ⟨g5, 10, none⟩ (.slice At nt ct)).drew from below_drew1 HB7.out)
                have H7d := Aside0.mk (blk_drew H7.out)
                have HOd := Aside0.mk (Kd.R_drew HO7.out)
                clear c10 f10 c11 xf4 HO6 HB6 H6
                refine start_ (n := 8) (S := fun w' => w'.heap[g5]? = some (.cells #[.int .i64 (goL l2).x.f0, .int .i64 (goL l2).x.f1, .int .i64 (goL l2).x.f2, .int .i64 (goL l2).x.f3, .int .i64 (goL l2).x.f4, .slice Aq1 l2.q.length cq1, .int .i64 (goL l2).base, .int .i64 (goL l2).out, .int .i64 (goL l2).want, .slice Ae2 l2.er.length ce2, .slice At nt ct, .slice Ao 0 co, .int .i64 0] 87 (0, 0)) ∧ w'.heap[g1]? = some (.cells #[.int .i64 l2.x.f0, .int .i64 l2.x.f1, .int .i64 l2.x.f2, .int .i64 l2.x.f3, .int .i64 l2.x.f4, .slice Aq1 l2.q.length cq1, .int .i64 l2.base, .int .i64 l2.out, .int .i64 l2.want, .slice Ae2 l2.er.length ce2] 81 (0, 0))) (ds := [7]) #[false, false, false, false, false, false, false, false] (by kernel_rfl) rfl rfl ⟨H7d.out, keepB HT3.out.h1 HPd.out⟩ (fun hHeld => ?_)
                refine pure_ (i := 0) (N := some 182) (v := ?_) (a' := ?_) #[true, false, false, false, false, false, false, false] rfl rfl (by kernel_rfl) (fun _ _ _ h => h) (Or.inl ⟨by rfl, ?_⟩) ?_ ?_
                rotate_left
                · intro w'; go_simp; with_reducible rfl
                rotate_left
                · simp only [Act.put, List.setIfInBounds_toArray, List.set_cons_zero, List.set_cons_succ, i64_w, i32_w]; rfl
                refine take_ (i := 1) (N := some 183) (v := ?_) (a' := ?_) #[true, true, false, false, false, false, false, false] rfl rfl (by kernel_rfl) (fun _ _ _ h => h) (Or.inl ⟨by rfl, ?_⟩) hHeld ?_ ?_
                rotate_left
                · rintro w' ⟨s0, s1⟩
                  have y0 := (blk_cell s0 11).trans (show _ = some (.slice Ao 0 co) from rfl)
                  go_simp; with_reducible rfl
                rotate_left
                · simp only [Act.put, List.setIfInBounds_toArray, List.set_cons_zero, List.set_cons_succ, i64_w, i32_w]; rfl
                refine take_ (i := 2) (N := some 184) (v := ?_) (a' := ?_) #[true, true, true, false, false, false, false, false] rfl rfl (by kernel_rfl) (fun _ _ _ h => h) (Or.inl ⟨by rfl, ?_⟩) hHeld ?_ ?_
                rotate_left
                · rintro w' ⟨s0, s1⟩
                  have y0 := (blk_cell s1 0).trans (show _ = some (.int .i64 l2.x.f0) from rfl)
                  have y1 := (blk_cell s1 1).trans (show _ = some (.int .i64 l2.x.f1) from rfl)
                  have y2 := (blk_cell s1 2).trans (show _ = some (.int .i64 l2.x.f2) from rfl)
                  have y3 := (blk_cell s1 3).trans (show _ = some (.int .i64 l2.x.f3) from rfl)
                  have y4 := (blk_cell s1 4).trans (show _ = some (.int .i64 l2.x.f4) from rfl)
                  have y5 := (blk_cell s1 5).trans (show _ = some (.slice Aq1 l2.q.length cq1) from rfl)
                  have y6 := (blk_cell s1 6).trans (show _ = some (.int .i64 l2.base) from rfl)
                  have y7 := (blk_cell s1 7).trans (show _ = some (.int .i64 l2.out) from rfl)
                  have y8 := (blk_cell s1 8).trans (show _ = some (.int .i64 l2.want) from rfl)
                  have y9 := (blk_cell s1 9).trans (show _ = some (.slice Ae2 l2.er.length ce2) from rfl)
                  go_simp; with_reducible rfl
                rotate_left
                · simp only [Act.put, List.setIfInBounds_toArray, List.set_cons_zero, List.set_cons_succ, i64_w, i32_w]; rfl
                generalize hwd : (w10.setCell ⟨g5, 10, none⟩ (.slice At nt ct)).drew = wd at *
                clear hwd
                refine one_ (i := 3) (N := some 185) #[true, true, true, true, false, false, false, false] rfl rfl (by kernel_rfl) (by decide) (fun K hK => ?_)
                refine goes_ Try.func82 (by kernel_rfl) rfl #[.agg #[.int .i64 l2.x.f0, .int .i64 l2.x.f1, .int .i64 l2.x.f2, .int .i64 l2.x.f3, .int .i64 l2.x.f4, .slice Aq1 l2.q.length cq1, .int .i64 l2.base, .int .i64 l2.out, .int .i64 l2.want, .slice Ae2 l2.er.length ce2], .int .i64 0, .string ⟨#[]⟩] (by rfl) rfl rfl (by first | rfl | (simp only [List.map_toArray, List.map_cons, List.map_nil]; rfl)) ?_
                refine (packet13_is HBd2.out (Kd.C_below (Kd.C_below (Kd.F_now HFq.out) HT3.out.below) HPd.out) hcq1 (Kd.C_below (Kd.F_now HF2.out) HPd.out) hce2 0 ⟨#[]⟩).mono ?_
                rintro e W12 ⟨rfl, hb12⟩; have HPe := Aside0.mk (HPd.out.trans (hb12.mono HPd.out.size)); have H7e := Aside0.mk (keepB H7d.out hb12); have HOe := Aside0.mk (Kd.R_below HOd.out hb12); clear hb12
                refine ⟨_, rfl, hK.out _ _ ⟨H7e.out, keepB HT3.out.h1 HPe.out⟩ (fun hHeld => ?_)⟩
                clear hK K
                refine norm_ (a' := ?_) ?_ ?_
                rotate_left
                · show Act.put _ (some 185) _ = _
                  simp only [Act.put, List.setIfInBounds_toArray, List.set_cons_zero, List.set_cons_succ, i64_w, i32_w]
                  rfl
                obtain ⟨pp, hpp⟩ : ∃ pp, pkt l2 0 ⟨#[]⟩ = pp := ⟨_, rfl⟩
                have HPP := Aside0.mk hpp
                rw [hpp]
                clear hpp
                refine one_ (i := 4) (N := some 186) #[true, true, true, true, true, false, false, false] rfl rfl (by kernel_rfl) (by decide) (fun K hK => ?_)
                refine event_step (v := .slice (some ⟨W12.heap.size, 0, none⟩) 1 1) (w1 := W12.alloc (.cells (pk pp).toArray 58 (0, 0))) (by rfl) (by go_simp; rfl) ?_
                refine hK.out _ _ ⟨blk_alloc H7e.out _, keepB HT3.out.h1 (below_alloc HPe.out _)⟩ (fun hHeld => ?_)
                clear hK K
                refine norm_ (a' := ?_) ?_ ?_
                rotate_left
                · show Act.put _ (some 186) _ = _
                  simp only [Act.put, List.setIfInBounds_toArray, List.set_cons_zero, List.set_cons_succ, i64_w, i32_w]
                  rfl
                refine one_ (i := 5) (N := some 187) #[true, true, true, true, true, true, false, false] rfl rfl (by kernel_rfl) (by decide) (fun K hK => ?_)
                refine Kd.R_append_step k58 (w0 := W12) Wc.heap.size (by rfl) (.tmp 183) (.tmp 186) 37 58 (.agg #[.int .i64 0, .int .i64 0, .int .i64 0, .int .i64 0, .int .i64 0, .int .i64 0, .string ⟨#[]⟩]) 64 rfl Try.underlying37 info58p rfl (by decide) (by omega) (.slice Ao 0 co) ((goP l2).map to58) (to58 pp) (pk pp) (fun _ => True) (fun _ => False) rfl rfl (to58_M _ _ _ pp) (fun _ hk => hk.elim) (fun _ _ => trivial) HOe.out (Below.refl _ _) HPe.out.size (by rw [HN0.out]; omega) ?_
                intro v13 W13 ho13 hb13 hg13 hat13
                obtain ⟨A13, n13, c13, rfl⟩ : ∃ A n c, v13 = .slice A n c := by obtain ⟨A, c, h⟩ := Kd.R_slice ho13; exact ⟨A, _, c, h⟩
                have hown : ∀ k, (Value.slice Ao 0 co).ownBlock = some k → Wc.heap.size ≤ k ∧ k ≠ g5 := fun k hk => by
                  obtain ⟨inner, hi⟩ := Kd.R_own HOe.out
                  refine ⟨own_base hi k hk, fun eg => ?_⟩
                  obtain ⟨_, _, _, q', hq', cells', hc'⟩ := (Kd.R_bound HOe.out).1 k hk
                  rw [eg, H7e.out] at hc'
                  injection hc' with hc'
                  injection hc' with _ hc2 _
                  exact k58_types (t := 87) (by decide) q' hq' hc2.symm
                have HB13 := Aside0.mk (show Below Wc.heap.size Wc W13 from ((Mods.of_below HPe.out (F := fun _ => False)).grown hg13 (fun k hk => .inr (hown k hk).1)).below (Nat.le_refl _) (fun k hk => hk.elim))
                have H13 := Aside0.mk ((hg13.block g5 (blk_lt H7e.out) (fun e => (hown g5 e.symm).2 rfl)).trans H7e.out)
                have HO13 := Aside0.mk ho13
                clear ho13 hb13 hg13 hat13 hown
                refine hK.out _ _ ⟨H13.out, keepB HT3.out.h1 HB13.out⟩ (fun hHeld => ?_)
                clear hK K
                refine norm_ (a' := ?_) ?_ ?_
                rotate_left
                · show Act.put _ (some 187) _ = _
                  simp only [Act.put, List.setIfInBounds_toArray, List.set_cons_zero, List.set_cons_succ, i64_w, i32_w]
                  rfl
                refine pure_ (i := 6) (N := some 188) (v := ?_) (a' := ?_) #[true, true, true, true, true, true, true, false] rfl rfl (by kernel_rfl) (fun _ _ _ h => h) (Or.inl ⟨by rfl, ?_⟩) ?_ ?_
                rotate_left
                · intro w'; go_simp; with_reducible rfl
                rotate_left
                · simp only [Act.put, List.setIfInBounds_toArray, List.set_cons_zero, List.set_cons_succ, i64_w, i32_w]; rfl
                refine last_ (i := 7) (N := none) #[true, true, true, true, true, true, true, true] rfl rfl (by kernel_rfl) (by decide) (fun K hK => ?_)
                have hf : W13.frozen? ⟨g5, 11, none⟩ = false := blk_frozen H13.out 11
                have hx : W13.cell? ⟨g5, 11, none⟩ = some (.slice Ao 0 co) := (blk_cell H13.out 11).trans rfl
                refine skip_ (w1 := ?_) (by rfl) rfl ?_ ?_
                rotate_left
                · go_simp
                  rfl
                refine hK.out _ _ ?_
                clear hK K hf hx
                refine done_ (by kernel_rfl) ?_
                have H14 := Aside0.mk (show (W13.setCell ⟨g5, 11, none⟩ (.slice A13 n13 c13)).heap[g5]? = some (.cells #[.int .i64 (goL l2).x.f0, .int .i64 (goL l2).x.f1, .int .i64 (goL l2).x.f2, .int .i64 (goL l2).x.f3, .int .i64 (goL l2).x.f4, .slice Aq1 l2.q.length cq1, .int .i64 (goL l2).base, .int .i64 (goL l2).out, .int .i64 (goL l2).want, .slice Ae2 l2.er.length ce2, .slice At nt ct, .slice A13 n13 c13, .int .i64 0] 87 (0, 0)) from blk_set H13.out 11 _)
                have HB14 := Aside0.mk (below_cell HB13.out (show Wc.heap.size ≤ g5 from HG5.out) (p := ⟨g5, 11, none⟩) (.slice A13 n13 c13))
                have HO14 := Aside0.mk (Kd.R_set HO13.out H13.out (k58_types (by decide)) 11 (.slice A13 n13 c13))
                have H34 := Aside0.mk (keepB HT3.out.h3 HB14.out)
                go_wp2_with (first
                  | ((with_reducible refine gate_dst (N := 189) rfl ?_); refine wpList_load_row rfl 87 (.tmp 10) rfl g5 rfl 87 _ (0, 0) _ H14.out Try.underlying87 rfl info87s ?_)
                  | ((with_reducible refine gate_store (t := 87) (p := 4) rfl ?_); refine wpList_store_row rfl 87 (.tmp 4) (.tmp 189) rfl g3 #[.int .i64 (goL l2).x.f0, .int .i64 (goL l2).x.f1, .int .i64 (goL l2).x.f2, .int .i64 (goL l2).x.f3, .int .i64 (goL l2).x.f4, .slice Aq1 l2.q.length cq1, .int .i64 (goL l2).base, .int .i64 (goL l2).out, .int .i64 (goL l2).want, .slice Ae2 l2.er.length ce2, .slice At nt ct, .slice A13 n13 c13, .int .i64 0] rfl rfl 87 _ H34.out info87s rfl (by rw [List.all_toArray]; rfl) ?_))
                refine bodyPost_ret (results_cell_row rfl _ _ g3 87 #[.int .i64 (goL l2).x.f0, .int .i64 (goL l2).x.f1, .int .i64 (goL l2).x.f2, .int .i64 (goL l2).x.f3, .int .i64 (goL l2).x.f4, .slice Aq1 l2.q.length cq1, .int .i64 (goL l2).base, .int .i64 (goL l2).out, .int .i64 (goL l2).want, .slice Ae2 l2.er.length ce2, .slice At nt ct, .slice A13 n13 c13, .int .i64 0] (0, 0) _ rfl (setRow_heap _ _ _ _ _ _ H34.out) hu87 rfl info87s) rfl ?_
                exact take13_end HE.out HL2.out HT3.out HQ1.out HRE.out HRT.out HG4.out HB14.out (Kd.R_lower HO14.out HT3.out.below.size) (by
                  have e1 : (tkP l p) = [pp] := by
                    unfold tkP
                    rw [if_pos HE.out, HL2.out, if_pos ⟨K4.out, KO.out⟩, ← HPP.out]
                    rfl
                  rw [e1, KO.out]
                  rfl) _
              · have hn0 : no ≠ 0 := fun e => ko (List.eq_nil_of_length_eq_zero (by have h := HN0.out; rw [List.length_map] at h; omega))
                have hos : (goP l2).map to58 = (tkP l p).map to58 := by unfold tkP; rw [if_pos HE.out, HL2.out, if_neg (fun e => ko e.2)]
                have HOS := Aside0.mk hos
                have d6 : ((no : Int) == 0) = false := beq_eq_false_iff_ne.mpr (by omega)
                have d7 : (no == 0) = false := beq_eq_false_iff_ne.mpr hn0
                have d8 : decide (no = 0) = false := decide_eq_false hn0
                clear ko hos
                go_wp2_with (first
                  | ((with_reducible refine gate_dst (N := 169) rfl ?_); refine wpList_load_row rfl 81 (.tmp 2) rfl g1 rfl 81 _ (0, 0) _ HT3.out.h1 Try.underlying81 rfl info81s ?_)
                  | ((with_reducible refine gate_dst (N := 170) rfl ?_); refine goesL_ (some 170) rfl rfl Try.func78 (by kernel_rfl) rfl #[.agg #[.int .i64 l2.x.f0, .int .i64 l2.x.f1, .int .i64 l2.x.f2, .int .i64 l2.x.f3, .int .i64 l2.x.f4, .slice Aq1 l2.q.length cq1, .int .i64 l2.base, .int .i64 l2.out, .int .i64 l2.want, .slice Ae2 l2.er.length ce2]] rfl (by first | (simp only [List.map_toArray, List.map_cons, List.map_nil]; rfl) | rfl) ?_; refine (goOut13_is HBd2.out (Kd.C_below (Kd.F_now HFq.out) HT3.out.below) hcq1 (Kd.F_now HF2.out) hce2).mono ?_; rintro e w8 ⟨o, rfl, ho, hb8⟩; obtain ⟨Ao, co, rfl⟩ : ∃ A c, o = .slice A no c := (by obtain ⟨A, c, h⟩ := Kd.R_slice ho; exact ⟨A, c, by rw [h, HN0.out]⟩); have HO8 := Aside0.mk ho; have HB8 := Aside0.mk hb8; clear ho hb8; refine ⟨_, rfl, ?_⟩)
                  | ((with_reducible refine gate_dst (N := 10) rfl ?_); refine box_event ?hg (N := 10) ?hd (cs := #[.int .i64 0, .int .i64 0, .int .i64 0, .int .i64 0, .int .i64 0, .slice none 0 0, .int .i64 0, .int .i64 0, .int .i64 0, .slice none 0 0, .slice none 0 0, .slice none 0 0, .int .i64 0]) (t := 87) ?hr ?_; (case hd => rfl); (case hg => rfl); (case hr => first | (go_simp; done) | (go_simp; rfl)); intro g5 hg5 w9 kg5 bg5; have Gg5 := Aside0.mk hg5; clear hg5; have H5 := Aside0.mk kg5; have HO9 := Aside0.mk (Kd.R_below HO8.out bg5); have HB9 := Aside0.mk (HB8.out.trans (bg5.mono HB8.out.size)); have HG5 := Aside0.mk (show Wc.heap.size ≤ g5 by rw [Gg5.out]; exact HB8.out.size); clear kg5 bg5 HO8)
                  | (((with_reducible refine gate_store (t := 87) (p := 10) rfl ?_); refine wpList_store_row rfl 87 (.tmp 10) (.tmp 170) rfl g5 #[.int .i64 (goL l2).x.f0, .int .i64 (goL l2).x.f1, .int .i64 (goL l2).x.f2, .int .i64 (goL l2).x.f3, .int .i64 (goL l2).x.f4, .slice Aq1 l2.q.length cq1, .int .i64 (goL l2).base, .int .i64 (goL l2).out, .int .i64 (goL l2).want, .slice Ae2 l2.er.length ce2, .slice none 0 0, .slice Ao no co, .int .i64 0] rfl rfl 87 _ H5.out info87s rfl (by rw [List.all_toArray]; rfl) ?_); have h6 := setRow_heap w9 g5 _ #[.int .i64 (goL l2).x.f0, .int .i64 (goL l2).x.f1, .int .i64 (goL l2).x.f2, .int .i64 (goL l2).x.f3, .int .i64 (goL l2).x.f4, .slice Aq1 l2.q.length cq1, .int .i64 (goL l2).base, .int .i64 (goL l2).out, .int .i64 (goL l2).want, .slice Ae2 l2.er.length ce2, .slice none 0 0, .slice Ao no co, .int .i64 0] 87 (0, 0) H5.out; have ho6 := R_setRow HO9.out H5.out (k58_types (by decide)) #[.int .i64 (goL l2).x.f0, .int .i64 (goL l2).x.f1, .int .i64 (goL l2).x.f2, .int .i64 (goL l2).x.f3, .int .i64 (goL l2).x.f4, .slice Aq1 l2.q.length cq1, .int .i64 (goL l2).base, .int .i64 (goL l2).out, .int .i64 (goL l2).want, .slice Ae2 l2.er.length ce2, .slice none 0 0, .slice Ao no co, .int .i64 0]; have hb6 := below_setRow HB9.out HG5.out #[.int .i64 (goL l2).x.f0, .int .i64 (goL l2).x.f1, .int .i64 (goL l2).x.f2, .int .i64 (goL l2).x.f3, .int .i64 (goL l2).x.f4, .slice Aq1 l2.q.length cq1, .int .i64 (goL l2).base, .int .i64 (goL l2).out, .int .i64 (goL l2).want, .slice Ae2 l2.er.length ce2, .slice none 0 0, .slice Ao no co, .int .i64 0]; generalize w9.setRow g5 #[.int .i64 (goL l2).x.f0, .int .i64 (goL l2).x.f1, .int .i64 (goL l2).x.f2, .int .i64 (goL l2).x.f3, .int .i64 (goL l2).x.f4, .slice Aq1 l2.q.length cq1, .int .i64 (goL l2).base, .int .i64 (goL l2).out, .int .i64 (goL l2).want, .slice Ae2 l2.er.length ce2, .slice none 0 0, .slice Ao no co, .int .i64 0] = w10 at h6 ho6 hb6 ⊢; have H6 := Aside0.mk h6; have HO6 := Aside0.mk ho6; have HB6 := Aside0.mk hb6; clear h6 ho6 hb6 HO9 HB9 H5; have c10 : w10.cell? ⟨g5, 10, none⟩ = some (.slice none 0 0) := (blk_cell H6.out 10).trans rfl; have f10 := blk_frozen H6.out 10; have c11 : w10.cell? ⟨g5, 11, none⟩ = some (.slice Ao no co) := (blk_cell H6.out 11).trans rfl; have xf4 : w10.cell? ⟨g2, 4, none⟩ = some (.int .i64 p.f4) := (blk_cell (keepB HT3.out.h2 HB6.out) 4).trans rfl; have hne2 : g2 ≠ g5 := (by have := blk_lt HT3.out.h2; have := HG5.out; omega); have hne3 : g5 ≠ g2 := Ne.symm hne2; have H7 := Aside0.mk (show (w10.setCell ⟨g5, 10, none⟩ (.slice At nt ct)).heap[g5]? = some (.cells #[.int .i64 (goL l2).x.f0, .int .i64 (goL l2).x.f1, .int .i64 (goL l2).x.f2, .int .i64 (goL l2).x.f3, .int .i64 (goL l2).x.f4, .slice Aq1 l2.q.length cq1, .int .i64 (goL l2).base, .int .i64 (goL l2).out, .int .i64 (goL l2).want, .slice Ae2 l2.er.length ce2, .slice At nt ct, .slice Ao no co, .int .i64 0] 87 (0, 0)) from blk_set H6.out 10 _); have H37 := Aside0.mk (blk_far (keepB HT3.out.h3 HB6.out) (p := ⟨g5, 10, none⟩) (show g3 ≠ g5 by have := blk_lt HT3.out.h3; have := HG5.out; omega) (.slice At nt ct)); have HO7 := Aside0.mk (Kd.R_set HO6.out H6.out (k58_types (by decide)) 10 (.slice At nt ct)); have HB7 := Aside0.mk (below_cell HB6.out (show Wc.heap.size ≤ g5 from HG5.out) (p := ⟨g5, 10, none⟩) (.slice At nt ct)))
                  | ((with_reducible refine gate_dst (N := 189) rfl ?_); refine wpList_load_row rfl 87 (.tmp 10) rfl g5 rfl 87 _ (0, 0) _ H7.out Try.underlying87 rfl info87s ?_)
                  | ((with_reducible refine gate_store (t := 87) (p := 4) rfl ?_); refine wpList_store_row rfl 87 (.tmp 4) (.tmp 189) rfl g3 #[.int .i64 (goL l2).x.f0, .int .i64 (goL l2).x.f1, .int .i64 (goL l2).x.f2, .int .i64 (goL l2).x.f3, .int .i64 (goL l2).x.f4, .slice Aq1 l2.q.length cq1, .int .i64 (goL l2).base, .int .i64 (goL l2).out, .int .i64 (goL l2).want, .slice Ae2 l2.er.length ce2, .slice At nt ct, .slice Ao no co, .int .i64 0] rfl rfl 87 _ H37.out info87s rfl (by rw [List.all_toArray]; rfl) ?_))
                refine bodyPost_ret (results_cell_row rfl _ _ g3 87 #[.int .i64 (goL l2).x.f0, .int .i64 (goL l2).x.f1, .int .i64 (goL l2).x.f2, .int .i64 (goL l2).x.f3, .int .i64 (goL l2).x.f4, .slice Aq1 l2.q.length cq1, .int .i64 (goL l2).base, .int .i64 (goL l2).out, .int .i64 (goL l2).want, .slice Ae2 l2.er.length ce2, .slice At nt ct, .slice Ao no co, .int .i64 0] (0, 0) _ rfl (setRow_heap _ _ _ _ _ _ H37.out) hu87 rfl info87s) rfl ?_
                exact take13_end HE.out HL2.out HT3.out HQ1.out HRE.out HRT.out HG4.out HB7.out (Kd.R_lower HO7.out HT3.out.below.size) HOS.out _
          · have n4 : (p.f3 != l.x.f1) = true := bne_iff_ne.mpr h4
            have HE := Aside0.mk (show tkE l p = 4 by unfold tkE; rw [if_pos ⟨HOK.out, h1, h2⟩, if_neg (fun e => h4 e.2)])
            clear h1 h2 h3 h4
            go_enter Try.func48, Try.ntmps48
            go_wp2_with (first
              | ((with_reducible refine gate_dst (N := 2) rfl ?_); refine box_event ?hg (N := 2) ?hd (cs := #[.int .i64 l.x.f0, .int .i64 l.x.f1, .int .i64 l.x.f2, .int .i64 l.x.f3, .int .i64 l.x.f4, .slice Aq l.q.length cq, .int .i64 l.base, .int .i64 l.out, .int .i64 l.want, .slice Ae l.er.length ce]) (t := 81) ?hr ?_; (case hd => rfl); (case hg => rfl); (case hr => first | (go_simp; done) | (go_simp; rfl)); intro g1 hg1 v1 kg1 bg1; have Gg1 := Aside0.mk hg1; clear hg1; have H1 := Aside0.mk kg1; have HB1 := Aside0.mk bg1; clear kg1 bg1)
              | ((with_reducible refine gate_dst (N := 3) rfl ?_); refine box_event ?hg (N := 3) ?hd (cs := #[.int .i64 p.f0, .int .i64 p.f1, .int .i64 p.f2, .int .i64 p.f3, .int .i64 p.f4, .int .i64 p.f5, .string p.f6]) (t := 58) ?hr ?_; (case hd => rfl); (case hg => rfl); (case hr => first | (go_simp; done) | (go_simp; rfl)); intro g2 hg2 v2 kg2 bg2; have Gg2 := Aside0.mk hg2; clear hg2; have H2 := Aside0.mk kg2; have H12 := Aside0.mk (keepB H1.out bg2); have HB2 := Aside0.mk (HB1.out.trans (bg2.mono HB1.out.size)); clear kg2 bg2)
              | ((with_reducible refine gate_dst (N := 4) rfl ?_); refine box_event ?hg (N := 4) ?hd (cs := #[.int .i64 0, .int .i64 0, .int .i64 0, .int .i64 0, .int .i64 0, .slice none 0 0, .int .i64 0, .int .i64 0, .int .i64 0, .slice none 0 0, .slice none 0 0, .slice none 0 0, .int .i64 0]) (t := 87) ?hr ?_; (case hd => rfl); (case hg => rfl); (case hr => first | (go_simp; done) | (go_simp; rfl)); intro g3 hg3 v3 kg3 bg3; have Gg3 := Aside0.mk hg3; clear hg3; have HT3 := Aside0.mk (show TB w v3 g1 g2 g3 l (.slice Aq l.q.length cq) (.slice Ae l.er.length ce) p from ⟨keepB H12.out bg3, keepB H2.out bg3, kg3, by have := blk_lt H1.out; have := Gg2.out; omega, by have := blk_lt H2.out; have := Gg3.out; omega, by rw [Gg1.out]; exact Nat.le_refl _, HB2.out.trans (bg3.mono HB2.out.size)⟩); clear kg3 bg3 HB1 HB2 H1 H2 H12)
              | ((with_reducible refine gate_dst (N := 11) rfl ?_); refine wpList_load_row rfl 58 (.tmp 3) rfl g2 rfl 58 _ (0, 0) _ HT3.out.h2 Try.underlying58 rfl info58s ?_)
              | ((with_reducible refine gate_dst (N := 12) rfl ?_); refine goesL_ (some 12) rfl rfl Try.func79 (by kernel_rfl) rfl #[.agg #[.int .i64 p.f0, .int .i64 p.f1, .int .i64 p.f2, .int .i64 p.f3, .int .i64 p.f4, .int .i64 p.f5, .string p.f6]] rfl (by first | (simp only [List.map_toArray, List.map_cons, List.map_nil]; rfl) | rfl) ?_; refine (caduceusref11_CheckPacket.calls p.f0 p.f1 p.f2 p.f3 p.f4 p.f5 p.f6 _ _ HCK.out).mono ?_; rintro e w4 ⟨rfl, hb4⟩; have HT4 := Aside0.mk (HT3.out.bel hb4); have HV4 := Aside0.mk (Nat.lt_of_lt_of_le (blk_lt HT3.out.h3) hb4.size); clear hb4 HT3; have xf0 : w4.cell? ⟨g2, 0, none⟩ = some (.int .i64 p.f0) := (blk_cell HT4.out.h2 0).trans rfl; have xf1 : w4.cell? ⟨g2, 1, none⟩ = some (.int .i64 p.f1) := (blk_cell HT4.out.h2 1).trans rfl; have xf2 : w4.cell? ⟨g2, 2, none⟩ = some (.int .i64 p.f2) := (blk_cell HT4.out.h2 2).trans rfl; have xf3 : w4.cell? ⟨g2, 3, none⟩ = some (.int .i64 p.f3) := (blk_cell HT4.out.h2 3).trans rfl; have xf4 : w4.cell? ⟨g2, 4, none⟩ = some (.int .i64 p.f4) := (blk_cell HT4.out.h2 4).trans rfl; have xf5 : w4.cell? ⟨g2, 5, none⟩ = some (.int .i64 p.f5) := (blk_cell HT4.out.h2 5).trans rfl; have xf6 : w4.cell? ⟨g2, 6, none⟩ = some (.string p.f6) := (blk_cell HT4.out.h2 6).trans rfl; have y0 : w4.cell? ⟨g1, 0, none⟩ = some (.int .i64 l.x.f0) := (blk_cell HT4.out.h1 0).trans rfl; have y1 : w4.cell? ⟨g1, 1, none⟩ = some (.int .i64 l.x.f1) := (blk_cell HT4.out.h1 1).trans rfl; have y2 : w4.cell? ⟨g1, 2, none⟩ = some (.int .i64 l.x.f2) := (blk_cell HT4.out.h1 2).trans rfl; have y3 : w4.cell? ⟨g1, 3, none⟩ = some (.int .i64 l.x.f3) := (blk_cell HT4.out.h1 3).trans rfl; have c5 : w4.cell? ⟨g1, 5, none⟩ = some (.slice Aq l.q.length cq) := (blk_cell HT4.out.h1 5).trans rfl; have c6 : w4.cell? ⟨g1, 6, none⟩ = some (.int .i64 l.base) := (blk_cell HT4.out.h1 6).trans rfl; have c7 : w4.cell? ⟨g1, 7, none⟩ = some (.int .i64 l.out) := (blk_cell HT4.out.h1 7).trans rfl; have c8 : w4.cell? ⟨g1, 8, none⟩ = some (.int .i64 l.want) := (blk_cell HT4.out.h1 8).trans rfl; have c9 : w4.cell? ⟨g1, 9, none⟩ = some (.slice Ae l.er.length ce) := (blk_cell HT4.out.h1 9).trans rfl; refine ⟨_, rfl, ?_⟩)
              | ((with_reducible refine gate_dst (N := 46) rfl ?_); refine wpList_load_row rfl 81 (.tmp 2) rfl g1 rfl 81 _ (0, 0) _ HT4.out.h1 Try.underlying81 rfl info81s ?_)
              | ((with_reducible refine gate_store (t := 87) (p := 4) rfl ?_); refine wpList_store_row rfl 87 (.tmp 4) (.tmp 47) rfl g3 #[.int .i64 l.x.f0, .int .i64 l.x.f1, .int .i64 l.x.f2, .int .i64 l.x.f3, .int .i64 l.x.f4, .slice Aq l.q.length cq, .int .i64 l.base, .int .i64 l.out, .int .i64 l.want, .slice Ae l.er.length ce, .slice none 0 0, .slice none 0 0, .int .i64 4] rfl rfl 87 _ HT4.out.h3 info87s rfl (by rw [List.all_toArray]; rfl) ?_))
            refine bodyPost_ret (results_cell_row rfl _ _ g3 87 #[.int .i64 l.x.f0, .int .i64 l.x.f1, .int .i64 l.x.f2, .int .i64 l.x.f3, .int .i64 l.x.f4, .slice Aq l.q.length cq, .int .i64 l.base, .int .i64 l.out, .int .i64 l.want, .slice Ae l.er.length ce, .slice none 0 0, .slice none 0 0, .int .i64 4] (0, 0) _ rfl (setRow_heap _ _ _ _ _ _ HT4.out.h3) hu87 rfl info87s) rfl ?_
            exact take13_no HQ0.out HE0.out (below_setRow HT4.out.below (by have := HT4.out.low; have := HT4.out.n12; have := HT4.out.n23; omega) _) HE.out (by decide)
        · have n3 : (p.f2 != l.x.f3) = true := bne_iff_ne.mpr h3
          have HE := Aside0.mk (show tkE l p = 4 by unfold tkE; rw [if_pos ⟨HOK.out, h1, h2⟩, if_neg (fun e => h3 e.1)])
          clear h1 h2 h3
          go_enter Try.func48, Try.ntmps48
          go_wp2_with (first
            | ((with_reducible refine gate_dst (N := 2) rfl ?_); refine box_event ?hg (N := 2) ?hd (cs := #[.int .i64 l.x.f0, .int .i64 l.x.f1, .int .i64 l.x.f2, .int .i64 l.x.f3, .int .i64 l.x.f4, .slice Aq l.q.length cq, .int .i64 l.base, .int .i64 l.out, .int .i64 l.want, .slice Ae l.er.length ce]) (t := 81) ?hr ?_; (case hd => rfl); (case hg => rfl); (case hr => first | (go_simp; done) | (go_simp; rfl)); intro g1 hg1 v1 kg1 bg1; have Gg1 := Aside0.mk hg1; clear hg1; have H1 := Aside0.mk kg1; have HB1 := Aside0.mk bg1; clear kg1 bg1)
            | ((with_reducible refine gate_dst (N := 3) rfl ?_); refine box_event ?hg (N := 3) ?hd (cs := #[.int .i64 p.f0, .int .i64 p.f1, .int .i64 p.f2, .int .i64 p.f3, .int .i64 p.f4, .int .i64 p.f5, .string p.f6]) (t := 58) ?hr ?_; (case hd => rfl); (case hg => rfl); (case hr => first | (go_simp; done) | (go_simp; rfl)); intro g2 hg2 v2 kg2 bg2; have Gg2 := Aside0.mk hg2; clear hg2; have H2 := Aside0.mk kg2; have H12 := Aside0.mk (keepB H1.out bg2); have HB2 := Aside0.mk (HB1.out.trans (bg2.mono HB1.out.size)); clear kg2 bg2)
            | ((with_reducible refine gate_dst (N := 4) rfl ?_); refine box_event ?hg (N := 4) ?hd (cs := #[.int .i64 0, .int .i64 0, .int .i64 0, .int .i64 0, .int .i64 0, .slice none 0 0, .int .i64 0, .int .i64 0, .int .i64 0, .slice none 0 0, .slice none 0 0, .slice none 0 0, .int .i64 0]) (t := 87) ?hr ?_; (case hd => rfl); (case hg => rfl); (case hr => first | (go_simp; done) | (go_simp; rfl)); intro g3 hg3 v3 kg3 bg3; have Gg3 := Aside0.mk hg3; clear hg3; have HT3 := Aside0.mk (show TB w v3 g1 g2 g3 l (.slice Aq l.q.length cq) (.slice Ae l.er.length ce) p from ⟨keepB H12.out bg3, keepB H2.out bg3, kg3, by have := blk_lt H1.out; have := Gg2.out; omega, by have := blk_lt H2.out; have := Gg3.out; omega, by rw [Gg1.out]; exact Nat.le_refl _, HB2.out.trans (bg3.mono HB2.out.size)⟩); clear kg3 bg3 HB1 HB2 H1 H2 H12)
            | ((with_reducible refine gate_dst (N := 11) rfl ?_); refine wpList_load_row rfl 58 (.tmp 3) rfl g2 rfl 58 _ (0, 0) _ HT3.out.h2 Try.underlying58 rfl info58s ?_)
            | ((with_reducible refine gate_dst (N := 12) rfl ?_); refine goesL_ (some 12) rfl rfl Try.func79 (by kernel_rfl) rfl #[.agg #[.int .i64 p.f0, .int .i64 p.f1, .int .i64 p.f2, .int .i64 p.f3, .int .i64 p.f4, .int .i64 p.f5, .string p.f6]] rfl (by first | (simp only [List.map_toArray, List.map_cons, List.map_nil]; rfl) | rfl) ?_; refine (caduceusref11_CheckPacket.calls p.f0 p.f1 p.f2 p.f3 p.f4 p.f5 p.f6 _ _ HCK.out).mono ?_; rintro e w4 ⟨rfl, hb4⟩; have HT4 := Aside0.mk (HT3.out.bel hb4); have HV4 := Aside0.mk (Nat.lt_of_lt_of_le (blk_lt HT3.out.h3) hb4.size); clear hb4 HT3; have xf0 : w4.cell? ⟨g2, 0, none⟩ = some (.int .i64 p.f0) := (blk_cell HT4.out.h2 0).trans rfl; have xf1 : w4.cell? ⟨g2, 1, none⟩ = some (.int .i64 p.f1) := (blk_cell HT4.out.h2 1).trans rfl; have xf2 : w4.cell? ⟨g2, 2, none⟩ = some (.int .i64 p.f2) := (blk_cell HT4.out.h2 2).trans rfl; have xf3 : w4.cell? ⟨g2, 3, none⟩ = some (.int .i64 p.f3) := (blk_cell HT4.out.h2 3).trans rfl; have xf4 : w4.cell? ⟨g2, 4, none⟩ = some (.int .i64 p.f4) := (blk_cell HT4.out.h2 4).trans rfl; have xf5 : w4.cell? ⟨g2, 5, none⟩ = some (.int .i64 p.f5) := (blk_cell HT4.out.h2 5).trans rfl; have xf6 : w4.cell? ⟨g2, 6, none⟩ = some (.string p.f6) := (blk_cell HT4.out.h2 6).trans rfl; have y0 : w4.cell? ⟨g1, 0, none⟩ = some (.int .i64 l.x.f0) := (blk_cell HT4.out.h1 0).trans rfl; have y1 : w4.cell? ⟨g1, 1, none⟩ = some (.int .i64 l.x.f1) := (blk_cell HT4.out.h1 1).trans rfl; have y2 : w4.cell? ⟨g1, 2, none⟩ = some (.int .i64 l.x.f2) := (blk_cell HT4.out.h1 2).trans rfl; have y3 : w4.cell? ⟨g1, 3, none⟩ = some (.int .i64 l.x.f3) := (blk_cell HT4.out.h1 3).trans rfl; have c5 : w4.cell? ⟨g1, 5, none⟩ = some (.slice Aq l.q.length cq) := (blk_cell HT4.out.h1 5).trans rfl; have c6 : w4.cell? ⟨g1, 6, none⟩ = some (.int .i64 l.base) := (blk_cell HT4.out.h1 6).trans rfl; have c7 : w4.cell? ⟨g1, 7, none⟩ = some (.int .i64 l.out) := (blk_cell HT4.out.h1 7).trans rfl; have c8 : w4.cell? ⟨g1, 8, none⟩ = some (.int .i64 l.want) := (blk_cell HT4.out.h1 8).trans rfl; have c9 : w4.cell? ⟨g1, 9, none⟩ = some (.slice Ae l.er.length ce) := (blk_cell HT4.out.h1 9).trans rfl; refine ⟨_, rfl, ?_⟩)
            | ((with_reducible refine gate_dst (N := 46) rfl ?_); refine wpList_load_row rfl 81 (.tmp 2) rfl g1 rfl 81 _ (0, 0) _ HT4.out.h1 Try.underlying81 rfl info81s ?_)
            | ((with_reducible refine gate_store (t := 87) (p := 4) rfl ?_); refine wpList_store_row rfl 87 (.tmp 4) (.tmp 47) rfl g3 #[.int .i64 l.x.f0, .int .i64 l.x.f1, .int .i64 l.x.f2, .int .i64 l.x.f3, .int .i64 l.x.f4, .slice Aq l.q.length cq, .int .i64 l.base, .int .i64 l.out, .int .i64 l.want, .slice Ae l.er.length ce, .slice none 0 0, .slice none 0 0, .int .i64 4] rfl rfl 87 _ HT4.out.h3 info87s rfl (by rw [List.all_toArray]; rfl) ?_))
          refine bodyPost_ret (results_cell_row rfl _ _ g3 87 #[.int .i64 l.x.f0, .int .i64 l.x.f1, .int .i64 l.x.f2, .int .i64 l.x.f3, .int .i64 l.x.f4, .slice Aq l.q.length cq, .int .i64 l.base, .int .i64 l.out, .int .i64 l.want, .slice Ae l.er.length ce, .slice none 0 0, .slice none 0 0, .int .i64 4] (0, 0) _ rfl (setRow_heap _ _ _ _ _ _ HT4.out.h3) hu87 rfl info87s) rfl ?_
          exact take13_no HQ0.out HE0.out (below_setRow HT4.out.below (by have := HT4.out.low; have := HT4.out.n12; have := HT4.out.n23; omega) _) HE.out (by decide)
      · have n2 : (p.f1 != l.x.f0) = true := bne_iff_ne.mpr h2
        have HE := Aside0.mk (show tkE l p = 1 by unfold tkE; rw [if_neg (fun e => h2 e.2.2)])
        clear h1 h2
        go_enter Try.func48, Try.ntmps48
        go_wp2_with (first
          | ((with_reducible refine gate_dst (N := 2) rfl ?_); refine box_event ?hg (N := 2) ?hd (cs := #[.int .i64 l.x.f0, .int .i64 l.x.f1, .int .i64 l.x.f2, .int .i64 l.x.f3, .int .i64 l.x.f4, .slice Aq l.q.length cq, .int .i64 l.base, .int .i64 l.out, .int .i64 l.want, .slice Ae l.er.length ce]) (t := 81) ?hr ?_; (case hd => rfl); (case hg => rfl); (case hr => first | (go_simp; done) | (go_simp; rfl)); intro g1 hg1 v1 kg1 bg1; have Gg1 := Aside0.mk hg1; clear hg1; have H1 := Aside0.mk kg1; have HB1 := Aside0.mk bg1; clear kg1 bg1)
          | ((with_reducible refine gate_dst (N := 3) rfl ?_); refine box_event ?hg (N := 3) ?hd (cs := #[.int .i64 p.f0, .int .i64 p.f1, .int .i64 p.f2, .int .i64 p.f3, .int .i64 p.f4, .int .i64 p.f5, .string p.f6]) (t := 58) ?hr ?_; (case hd => rfl); (case hg => rfl); (case hr => first | (go_simp; done) | (go_simp; rfl)); intro g2 hg2 v2 kg2 bg2; have Gg2 := Aside0.mk hg2; clear hg2; have H2 := Aside0.mk kg2; have H12 := Aside0.mk (keepB H1.out bg2); have HB2 := Aside0.mk (HB1.out.trans (bg2.mono HB1.out.size)); clear kg2 bg2)
          | ((with_reducible refine gate_dst (N := 4) rfl ?_); refine box_event ?hg (N := 4) ?hd (cs := #[.int .i64 0, .int .i64 0, .int .i64 0, .int .i64 0, .int .i64 0, .slice none 0 0, .int .i64 0, .int .i64 0, .int .i64 0, .slice none 0 0, .slice none 0 0, .slice none 0 0, .int .i64 0]) (t := 87) ?hr ?_; (case hd => rfl); (case hg => rfl); (case hr => first | (go_simp; done) | (go_simp; rfl)); intro g3 hg3 v3 kg3 bg3; have Gg3 := Aside0.mk hg3; clear hg3; have HT3 := Aside0.mk (show TB w v3 g1 g2 g3 l (.slice Aq l.q.length cq) (.slice Ae l.er.length ce) p from ⟨keepB H12.out bg3, keepB H2.out bg3, kg3, by have := blk_lt H1.out; have := Gg2.out; omega, by have := blk_lt H2.out; have := Gg3.out; omega, by rw [Gg1.out]; exact Nat.le_refl _, HB2.out.trans (bg3.mono HB2.out.size)⟩); clear kg3 bg3 HB1 HB2 H1 H2 H12)
          | ((with_reducible refine gate_dst (N := 11) rfl ?_); refine wpList_load_row rfl 58 (.tmp 3) rfl g2 rfl 58 _ (0, 0) _ HT3.out.h2 Try.underlying58 rfl info58s ?_)
          | ((with_reducible refine gate_dst (N := 12) rfl ?_); refine goesL_ (some 12) rfl rfl Try.func79 (by kernel_rfl) rfl #[.agg #[.int .i64 p.f0, .int .i64 p.f1, .int .i64 p.f2, .int .i64 p.f3, .int .i64 p.f4, .int .i64 p.f5, .string p.f6]] rfl (by first | (simp only [List.map_toArray, List.map_cons, List.map_nil]; rfl) | rfl) ?_; refine (caduceusref11_CheckPacket.calls p.f0 p.f1 p.f2 p.f3 p.f4 p.f5 p.f6 _ _ HCK.out).mono ?_; rintro e w4 ⟨rfl, hb4⟩; have HT4 := Aside0.mk (HT3.out.bel hb4); have HV4 := Aside0.mk (Nat.lt_of_lt_of_le (blk_lt HT3.out.h3) hb4.size); clear hb4 HT3; have xf0 : w4.cell? ⟨g2, 0, none⟩ = some (.int .i64 p.f0) := (blk_cell HT4.out.h2 0).trans rfl; have xf1 : w4.cell? ⟨g2, 1, none⟩ = some (.int .i64 p.f1) := (blk_cell HT4.out.h2 1).trans rfl; have xf2 : w4.cell? ⟨g2, 2, none⟩ = some (.int .i64 p.f2) := (blk_cell HT4.out.h2 2).trans rfl; have xf3 : w4.cell? ⟨g2, 3, none⟩ = some (.int .i64 p.f3) := (blk_cell HT4.out.h2 3).trans rfl; have xf4 : w4.cell? ⟨g2, 4, none⟩ = some (.int .i64 p.f4) := (blk_cell HT4.out.h2 4).trans rfl; have xf5 : w4.cell? ⟨g2, 5, none⟩ = some (.int .i64 p.f5) := (blk_cell HT4.out.h2 5).trans rfl; have xf6 : w4.cell? ⟨g2, 6, none⟩ = some (.string p.f6) := (blk_cell HT4.out.h2 6).trans rfl; have y0 : w4.cell? ⟨g1, 0, none⟩ = some (.int .i64 l.x.f0) := (blk_cell HT4.out.h1 0).trans rfl; have y1 : w4.cell? ⟨g1, 1, none⟩ = some (.int .i64 l.x.f1) := (blk_cell HT4.out.h1 1).trans rfl; have y2 : w4.cell? ⟨g1, 2, none⟩ = some (.int .i64 l.x.f2) := (blk_cell HT4.out.h1 2).trans rfl; have y3 : w4.cell? ⟨g1, 3, none⟩ = some (.int .i64 l.x.f3) := (blk_cell HT4.out.h1 3).trans rfl; have c5 : w4.cell? ⟨g1, 5, none⟩ = some (.slice Aq l.q.length cq) := (blk_cell HT4.out.h1 5).trans rfl; have c6 : w4.cell? ⟨g1, 6, none⟩ = some (.int .i64 l.base) := (blk_cell HT4.out.h1 6).trans rfl; have c7 : w4.cell? ⟨g1, 7, none⟩ = some (.int .i64 l.out) := (blk_cell HT4.out.h1 7).trans rfl; have c8 : w4.cell? ⟨g1, 8, none⟩ = some (.int .i64 l.want) := (blk_cell HT4.out.h1 8).trans rfl; have c9 : w4.cell? ⟨g1, 9, none⟩ = some (.slice Ae l.er.length ce) := (blk_cell HT4.out.h1 9).trans rfl; refine ⟨_, rfl, ?_⟩)
          | ((with_reducible refine gate_dst (N := 30) rfl ?_); refine wpList_load_row rfl 81 (.tmp 2) rfl g1 rfl 81 _ (0, 0) _ HT4.out.h1 Try.underlying81 rfl info81s ?_)
          | ((with_reducible refine gate_store (t := 87) (p := 4) rfl ?_); refine wpList_store_row rfl 87 (.tmp 4) (.tmp 31) rfl g3 #[.int .i64 l.x.f0, .int .i64 l.x.f1, .int .i64 l.x.f2, .int .i64 l.x.f3, .int .i64 l.x.f4, .slice Aq l.q.length cq, .int .i64 l.base, .int .i64 l.out, .int .i64 l.want, .slice Ae l.er.length ce, .slice none 0 0, .slice none 0 0, .int .i64 1] rfl rfl 87 _ HT4.out.h3 info87s rfl (by rw [List.all_toArray]; rfl) ?_))
        refine bodyPost_ret (results_cell_row rfl _ _ g3 87 #[.int .i64 l.x.f0, .int .i64 l.x.f1, .int .i64 l.x.f2, .int .i64 l.x.f3, .int .i64 l.x.f4, .slice Aq l.q.length cq, .int .i64 l.base, .int .i64 l.out, .int .i64 l.want, .slice Ae l.er.length ce, .slice none 0 0, .slice none 0 0, .int .i64 1] (0, 0) _ rfl (setRow_heap _ _ _ _ _ _ HT4.out.h3) hu87 rfl info87s) rfl ?_
        exact take13_no HQ0.out HE0.out (below_setRow HT4.out.below (by have := HT4.out.low; have := HT4.out.n12; have := HT4.out.n23; omega) _) HE.out (by decide)
    · have n1 : (p.f0 != l.x.f2) = true := bne_iff_ne.mpr h1
      have HE := Aside0.mk (show tkE l p = 1 by unfold tkE; rw [if_neg (fun e => h1 e.2.1)])
      clear h1
      go_enter Try.func48, Try.ntmps48
      go_wp2_with (first
        | ((with_reducible refine gate_dst (N := 2) rfl ?_); refine box_event ?hg (N := 2) ?hd (cs := #[.int .i64 l.x.f0, .int .i64 l.x.f1, .int .i64 l.x.f2, .int .i64 l.x.f3, .int .i64 l.x.f4, .slice Aq l.q.length cq, .int .i64 l.base, .int .i64 l.out, .int .i64 l.want, .slice Ae l.er.length ce]) (t := 81) ?hr ?_; (case hd => rfl); (case hg => rfl); (case hr => first | (go_simp; done) | (go_simp; rfl)); intro g1 hg1 v1 kg1 bg1; have Gg1 := Aside0.mk hg1; clear hg1; have H1 := Aside0.mk kg1; have HB1 := Aside0.mk bg1; clear kg1 bg1)
        | ((with_reducible refine gate_dst (N := 3) rfl ?_); refine box_event ?hg (N := 3) ?hd (cs := #[.int .i64 p.f0, .int .i64 p.f1, .int .i64 p.f2, .int .i64 p.f3, .int .i64 p.f4, .int .i64 p.f5, .string p.f6]) (t := 58) ?hr ?_; (case hd => rfl); (case hg => rfl); (case hr => first | (go_simp; done) | (go_simp; rfl)); intro g2 hg2 v2 kg2 bg2; have Gg2 := Aside0.mk hg2; clear hg2; have H2 := Aside0.mk kg2; have H12 := Aside0.mk (keepB H1.out bg2); have HB2 := Aside0.mk (HB1.out.trans (bg2.mono HB1.out.size)); clear kg2 bg2)
        | ((with_reducible refine gate_dst (N := 4) rfl ?_); refine box_event ?hg (N := 4) ?hd (cs := #[.int .i64 0, .int .i64 0, .int .i64 0, .int .i64 0, .int .i64 0, .slice none 0 0, .int .i64 0, .int .i64 0, .int .i64 0, .slice none 0 0, .slice none 0 0, .slice none 0 0, .int .i64 0]) (t := 87) ?hr ?_; (case hd => rfl); (case hg => rfl); (case hr => first | (go_simp; done) | (go_simp; rfl)); intro g3 hg3 v3 kg3 bg3; have Gg3 := Aside0.mk hg3; clear hg3; have HT3 := Aside0.mk (show TB w v3 g1 g2 g3 l (.slice Aq l.q.length cq) (.slice Ae l.er.length ce) p from ⟨keepB H12.out bg3, keepB H2.out bg3, kg3, by have := blk_lt H1.out; have := Gg2.out; omega, by have := blk_lt H2.out; have := Gg3.out; omega, by rw [Gg1.out]; exact Nat.le_refl _, HB2.out.trans (bg3.mono HB2.out.size)⟩); clear kg3 bg3 HB1 HB2 H1 H2 H12)
        | ((with_reducible refine gate_dst (N := 11) rfl ?_); refine wpList_load_row rfl 58 (.tmp 3) rfl g2 rfl 58 _ (0, 0) _ HT3.out.h2 Try.underlying58 rfl info58s ?_)
        | ((with_reducible refine gate_dst (N := 12) rfl ?_); refine goesL_ (some 12) rfl rfl Try.func79 (by kernel_rfl) rfl #[.agg #[.int .i64 p.f0, .int .i64 p.f1, .int .i64 p.f2, .int .i64 p.f3, .int .i64 p.f4, .int .i64 p.f5, .string p.f6]] rfl (by first | (simp only [List.map_toArray, List.map_cons, List.map_nil]; rfl) | rfl) ?_; refine (caduceusref11_CheckPacket.calls p.f0 p.f1 p.f2 p.f3 p.f4 p.f5 p.f6 _ _ HCK.out).mono ?_; rintro e w4 ⟨rfl, hb4⟩; have HT4 := Aside0.mk (HT3.out.bel hb4); have HV4 := Aside0.mk (Nat.lt_of_lt_of_le (blk_lt HT3.out.h3) hb4.size); clear hb4 HT3; have xf0 : w4.cell? ⟨g2, 0, none⟩ = some (.int .i64 p.f0) := (blk_cell HT4.out.h2 0).trans rfl; have xf1 : w4.cell? ⟨g2, 1, none⟩ = some (.int .i64 p.f1) := (blk_cell HT4.out.h2 1).trans rfl; have xf2 : w4.cell? ⟨g2, 2, none⟩ = some (.int .i64 p.f2) := (blk_cell HT4.out.h2 2).trans rfl; have xf3 : w4.cell? ⟨g2, 3, none⟩ = some (.int .i64 p.f3) := (blk_cell HT4.out.h2 3).trans rfl; have xf4 : w4.cell? ⟨g2, 4, none⟩ = some (.int .i64 p.f4) := (blk_cell HT4.out.h2 4).trans rfl; have xf5 : w4.cell? ⟨g2, 5, none⟩ = some (.int .i64 p.f5) := (blk_cell HT4.out.h2 5).trans rfl; have xf6 : w4.cell? ⟨g2, 6, none⟩ = some (.string p.f6) := (blk_cell HT4.out.h2 6).trans rfl; have y0 : w4.cell? ⟨g1, 0, none⟩ = some (.int .i64 l.x.f0) := (blk_cell HT4.out.h1 0).trans rfl; have y1 : w4.cell? ⟨g1, 1, none⟩ = some (.int .i64 l.x.f1) := (blk_cell HT4.out.h1 1).trans rfl; have y2 : w4.cell? ⟨g1, 2, none⟩ = some (.int .i64 l.x.f2) := (blk_cell HT4.out.h1 2).trans rfl; have y3 : w4.cell? ⟨g1, 3, none⟩ = some (.int .i64 l.x.f3) := (blk_cell HT4.out.h1 3).trans rfl; have c5 : w4.cell? ⟨g1, 5, none⟩ = some (.slice Aq l.q.length cq) := (blk_cell HT4.out.h1 5).trans rfl; have c6 : w4.cell? ⟨g1, 6, none⟩ = some (.int .i64 l.base) := (blk_cell HT4.out.h1 6).trans rfl; have c7 : w4.cell? ⟨g1, 7, none⟩ = some (.int .i64 l.out) := (blk_cell HT4.out.h1 7).trans rfl; have c8 : w4.cell? ⟨g1, 8, none⟩ = some (.int .i64 l.want) := (blk_cell HT4.out.h1 8).trans rfl; have c9 : w4.cell? ⟨g1, 9, none⟩ = some (.slice Ae l.er.length ce) := (blk_cell HT4.out.h1 9).trans rfl; refine ⟨_, rfl, ?_⟩)
        | ((with_reducible refine gate_dst (N := 30) rfl ?_); refine wpList_load_row rfl 81 (.tmp 2) rfl g1 rfl 81 _ (0, 0) _ HT4.out.h1 Try.underlying81 rfl info81s ?_)
        | ((with_reducible refine gate_store (t := 87) (p := 4) rfl ?_); refine wpList_store_row rfl 87 (.tmp 4) (.tmp 31) rfl g3 #[.int .i64 l.x.f0, .int .i64 l.x.f1, .int .i64 l.x.f2, .int .i64 l.x.f3, .int .i64 l.x.f4, .slice Aq l.q.length cq, .int .i64 l.base, .int .i64 l.out, .int .i64 l.want, .slice Ae l.er.length ce, .slice none 0 0, .slice none 0 0, .int .i64 1] rfl rfl 87 _ HT4.out.h3 info87s rfl (by rw [List.all_toArray]; rfl) ?_))
      refine bodyPost_ret (results_cell_row rfl _ _ g3 87 #[.int .i64 l.x.f0, .int .i64 l.x.f1, .int .i64 l.x.f2, .int .i64 l.x.f3, .int .i64 l.x.f4, .slice Aq l.q.length cq, .int .i64 l.base, .int .i64 l.out, .int .i64 l.want, .slice Ae l.er.length ce, .slice none 0 0, .slice none 0 0, .int .i64 1] (0, 0) _ rfl (setRow_heap _ _ _ _ _ _ HT4.out.h3) hu87 rfl info87s) rfl ?_
      exact take13_no HQ0.out HE0.out (below_setRow HT4.out.below (by have := HT4.out.low; have := HT4.out.n12; have := HT4.out.n23; omega) _) HE.out (by decide)
end Go.Proofs.Ytdibaeomepallaa.LK
