/- QueueCounts' walk. By hand. -/
import Derived.Test.YtmcochnofkjhaaaDoorQca
import Derived.Deep.QuietTactic
import Derived.BigQuiet
namespace Go.Proofs.YtmcochnofkjhaaaDoor.QU
open Go.RowKit Go.Proofs.YtmcochnofkjhaaaDoorW.PrintWords Go.Proofs.YtmcochnofkjhaaaDoorW.PrintLast Go.Proofs.YtmcochnofkjhaaaDoorW.PrintMore Go.Proofs.YtmcochnofkjhaaaDoor.PAll
set_option linter.unusedVariables false
set_option linter.unusedSimpArgs false
set_option maxRecDepth 100000
set_option maxHeartbeats 16000000 in
theorem queueCounts.walk (x : Int) (A : Option Addr) (c : Nat) (l : List Int) (Ap : Option Addr) (cp : Nat) (lp : List Int) (W : World) (hx : (Lit.int .i64 x).wf = true) (hr : (Kd.int .u8).C W A l.length l) (hc : l.length ≤ c) (hg : ∀ y ∈ l, (Lit.int .u8 y).wf = true) (hm : l.length ≤ maxLen) (hrp : (Kd.int .u8).C W Ap lp.length lp) (hcp : lp.length ≤ cp) (hgp : ∀ y ∈ lp, (Lit.int .u8 y).wf = true) (hmp : lp.length ≤ maxLen) (hT : NC.TabW W) :
    Calls Tryd.prog 3 #[.int .i64 x, .slice A l.length c, .slice Ap lp.length cp] W fun e w' => e = .returned (.bool true) ∧ Below W.heap.size W w' := by
  have hu36 := Tryd.underlying36
  have hu33 := Tryd.underlying33
  have hu30 := Tryd.underlying30
  have hu26 := Tryd.underlying26
  obtain ⟨rm, hrm, hr1, hr2⟩ := room_nat x
  have hnw := new_yes W rm hr1 hr2
  rw [← hrm] at hnw
  have HNW := Aside0.mk hnw
  have HC := Aside0.mk hr
  have HG := Aside0.mk hg
  have HCp := Aside0.mk hrp
  have HGp := Aside0.mk hgp
  have HT := Aside0.mk hT
  clear hrm hnw hr hg hrp hgp hT hm hmp hx
  go_enter Tryd.func3, Tryd.ntmps3
  go_wp2_with (first
    | ((with_reducible refine gate_dst (N := 23) rfl ?_); refine goesL_ (some 23) rfl rfl Tryd.func7 (by kernel_rfl) rfl #[.int .i64 (wrap64 (1 + (wrap64 (x.tmod 100 + 100)).tmod 100))] rfl (by first | (simp only [List.map_toArray, List.map_cons, List.map_nil]; rfl) | rfl) ?_; refine (HNW.out).mono ?_; rintro e w1 ⟨g, m, rfl, hq, hg, hm, hb⟩; have HS0 := Aside0.mk (show QS W w1 g m ⟨rm, [], [], 0⟩ (.slice none 0 0) from ⟨hq, hb, fun k hk => hk.elim (fun e => e ▸ hg) (fun hk => hk.elim (fun e => e ▸ hm) (fun e => by simp [Value.ownBlock] at e))⟩); clear hq hg hm hb; refine ⟨_, rfl, ?_⟩)
    | ((with_reducible refine gate_dst (N := 24) rfl ?_); refine goesL_ (some 24) rfl rfl Tryd.func8 (by kernel_rfl) rfl #[] rfl (by simp) ?_; refine (awake_is w1 (HT.out.below HS0.out.bel)).mono ?_; rintro e w2 ⟨rfl, hb⟩; have HS1 := Aside0.mk (HS0.out.below hb); clear hb; refine ⟨_, rfl, ?_⟩)
    | ((with_reducible refine gate_dst (N := 8) rfl ?_); refine box_event ?hg (N := 8) ?hd (cs := #[.int .i64 0, .int .i64 0, .int .i64 0, .int .i64 0, .int .i64 0]) (t := 26) ?hr ?_; (case hd => rfl); (case hg => rfl); (case hr => first | (go_simp; done) | (go_simp; rfl)); intro ga hga w3 kga bga; have Gga := Aside0.mk hga; clear hga; have HA3 := Aside0.mk (show w3.heap[ga]? = some (.cells (arr (fun _ => 0)) 26 (0, 0)) from kga); have HS3 := Aside0.mk (HS1.out.below bga); clear kga bga)
    | ((with_reducible refine gate_dst (N := 9) rfl ?_); refine box_event ?hg (N := 9) ?hd (cs := #[.int .i64 0, .int .i64 0, .int .i64 0, .int .i64 0, .int .i64 0]) (t := 26) ?hr ?_; (case hd => rfl); (case hg => rfl); (case hr => first | (go_simp; done) | (go_simp; rfl)); intro gb hgb w4 kgb bgb; have Ggb := Aside0.mk hgb; clear hgb; have HS4 := Aside0.mk (show CS W w4 g m ⟨rm, [], [], 0⟩ (.slice none 0 0) ga gb (fun _ => 0) (fun _ => 0) from ⟨HS3.out.below bgb, keepB HA3.out bgb, kgb, Nat.le_trans HS1.out.bel.size (Nat.le_of_eq Gga.out.symm), Nat.le_trans HS3.out.bel.size (Nat.le_of_eq Ggb.out.symm), fun e => by have h1 := blk_lt HA3.out; have h2 := Ggb.out; omega⟩); clear kgb bgb))
  obtain ⟨N, hN⟩ : ∃ N, N = min l.length 100 := ⟨_, rfl⟩
  have HN := Aside0.mk hN
  clear hN
  go_loopg [10, 11] N (fun kq v10 v11 w' => ∃ (i : Nat) (last : Int) (q : Qu) (v : Value) (T U : Nat → Int), v10 = .int .i64 last ∧ v11 = .int .i64 i ∧ Aside0 (i + kq = N) ∧ Aside0 (CS W w' g m q v ga gb T U) ∧ Aside0 (Cnt T U last i q.l q.os) ∧ Aside0 (Bq q i) ∧ Aside0 (Sm q))
  case atStart => exact ⟨0, 0, _, _, _, _, rfl, rfl, ⟨by omega⟩, HS4, ⟨Cnt.start 0 (Int.le_refl _)⟩, ⟨by constructor <;> simp <;> omega⟩, ⟨fun G hG => by cases hG⟩⟩
  case round =>
    obtain ⟨i, last, q, v, T, U, rfl, rfl, HI, HQ, HCn, HBq, HSm⟩ := hrel
    have hi := HI.out
    have hN := HN.out
    cases gk with
    | zero =>
      have hcs : (decide ((i : Int) < (l.length : Int)) = false ∧ decide (i < l.length) = false) ∨ (decide ((i : Int) < (l.length : Int)) = true ∧ decide (i < l.length) = true ∧ decide ((i : Int) < 100) = false) := by
        by_cases h60 : l.length ≤ 100
        · exact .inl ⟨decide_eq_false (by omega), decide_eq_false (by omega)⟩
        · exact .inr ⟨decide_eq_true (by omega), decide_eq_true (by omega), decide_eq_false (by omega)⟩
      have HNi := Aside0.mk (show i ≤ 100 by omega)
      clear hi hN
      rcases hcs with ⟨d1, d1n⟩ | ⟨d1, d1n, d2⟩
      all_goals
        go_wp2_with (((with_reducible refine gate_dst (N := 119) rfl ?_); refine goesL_ (some 119) rfl rfl Tryd.func12 (by kernel_rfl) rfl #[.pointer (some ⟨g, 0, none⟩)] rfl (by first | (simp only [List.map_toArray, List.map_cons, List.map_nil]; rfl) | rfl) ?_; refine (peek_is HQ.out.qs.qu HBq.out HSm.out).mono ?_; rintro e w3 ⟨o, rfl, hr, hb⟩; obtain ⟨Ao, co, rfl⟩ := Kd.R_slice hr; have HR3 := Aside0.mk (Kd.R_lower hr (Nat.zero_le _)); have HQ3 := Aside0.mk (HQ.out.below hb); clear hr hb; refine ⟨_, rfl, ?_⟩))
        have HC3 := Aside0.mk (show Cnt T U last i (q.l.drop 0 ++ []) q.os by rw [List.append_nil]; exact HCn.out)
        go_loopg [10, 16] q.l.length (fun kq v10 v16 w' => ∃ (k : Nat) (last2 : Int) (U2 : Nat → Int), v10 = .int .i64 last2 ∧ v16 = .int .i64 k ∧ Aside0 (k + kq = q.l.length) ∧ Aside0 (CS W w' g m q v ga gb T U2) ∧ Aside0 (Cnt T U2 last2 i (q.l.drop k ++ []) q.os) ∧ Aside0 (k36.R 36 w' 0 (fun _ => True) (.slice Ao q.l.length co) q.l))
        case atStart => exact ⟨0, last, U, rfl, rfl, ⟨by omega⟩, HQ3, HC3, HR3⟩
        case round =>
          obtain ⟨k, last2, U2, rfl, rfl, HK8, HQ8, HCn8, HR8⟩ := hrel
          have hk8 := HK8.out
          have hi100 := HNi.out
          cases gk with
          | zero =>
            have d7 : decide ((k : Int) < (q.l.length : Int)) = false := decide_eq_false (by omega)
            have d8 : decide (k < q.l.length) = false := decide_eq_false (by omega)
            have hcn := HCn8.out
            rw [List.drop_eq_nil_of_le (by omega), List.nil_append] at hcn
            have HCn9 := Aside0.mk hcn
            clear hcn hk8 hi100
            go_wp2
            go_loopg [17] 4 (fun kq v17 w' => ∃ r : Nat, v17 = .int .i64 r ∧ Aside0 (r + kq = 5 ∧ 1 ≤ r) ∧ Aside0 (CS W w' g m q v ga gb T U2))
            case atStart => exact ⟨1, rfl, ⟨by omega, by omega⟩, HQ8⟩
            case round =>
              obtain ⟨r, rfl, HR, HQ9⟩ := hrel
              have hr5 := HR.out
              cases gk with
              | zero =>
                have d5 : decide ((r : Int) ≤ 4) = false := decide_eq_false (by omega)
                have d9 : decide ((q.l.length : Int) ≤ (q.room : Int)) = true := decide_eq_true (by have := HBq.out.l; omega)
                have d10 : decide (q.l.length ≤ q.room) = true := decide_eq_true HBq.out.l
                go_wp2_with (first
                  | ((with_reducible refine gate_dst (N := 183) rfl ?_); refine goesL_ (some 183) rfl rfl Tryd.func14 (by kernel_rfl) rfl #[.pointer (some ⟨g, 0, none⟩)] rfl (by first | (simp only [List.map_toArray, List.map_cons, List.map_nil]; rfl) | rfl) ?_; refine (len_is HQ9.out.qs.qu).mono ?_; rintro e w8 ⟨rfl, hb⟩; have HQ10 := Aside0.mk (HQ9.out.below hb); clear hb; refine ⟨_, rfl, ?_⟩)
                  | ((with_reducible refine gate_dst (N := 185) rfl ?_); refine goesL_ (some 185) rfl rfl Tryd.func15 (by kernel_rfl) rfl #[.pointer (some ⟨g, 0, none⟩)] rfl (by first | (simp only [List.map_toArray, List.map_cons, List.map_nil]; rfl) | rfl) ?_; refine (room_is HQ10.out.qs.qu).mono ?_; rintro e w9 ⟨rfl, hb⟩; have HQ11 := Aside0.mk (HQ10.out.below hb); clear hb; refine ⟨_, rfl, ?_⟩))
                go_ret
                exact ⟨rfl, HQ11.out.qs.bel⟩
              | succ k4 =>
                have d5 : decide ((r : Int) ≤ 4) = true := decide_eq_true (by omega)
                have hwf : (Lit.int .i64 (r : Int)).wf = true := WalkArith.wf_i64 ⟨by show (_ : Int) ≤ r; omega, by show (r : Int) ≤ (_ : Int); omega⟩
                have k0 : (0 : Int) ≤ (r : Int) := by omega
                have k1_ : (r : Int) < 5 := by omega
                have ht := HCn9.out.tal r (by omega) (by omega)
                have hbd := HCn9.out.le (s := r) (by omega) (by omega)
                rw [ct_nil] at ht
                obtain ⟨cc, hcc⟩ : ∃ cc, cc = q.os.count (r : Int) := ⟨_, rfl⟩
                obtain ⟨un, hun⟩ : ∃ un, un = U2 r := ⟨_, rfl⟩
                have y1 := arr_cell HQ9.out.a (j := r) (by omega)
                have y2 := arr_cell HQ9.out.b (j := r) (by omega)
                rw [← hcc, ← hun] at ht
                rw [← hun] at y2 hbd
                have ht2 : T r = un + (cc : Int) := by omega
                rw [ht2] at y1 hbd
                have hi100 := HNi.out
                obtain ⟨b0, b1, b2, b3⟩ := hbd
                have HOV := Aside0.mk (fun (w' : World) (h : CS W w' g m q v ga gb T U2) => over_same h.qs.qu (r : Int) hwf)
                rw [← hcc] at HOV
                have hcb : cc ≤ 100 := by omega
                have hub : un ≤ 100 := by omega
                clear ht ht2 hcc hun b0 b1 b3
                go_wp2
                go_quiet (first | (go_at_call 13; refine Calls.quiet_of_same (HOV.out _ (HQ9.out.below (pw_below_drewN (Below.refl _ _) _)))))
                go_wp2
                go_roundg k4
                case measure => omega
                case rel => exact ⟨r + 1, rfl, ⟨by omega, by omega⟩, ⟨HQ9.out.below (pw_below_drewN (Below.refl _ _) _)⟩⟩
          | succ k2 =>
            have d7 : decide ((k : Int) < (q.l.length : Int)) = true := decide_eq_true (by omega)
            have d8 : decide (k < q.l.length) = true := decide_eq_true (by omega)
            have hkb : k ≤ 100 := by have h1 := HBq.out.l; have h2 := HBq.out.r; omega
            have m0 : (0 : Int) ≤ (k : Int) := by omega
            have m1 : (k : Int) < ((q.l).length : Int) := by omega
            obtain ⟨ae, A6, c6, ea, z0, z1, z2, z3, z4, z5, z6, _, _⟩ := at_T36 (Kd.R_reads' HR8.out).2.2 (k : Int) m0 m1
            subst ea
            have hnx := HCn8.out
            rw [nextG q.l [] (k := k) (by omega)] at hnx
            obtain ⟨G, hG⟩ : ∃ G, G = rd_T36 q.l (k : Int) := ⟨_, rfl⟩
            rw [← hG] at z0 z1 z2 z3 z4 z5 z6 hnx
            rw [Int.toNat_natCast] at z0 z1 z2 z3 z4 z5 z6
            clear hG
            obtain ⟨a1, a2, a3, _⟩ := hnx.asc
            obtain ⟨gn_, hgn⟩ : ∃ gn_ : Nat, gn_ = G.f0.toNat := ⟨_, rfl⟩
            have hge : G.f0 = (gn_ : Int) := by omega
            have hub := (hnx.le (s := gn_) (by omega) (by omega))
            obtain ⟨un, hun⟩ : ∃ un, un = U2 gn_ := ⟨_, rfl⟩
            rw [← hun] at hub
            obtain ⟨_, _, ub1, ub2⟩ := hub
            have yb : wr.cell? ⟨gb, G.f0.toNat, none⟩ = some (.int .i64 un) := by rw [← hgn, hun]; exact arr_cell HQ8.out.b (by omega)
            have fb : wr.frozen? ⟨gb, G.f0.toNat, none⟩ = false := blk_frozen HQ8.out.b _
            have HQb := Aside0.mk (show CS W (wr.setCell ⟨gb, G.f0.toNat, none⟩ (.int .i64 (un + 1))) g m _ _ ga gb _ (upd U2 gn_ (U2 gn_ + 1)) by rw [← hgn, ← hun]; exact HQ8.out.setb (by omega) _)
            have HRb := Aside0.mk (HQ8.out.rowb HR8.out G.f0.toNat (.int .i64 (un + 1)))
            have HCb := Aside0.mk (hnx.took hge)
            have e1 : decide (G.f2.f0.f2 ≤ last2) = false := decide_eq_false (by omega)
            have e2 : decide (G.f0 < 1) = false := decide_eq_false (by omega)
            have e3 : decide (4 < G.f0) = false := decide_eq_false (by omega)
            have p2 : (0 : Int) ≤ G.f0 := by omega
            have p3 : G.f0 < (5 : Int) := by omega
            clear hnx hun hge hgn
            go_wp2
            go_roundg k2
            case measure => omega
            case rel => exact ⟨k + 1, _, _, rfl, rfl, ⟨by omega⟩, HQb, HCb, HRb⟩
    | succ k1 =>
      have d1 : decide ((i : Int) < (l.length : Int)) = true := decide_eq_true (by omega)
      have d2 : decide ((i : Int) < 100) = true := decide_eq_true (by omega)
      have i0 : (0 : Int) ≤ (i : Int) := by omega
      have i1 : (i : Int) < (l.length : Int) := by omega
      obtain ⟨ad, rfl, z0⟩ := Kd.at_int HC.out (i : Int) i0 i1
      have hu := sub_ok HG.out (i := i) (by omega)
      obtain ⟨u, hu8⟩ : ∃ u, u = rd l (i : Int) := ⟨_, rfl⟩
      rw [← hu8] at z0 hu
      rw [Int.toNat_natCast] at z0
      clear hu8
      replace z0 := (HQ.out.qs.bel.cell (World.block_lt_of_cell? _ _ z0)).trans z0
      obtain ⟨hu0, hu1⟩ := hu
      obtain ⟨sn, hsn⟩ : ∃ sn : Nat, sn = (1 + u % 4).toNat := ⟨_, rfl⟩
      have hse : 1 + u % 4 = (sn : Int) := by omega
      have hs1 : 1 ≤ sn := by omega
      have hs4 : sn ≤ 4 := by omega
      have p0 : (0 : Int) ≤ 1 + u % 4 := by omega
      have p1 : 1 + u % 4 < (5 : Int) := by omega
      obtain ⟨tn, htn⟩ : ∃ tn, tn = T sn := ⟨_, rfl⟩
      have ya : wr.cell? ⟨ga, (1 + u % 4).toNat, none⟩ = some (.int .i64 tn) := by rw [← hsn, htn]; exact arr_cell HQ.out.a (by omega)
      have fa : wr.frozen? ⟨ga, (1 + u % 4).toNat, none⟩ = false := blk_frozen HQ.out.a _
      obtain ⟨t1, t2, t3, t4⟩ := HCn.out.le hs1 hs4
      rw [← htn] at t1 t2
      have HQa := Aside0.mk (show CS W (wr.setCell ⟨ga, (1 + u % 4).toNat, none⟩ (.int .i64 (tn + 1))) g m q v ga gb (upd T sn (T sn + 1)) U by rw [← hsn, ← htn]; exact HQ.out.seta (by omega) _)
      have HCa := Aside0.mk (HCn.out.offer (s := 1 + u % 4) (q := q) hse hs1 hs4)
      have HS14 := Aside0.mk (show 1 ≤ 1 + u % 4 ∧ 1 + u % 4 ≤ 4 by omega)
      have HIN := Aside0.mk (show 1 ≤ (i : Int) + 1 ∧ (i : Int) + 1 ≤ 100 by omega)
      clear t3 t4 hse hsn hs1 hs4 htn
      by_cases hpi : i < lp.length
      · have d5 : decide ((lp.length : Int) ≤ (i : Int)) = false := decide_eq_false (by omega)
        have d6 : decide (lp.length ≤ i) = false := decide_eq_false (by omega)
        have i2 : (i : Int) < (lp.length : Int) := by omega
        obtain ⟨adp, rfl, zp⟩ := Kd.at_int HCp.out (i : Int) i0 i2
        have hv := sub_ok HGp.out (i := i) hpi
        obtain ⟨u2, hu8⟩ : ∃ u2, u2 = rd lp (i : Int) := ⟨_, rfl⟩
        rw [← hu8] at zp hv
        rw [Int.toNat_natCast] at zp
        obtain ⟨hv0, hv1⟩ := hv
        have HZp := Aside0.mk zp
        clear hu8 zp hpi
        go_wp2_with (first
          | ((with_reducible refine gate_dst (N := 56) rfl ?_); refine goesL_ (some 56) rfl rfl Tryd.func10 (by kernel_rfl) rfl #[.int .i64 ((i : Int) + 1)] rfl (by first | (simp only [List.map_toArray, List.map_cons, List.map_nil]; rfl) | rfl) ?_; refine (one_is _ _).mono ?_; rintro e w5 ⟨A5, c5, rfl, hc5, hb⟩; have HC5 := Aside0.mk hc5; have HQ5 := Aside0.mk (HQa.out.below hb); clear hc5 hb; refine ⟨_, rfl, ?_⟩)
          | ((with_reducible refine gate_dst (N := 58) rfl ?_); refine goesL_ (some 58) rfl rfl Tryd.func9 (by kernel_rfl) rfl #[.pointer (some ⟨g, 0, none⟩), .agg #[.int .i64 (1 + u % 4), .string ⟨#[116]⟩, .int .i64 1, .int .i64 1, .int .i64 ((i : Int) + 1), .string ⟨#[116]⟩, .slice A5 0 c5]] rfl (by first | (simp only [List.map_toArray, List.map_cons, List.map_nil]; rfl) | rfl) ?_; refine (offerC HQ5.out HBq.out (by omega) HT.out HS14.out.1 HS14.out.2 HIN.out.1 HIN.out.2 HC5.out).mono ?_; rintro e w6 ⟨x6, rfl, v6, hs6⟩; have HQ6 := Aside0.mk hs6; have zp6 := (hs6.qs.bel.cell (World.block_lt_of_cell? _ _ HZp.out)).trans HZp.out; clear hs6; refine ⟨_, rfl, ?_⟩)
          | ((with_reducible refine gate_dst (N := 70) rfl ?_); refine goesL_ (some 70) rfl rfl Tryd.func11 (by kernel_rfl) rfl #[.pointer (some ⟨g, 0, none⟩), .int .i64 (u2 % 4)] rfl (by first | (simp only [List.map_toArray, List.map_cons, List.map_nil]; rfl) | rfl) ?_; refine (pollC HQ6.out (HBq.out.offN _ _) (u2 % 4)).mono ?_; rintro e w7 ⟨o, v7, rfl, hr, hs7⟩; obtain ⟨tk, htk⟩ : ∃ tk, tk = (offN q (1 + u % 4) ((i : Int) + 1)).l.take (pollN (offN q (1 + u % 4) ((i : Int) + 1)) (u2 % 4)) := ⟨_, rfl⟩; rw [← htk] at hr; obtain ⟨Ao, co, rfl⟩ := Kd.R_slice hr; have HTK := Aside0.mk htk; have HR7 := Aside0.mk hr; have HQ7 := Aside0.mk hs7; clear htk hr hs7; refine ⟨_, rfl, ?_⟩))
        have HTKl := Aside0.mk (show tk.length ≤ 100 by have h1 := (HBq.out.offN (1 + u % 4) ((i : Int) + 1)).l; have h2 := (HBq.out.offN (1 + u % 4) ((i : Int) + 1)).r; rw [HTK.out, List.length_take]; omega)
        have hcn := HCa.out
        rw [← List.take_append_drop (pollN (offN q (1 + u % 4) ((i : Int) + 1)) (u2 % 4)) (offN q (1 + u % 4) ((i : Int) + 1)).l, ← HTK.out] at hcn
        obtain ⟨q7, hq7⟩ : ∃ q7 : Qu, q7 = { offN q (1 + u % 4) ((i : Int) + 1) with l := (offN q (1 + u % 4) ((i : Int) + 1)).l.drop (pollN (offN q (1 + u % 4) ((i : Int) + 1)) (u2 % 4)) } := ⟨_, rfl⟩
        have HBq7 := Aside0.mk (show Bq q7 (i + 1) by rw [hq7]; exact (HBq.out.offN _ _).cut _ (by rw [List.length_drop]; omega))
        have HSm7 := Aside0.mk (show Sm q7 by rw [hq7]; exact fun G hG => HSm.out.offN _ _ G (List.mem_of_mem_drop hG))
        have HQ7' := HQ7.out
        rw [← hq7] at HQ7'
        have HC7 := Aside0.mk (show Cnt (upd T sn (T sn + 1)) U last ((i : Int) + 1) (tk ++ q7.l) q7.os by rw [hq7]; exact hcn)
        have HQ7b := Aside0.mk HQ7'
        clear hcn hq7 HQ7 HQ7' HCa HQ6 HQ5 HQa HTK zp6 ya fa
        obtain ⟨T2, hT2⟩ : ∃ T2, T2 = upd T sn (T sn + 1) := ⟨_, rfl⟩
        rw [← hT2] at HC7 HQ7b
        clear hT2
        go_loopg [10, 14] tk.length (fun kq v10 v14 w' => ∃ (k : Nat) (last2 : Int) (U2 : Nat → Int), v10 = .int .i64 last2 ∧ v14 = .int .i64 k ∧ Aside0 (k + kq = tk.length) ∧ Aside0 (CS W w' g m q7 v7 ga gb T2 U2) ∧ Aside0 (Cnt T2 U2 last2 ((i : Int) + 1) (tk.drop k ++ q7.l) q7.os) ∧ Aside0 (k36.R 36 w' 0 (fun _ => True) (.slice Ao tk.length co) tk))
        case atStart => exact ⟨0, last, U, rfl, rfl, ⟨by omega⟩, HQ7b, HC7, HR7⟩
        case round =>
          obtain ⟨k, last2, U2, rfl, rfl, HK8, HQ8, HCn8, HR8⟩ := hrel
          have hk8 := HK8.out
          cases gk with
          | zero =>
            have d7 : decide ((k : Int) < (tk.length : Int)) = false := decide_eq_false (by omega)
            have d8 : decide (k < tk.length) = false := decide_eq_false (by omega)
            have hcn := HCn8.out
            rw [List.drop_eq_nil_of_le (by omega), List.nil_append] at hcn
            have HCn9 := Aside0.mk hcn
            clear hcn hk8
            go_wp2
            go_roundg k1
            case measure => omega
            case rel => exact ⟨i + 1, last2, q7, v7, T2, U2, rfl, rfl, ⟨by omega⟩, HQ8, HCn9, HBq7, HSm7⟩
          | succ k2 =>
            have d7 : decide ((k : Int) < (tk.length : Int)) = true := decide_eq_true (by omega)
            have d8 : decide (k < tk.length) = true := decide_eq_true (by omega)
            have hkb : k ≤ 100 := by have := HTKl.out; omega
            have m0 : (0 : Int) ≤ (k : Int) := by omega
            have m1 : (k : Int) < ((tk).length : Int) := by omega
            obtain ⟨ae, A6, c6, ea, z0, z1, z2, z3, z4, z5, z6, _, _⟩ := at_T36 (Kd.R_reads' HR8.out).2.2 (k : Int) m0 m1
            subst ea
            have hnx := HCn8.out
            rw [nextG tk q7.l (k := k) (by omega)] at hnx
            obtain ⟨G, hG⟩ : ∃ G, G = rd_T36 tk (k : Int) := ⟨_, rfl⟩
            rw [← hG] at z0 z1 z2 z3 z4 z5 z6 hnx
            rw [Int.toNat_natCast] at z0 z1 z2 z3 z4 z5 z6
            clear hG
            obtain ⟨a1, a2, a3, _⟩ := hnx.asc
            obtain ⟨gn_, hgn⟩ : ∃ gn_ : Nat, gn_ = G.f0.toNat := ⟨_, rfl⟩
            have hge : G.f0 = (gn_ : Int) := by omega
            have hub := (hnx.le (s := gn_) (by omega) (by omega))
            obtain ⟨un, hun⟩ : ∃ un, un = U2 gn_ := ⟨_, rfl⟩
            rw [← hun] at hub
            obtain ⟨_, _, ub1, ub2⟩ := hub
            have yb : wr.cell? ⟨gb, G.f0.toNat, none⟩ = some (.int .i64 un) := by rw [← hgn, hun]; exact arr_cell HQ8.out.b (by omega)
            have fb : wr.frozen? ⟨gb, G.f0.toNat, none⟩ = false := blk_frozen HQ8.out.b _
            have HQb := Aside0.mk (show CS W (wr.setCell ⟨gb, G.f0.toNat, none⟩ (.int .i64 (un + 1))) g m _ _ ga gb _ (upd U2 gn_ (U2 gn_ + 1)) by rw [← hgn, ← hun]; exact HQ8.out.setb (by omega) _)
            have HRb := Aside0.mk (HQ8.out.rowb HR8.out G.f0.toNat (.int .i64 (un + 1)))
            have HCb := Aside0.mk (hnx.took hge)
            have e1 : decide (G.f2.f0.f2 ≤ last2) = false := decide_eq_false (by omega)
            have e2 : decide (G.f0 < 1) = false := decide_eq_false (by omega)
            have e3 : decide (4 < G.f0) = false := decide_eq_false (by omega)
            have p2 : (0 : Int) ≤ G.f0 := by omega
            have p3 : G.f0 < (5 : Int) := by omega
            clear hnx hun hge hgn
            go_wp2
            go_roundg k2
            case measure => omega
            case rel => exact ⟨k + 1, _, _, rfl, rfl, ⟨by omega⟩, HQb, HCb, HRb⟩
      · have d5 : decide ((lp.length : Int) ≤ (i : Int)) = true := decide_eq_true (by omega)
        have d6 : decide (lp.length ≤ i) = true := decide_eq_true (by omega)
        clear hpi
        go_wp2_with (first
          | ((with_reducible refine gate_dst (N := 56) rfl ?_); refine goesL_ (some 56) rfl rfl Tryd.func10 (by kernel_rfl) rfl #[.int .i64 ((i : Int) + 1)] rfl (by first | (simp only [List.map_toArray, List.map_cons, List.map_nil]; rfl) | rfl) ?_; refine (one_is _ _).mono ?_; rintro e w5 ⟨A5, c5, rfl, hc5, hb⟩; have HC5 := Aside0.mk hc5; have HQ5 := Aside0.mk (HQa.out.below hb); clear hc5 hb; refine ⟨_, rfl, ?_⟩)
          | ((with_reducible refine gate_dst (N := 58) rfl ?_); refine goesL_ (some 58) rfl rfl Tryd.func9 (by kernel_rfl) rfl #[.pointer (some ⟨g, 0, none⟩), .agg #[.int .i64 (1 + u % 4), .string ⟨#[116]⟩, .int .i64 1, .int .i64 1, .int .i64 ((i : Int) + 1), .string ⟨#[116]⟩, .slice A5 0 c5]] rfl (by first | (simp only [List.map_toArray, List.map_cons, List.map_nil]; rfl) | rfl) ?_; refine (offerC HQ5.out HBq.out (by omega) HT.out HS14.out.1 HS14.out.2 HIN.out.1 HIN.out.2 HC5.out).mono ?_; rintro e w6 ⟨x6, rfl, v6, hs6⟩; have HQ6 := Aside0.mk hs6; clear hs6; refine ⟨_, rfl, ?_⟩))
        go_roundg k1
        case measure => omega
        case rel => exact ⟨i + 1, last, _, v6, _, _, rfl, rfl, ⟨by omega⟩, HQ6, HCa, ⟨HBq.out.offN _ _⟩, ⟨HSm.out.offN _ _⟩⟩
end Go.Proofs.YtmcochnofkjhaaaDoor.QU
