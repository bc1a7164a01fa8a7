/- QueueForgets' walk. By hand. -/
import Derived.Test.YtmcochnofkjhaaaDoorQx
import Derived.Deep.QuietTactic
import Derived.BigQuiet
namespace Go.Proofs.YtmcochnofkjhaaaDoor.QU
open Go.RowKit Go.Proofs.YtmcochnofkjhaaaDoorW.PrintWords Go.Proofs.YtmcochnofkjhaaaDoorW.PrintLast Go.Proofs.YtmcochnofkjhaaaDoorW.PrintMore Go.Proofs.YtmcochnofkjhaaaDoor.PAll
set_option linter.unusedVariables false
set_option linter.unusedSimpArgs false
set_option maxRecDepth 100000
theorem eqS30 (d : Nat) (w : World) (x0 x1 x2 : Int) : (Op.equalIn (d + 2) 30 (.agg #[.int .i64 x0, .int .i64 x1, .int .i64 x2]) (.agg #[.int .i64 x0, .int .i64 x1, .int .i64 x2])).run Tryd.prog w = .ok true w := by
  have h : (Op.equalIn (d + 2) 30 (.agg #[.int .i64 x0, .int .i64 x1, .int .i64 x2]) (.agg #[.int .i64 x0, .int .i64 x1, .int .i64 x2])).run Tryd.prog w = .ok (x0 == x0 && (x1 == x1 && (x2 == x2))) w := by
    refine eqA_of Tryd.underlying30 (by kernel_rfl) ?_
    refine eqf_cons (by rfl) (by go_simp; rfl) (by go_simp; rfl) (by go_simp) ?_
    refine eqf_cons (by rfl) (by go_simp; rfl) (by go_simp; rfl) (by go_simp) ?_
    exact eqf_last (by rfl) (by go_simp; rfl) (by go_simp; rfl) (by go_simp)
  simpa using h
attribute [local go_sem high] eqS30
set_option maxHeartbeats 16000000 in
theorem queueForgets.walk (x : Int) (A : Option Addr) (c : Nat) (l : List Int) (sub : Int) (W : World) (hx : (Lit.int .i64 x).wf = true) (hr : (Kd.int .u8).C W A l.length l) (hc : l.length ≤ c) (hg : ∀ y ∈ l, (Lit.int .u8 y).wf = true) (hm : l.length ≤ maxLen) (hs : (Lit.int .i64 sub).wf = true) (hT : NC.TabW W) :
    Calls Tryd.prog 4 #[.int .i64 x, .slice A l.length c, .int .i64 sub] W fun e w' => e = .returned (.bool true) ∧ Below W.heap.size W w' := by
  have hu36 := Tryd.underlying36
  have hu33 := Tryd.underlying33
  have hu30 := Tryd.underlying30
  have hu26 := Tryd.underlying26
  obtain ⟨rm, hrm, hr1, hr2⟩ := room_nat x
  have hnw := new_yes W rm hr1 hr2
  rw [← hrm] at hnw
  have HNW := Aside0.mk hnw
  have HC := Aside0.mk hr
  have HG := Aside0.mk hg
  have HT := Aside0.mk hT
  clear hrm hnw hr hg hT hm hx
  go_enter Tryd.func4, Tryd.ntmps4
  go_wp2_with (first
    | ((with_reducible refine gate_dst (N := 22) rfl ?_); refine goesL_ (some 22) rfl rfl Tryd.func7 (by kernel_rfl) rfl #[.int .i64 (wrap64 (1 + (wrap64 (x.tmod 100 + 100)).tmod 100))] rfl (by first | (simp only [List.map_toArray, List.map_cons, List.map_nil]; rfl) | rfl) ?_; refine (HNW.out).mono ?_; rintro e w1 ⟨g, m, rfl, hq, hg, hm, hb⟩; have HS0 := Aside0.mk (show QS W w1 g m ⟨rm, [], [], 0⟩ (.slice none 0 0) from ⟨hq, hb, fun k hk => hk.elim (fun e => e ▸ hg) (fun hk => hk.elim (fun e => e ▸ hm) (fun e => by simp [Value.ownBlock] at e))⟩); clear hq hg hm hb; refine ⟨_, rfl, ?_⟩)
    | ((with_reducible refine gate_dst (N := 23) rfl ?_); refine goesL_ (some 23) rfl rfl Tryd.func8 (by kernel_rfl) rfl #[] rfl (by simp) ?_; refine (awake_is w1 (HT.out.below HS0.out.bel)).mono ?_; rintro e w2 ⟨rfl, hb⟩; have HS1 := Aside0.mk (HS0.out.below hb); clear hb; refine ⟨_, rfl, ?_⟩))
  obtain ⟨N, hN⟩ : ∃ N, N = min l.length 60 := ⟨_, rfl⟩
  have HN := Aside0.mk hN
  clear hN
  go_loopg [8] N (fun kq v8 w' => ∃ (i : Nat) (q : Qu) (v : Value), v8 = .int .i64 i ∧ Aside0 (i + kq = N) ∧ Aside0 (QS W w' g m q v) ∧ Aside0 (Bq q i) ∧ Aside0 (Sm q))
  case atStart => exact ⟨0, _, _, rfl, ⟨by omega⟩, HS1, ⟨by constructor <;> simp <;> omega⟩, ⟨fun G hG => by cases hG⟩⟩
  case round =>
    obtain ⟨i, q, v, rfl, HI, HQ, HBq, HSm⟩ := hrel
    have hi := HI.out
    have hN := HN.out
    cases gk with
    | zero =>
      have hcs : (decide ((i : Int) < (l.length : Int)) = false ∧ decide (i < l.length) = false) ∨ (decide ((i : Int) < (l.length : Int)) = true ∧ decide (i < l.length) = true ∧ decide ((i : Int) < 60) = false) := by
        by_cases h60 : l.length ≤ 60
        · exact .inl ⟨decide_eq_false (by omega), decide_eq_false (by omega)⟩
        · exact .inr ⟨decide_eq_true (by omega), decide_eq_true (by omega), decide_eq_false (by omega)⟩
      clear hi hN
      obtain ⟨B0, hB0⟩ : ∃ B, B = wr.heap.size := ⟨_, rfl⟩
      have HLo := Aside0.mk (show ∀ k, lf g v m k → k < B0 from fun k hk => hB0 ▸ HQ.out.qu.foot_lt hk)
      have HB0 := Aside0.mk hB0
      clear hB0
      rcases hcs with ⟨d1, d1n⟩ | ⟨d1, d1n, d2⟩
      all_goals
        go_wp2_with (first
          | ((with_reducible refine gate_dst (N := 53) rfl ?_); refine goesL_ (some 53) rfl rfl Tryd.func12 (by kernel_rfl) rfl #[.pointer (some ⟨g, 0, none⟩)] rfl (by first | (simp only [List.map_toArray, List.map_cons, List.map_nil]; rfl) | rfl) ?_; refine (peek_is HQ.out.qu HBq.out HSm.out).mono ?_; rintro e w3 ⟨o, rfl, hr, hb⟩; obtain ⟨Ao, co, rfl⟩ := Kd.R_slice hr; have HWas := Aside0.mk ((RW.bound (RW.of_R hr)).mono (fun k hk => (⟨HB0.out ▸ hk.1, hk.2⟩ : B0 ≤ k ∧ k < w3.heap.size))); have HQ3 := Aside0.mk (HQ.out.below hb); have HB3 := Aside0.mk hb; clear hr hb; refine ⟨_, rfl, ?_⟩)
          | ((with_reducible refine gate_dst (N := 10) rfl ?_); refine box_event ?hg (N := 10) ?hd (cs := #[.int .i64 0, .int .i64 0, .int .i64 0, .int .i64 0, .int .i64 0]) (t := 26) ?hr ?_; (case hd => rfl); (case hg => rfl); (case hr => first | (go_simp; done) | (go_simp; rfl)); intro ga hga w4 kga bga; have Gga := Aside0.mk hga; clear hga; have HA4 := Aside0.mk (show w4.heap[ga]? = some (.cells (arr (fun _ => 0)) 26 (0, 0)) from kga); have HB4 := Aside0.mk bga; have HQ4 := Aside0.mk (HQ3.out.below bga); clear kga bga))
        go_loopg [11] 4 (fun kq v11 w' => ∃ (s : Nat) (T : Nat → Int), v11 = .int .i64 s ∧ Aside0 (s + kq = 5 ∧ 1 ≤ s) ∧ Aside0 (w'.heap[ga]? = some (.cells (arr T) 26 (0, 0))) ∧ Aside0 (∀ j : Nat, 1 ≤ j → j < s → T j = q.os.count (j : Int)) ∧ Aside0 (QS W w' g m q v) ∧ Aside0 (Mods (fun k => k = ga) w4 w'))
        case atStart => exact ⟨1, _, rfl, ⟨by omega, by omega⟩, HA4, ⟨fun j h1 h2 => by omega⟩, HQ4, ⟨Mods.refl _ _⟩⟩
        case round =>
          obtain ⟨s, T, rfl, HSk, HA, HTc, HQ5, HM5⟩ := hrel
          have hsk := HSk.out
          cases gk with
          | zero =>
            have d3 : decide ((s : Int) ≤ 4) = false := decide_eq_false (by omega)
            have HTc2 := Aside0.mk (fun (j : Nat) (h1 : 1 ≤ j) (h2 : j ≤ 4) => HTc.out j h1 (by omega))
            go_wp2_with (first
              | ((with_reducible refine gate_dst (N := 65) rfl ?_); refine goesL_ (some 65) rfl rfl Tryd.func16 (by kernel_rfl) rfl #[.pointer (some ⟨g, 0, none⟩), .int .i64 sub] rfl (by first | (simp only [List.map_toArray, List.map_cons, List.map_nil]; rfl) | rfl) ?_; refine (forget_is HQ5.out.qu HBq.out sub hs).mono ?_; rintro e w6 ⟨rfl, v6, hs6⟩; have HQ6 := Aside0.mk (HQ5.out.step hs6); have HA6 := Aside0.mk (hs6.keep HQ5.out.qu HA.out (by decide) (by decide)); have HM6 := Aside0.mk hs6.mods; clear hs6; refine ⟨_, rfl, ?_⟩)
              | ((with_reducible refine gate_dst (N := 67) rfl ?_); refine goesL_ (some 67) rfl rfl Tryd.func12 (by kernel_rfl) rfl #[.pointer (some ⟨g, 0, none⟩)] rfl (by first | (simp only [List.map_toArray, List.map_cons, List.map_nil]; rfl) | rfl) ?_; refine (peek_is HQ6.out.qu (HBq.out.fg sub) (HSm.out.fg sub)).mono ?_; rintro e w7 ⟨o7, rfl, hr, hb⟩; obtain ⟨An, cn, rfl, _, hr⟩ := R_named (n := (fl q sub).length) hr rfl; have HNow := Aside0.mk (show k36.C w7 An (fl q sub).length (fl q sub) from (Kd.R_reads' hr).2.2); have HQ7 := Aside0.mk (HQ6.out.below hb); have HA7 := Aside0.mk (keepB HA6.out hb); have HB7 := Aside0.mk hb; clear hr hb; refine ⟨_, rfl, ?_⟩))
            have HW6 := Aside0.mk (((HWas.out.step (fun k hk _ => (HB4.out.block k hk.2).trans rfl)).step (fun k hk hk2 => HM5.out.block k hk2 (fun e => by have h1 := Gga.out; have h2 := hk.2; omega))).step (fun k hk hk2 => HM6.out.block k hk2 (fun e => by have h1 := HLo.out k e; have h2 := hk.1; omega)))
            have HW7 := Aside0.mk (RW_C (HW6.out.below HB7.out))
            have hLl := fl_le q sub
            obtain ⟨bq1, bq2, bq3, _, _⟩ := HBq.out
            clear HW6 HM6 HM5 HWas HB4 HLo
            go_loopg [14, 15] q.l.length (fun kq v14 v15 w' => ∃ i : Nat, v14 = .int .i64 ((((q.l.take i).filter (fun x => !(x.f0 == sub))).length : Nat) : Int) ∧ v15 = .int .i64 i ∧ Aside0 (i + kq = q.l.length) ∧ Aside0 (Below w7.heap.size w7 w'))
            case atStart => exact ⟨0, rfl, rfl, ⟨by omega⟩, ⟨Below.refl _ _⟩⟩
            case round =>
              obtain ⟨j, rfl, rfl, HJ, HB⟩ := hrel
              have hj := HJ.out
              cases gk with
              | zero =>
                have e : j = q.l.length := by omega
                subst e
                have d4 : decide ((q.l.length : Int) < (q.l.length : Int)) = false := decide_eq_false (by omega)
                rw [List.take_length]
                rw [show q.l.filter (fun x => !(x.f0 == sub)) = fl q sub from rfl]
                go_wp2
                go_loopg [16] 4 (fun kq v16 w' => ∃ r : Nat, v16 = .int .i64 r ∧ Aside0 (r + kq = 5 ∧ 1 ≤ r) ∧ Aside0 (Below w7.heap.size w7 w'))
                case atStart => exact ⟨1, rfl, ⟨by omega, by omega⟩, HB⟩
                case round =>
                  obtain ⟨r, rfl, HR, HB8⟩ := hrel
                  have hr5 := HR.out
                  cases gk with
                  | zero =>
                    have d5 : decide ((r : Int) ≤ 4) = false := decide_eq_false (by omega)
                    have hov := over_same (HQ7.out.below HB8.out).qu sub hs
                    rw [show (fgQ q sub).os.count sub = 0 from count_gone q.os sub] at hov
                    have HOV := Aside0.mk hov
                    clear hov
                    go_wp2_with (((with_reducible refine gate_dst (N := 147) rfl ?_); refine gate_guard (by rfl) ?_; dsimp only; refine goesL_ (some 147) rfl rfl Tryd.func13 (by kernel_rfl) rfl #[.pointer (some ⟨g, 0, none⟩), .int .i64 sub] rfl (by first | (simp only [List.map_toArray, List.map_cons, List.map_nil]; rfl) | rfl) ?_; refine (HOV.out).mono ?_; rintro e w9 ⟨rfl, rfl⟩; refine ⟨_, rfl, ?_⟩))
                    go_ret
                    exact ⟨rfl, HQ7.out.bel.trans (HB8.out.mono HQ7.out.bel.size)⟩
                  | succ k4 =>
                    have d5 : decide ((r : Int) ≤ 4) = true := decide_eq_true (by omega)
                    have hwf : (Lit.int .i64 (r : Int)).wf = true := WalkArith.wf_i64 ⟨by show (_ : Int) ≤ r; omega, by show (r : Int) ≤ (_ : Int); omega⟩
                    by_cases hrs : (r : Int) = sub
                    · have d6 : ((r : Int) != sub) = false := by rw [hrs]; exact bne_self_eq_false _
                      clear hrs
                      go_wp2
                      go_quiet (fail)
                      go_wp2
                      go_roundg k4
                      case measure => omega
                      case rel => exact ⟨r + 1, rfl, ⟨by omega, by omega⟩, ⟨pw_below_drewN HB8.out _⟩⟩
                    · have d6 : ((r : Int) != sub) = true := by simpa using hrs
                      have k0 : (0 : Int) ≤ (r : Int) := by omega
                      have k1_ : (r : Int) < 5 := by omega
                      have y9 := arr_cell (keepB HA7.out HB8.out) (j := r) (by omega)
                      have hcd : q.os.count (r : Int) = (fgQ q sub).os.count (r : Int) := (count_drop q.os sub (r : Int) hrs).symm
                      rw [HTc2.out r (by omega) (by omega), hcd] at y9
                      clear hrs hcd
                      go_wp2
                      go_quiet (first | (go_at_call 13; refine Calls.quiet_of_same (over_same ((HQ7.out.below HB8.out).below (pw_below_drewN (Below.refl _ _) _)).qu (r : Int) hwf)))
                      go_wp2
                      go_roundg k4
                      case measure => omega
                      case rel => exact ⟨r + 1, rfl, ⟨by omega, by omega⟩, ⟨pw_below_drewN HB8.out _⟩⟩
              | succ k3 =>
                have d4 : decide ((j : Int) < (q.l.length : Int)) = true := decide_eq_true (by omega)
                have m0 : (0 : Int) ≤ (j : Int) := by omega
                have m1 : (j : Int) < (q.l.length : Int) := by omega
                obtain ⟨aw, A6, c6, ea, z0, z1, z2, z3, z4, z5, z6, _, _⟩ := at_T36 (Kd.C_below HW7.out.2 HB.out) (j : Int) m0 m1
                subst ea
                have hrd : rd_T36 q.l (j : Int) = q.l[j]'(by omega) := by
                  unfold rd_T36
                  rw [Int.toNat_natCast, List.getD_eq_getElem?_getD, List.getElem?_eq_getElem (by omega)]
                  rfl
                obtain ⟨G, hG⟩ : ∃ G, G = q.l[j]'(by omega) := ⟨_, rfl⟩
                rw [hrd, ← hG] at z0 z1 z2 z3 z4 z5 z6
                rw [Int.toNat_natCast] at z0 z1 z2 z3 z4 z5 z6
                clear hrd
                by_cases hp : (G.f0 == sub) = true
                · have hk := filt_skip (p := fun x => !(x.f0 == sub)) (l := q.l) (i := j) (by omega) (by rw [← hG]; simp [hp])
                  have HK := Aside0.mk hk
                  obtain ⟨kk, hkk⟩ : ∃ kk, kk = ((q.l.take j).filter (fun x => !(x.f0 == sub))).length := ⟨_, rfl⟩
                  have HKK := Aside0.mk hkk
                  rw [← hkk]
                  clear hG hk hkk
                  go_wp2
                  go_roundg k3
                  case measure => omega
                  case rel => exact ⟨j + 1, by rw [HKK.out, HK.out], rfl, ⟨by omega⟩, HB⟩
                · have hp2 : (G.f0 == sub) = false := by simpa using hp
                  obtain ⟨hk1, hk2, hk3⟩ := filt_at (p := fun x => !(x.f0 == sub)) (l := q.l) (i := j) (by omega) (by rw [← hG]; simp [hp2])
                  rw [show q.l.filter (fun x => !(x.f0 == sub)) = fl q sub from rfl] at hk1 hk2
                  rw [← hG] at hk2
                  obtain ⟨kk, hkk⟩ : ∃ kk, kk = ((q.l.take j).filter (fun x => !(x.f0 == sub))).length := ⟨_, rfl⟩
                  rw [← hkk] at hk1 hk2 hk3 ⊢
                  have HK := Aside0.mk hk3
                  have n0 : (0 : Int) ≤ (kk : Int) := by omega
                  have n1 : (kk : Int) < ((fl q sub).length : Int) := by omega
                  obtain ⟨an, A7, c7, ea, y0, y1, y2, y3, y4, y5, y6, _, _⟩ := at_T36 (Kd.C_below HNow.out HB.out) (kk : Int) n0 n1
                  subst ea
                  rw [hk2] at y0 y1 y2 y3 y4 y5 y6
                  rw [Int.toNat_natCast] at y0 y1 y2 y3 y4 y5 y6
                  have d7 : decide (((fl q sub).length : Int) ≤ (kk : Int)) = false := decide_eq_false (by omega)
                  have d8 : decide ((fl q sub).length ≤ kk) = false := decide_eq_false (by omega)
                  have hkb : kk ≤ 100 := by omega
                  clear hG hk1 hk2 hk3 hkk hp
                  go_wp2
                  go_quiet (fail)
                  go_wp2
                  go_roundg k3
                  case measure => omega
                  case rel => exact ⟨j + 1, by rw [HK.out]; rfl, rfl, ⟨by omega⟩, ⟨pw_below_drewN HB.out _⟩⟩
          | succ k2 =>
            have d3 : decide ((s : Int) ≤ 4) = true := decide_eq_true (by omega)
            have j0 : (0 : Int) ≤ (s : Int) := by omega
            have j1 : (s : Int) < 5 := by omega
            have y3 := arr_cell HA.out (j := s) (by omega)
            have f3 := blk_frozen HA.out s
            have hwf : (Lit.int .i64 (s : Int)).wf = true := WalkArith.wf_i64 ⟨by show (_ : Int) ≤ s; omega, by show (s : Int) ≤ (_ : Int); omega⟩
            go_wp2_with (((with_reducible refine gate_dst (N := 61) rfl ?_); refine goesL_ (some 61) rfl rfl Tryd.func13 (by kernel_rfl) rfl #[.pointer (some ⟨g, 0, none⟩), .int .i64 s] rfl (by first | (simp only [List.map_toArray, List.map_cons, List.map_nil]; rfl) | rfl) ?_; refine (over_same HQ5.out.qu s hwf).mono ?_; rintro e w5 ⟨rfl, rfl⟩; refine ⟨_, rfl, ?_⟩))
            go_roundg k2
            case measure => omega
            case rel => exact ⟨s + 1, upd T s (q.os.count (s : Int)), rfl, ⟨by omega, by omega⟩, ⟨arr_put HA.out (by omega) _⟩, ⟨fun j h1 h2 => by
              unfold upd
              by_cases e : j = s
              · rw [if_pos e, e]
              · rw [if_neg e]; exact HTc.out j h1 (by omega)⟩, ⟨HQ5.out.beside HA.out (Nat.le_trans HQ3.out.bel.size (Nat.le_of_eq Gga.out.symm)) (by decide) (by decide) (by decide) s _⟩, ⟨HM5.out.set (.inl rfl) _⟩⟩
    | succ k1 =>
      have d1 : decide ((i : Int) < (l.length : Int)) = true := decide_eq_true (by omega)
      have d2 : decide ((i : Int) < 60) = true := decide_eq_true (by omega)
      have i0 : (0 : Int) ≤ (i : Int) := by omega
      have i1 : (i : Int) < (l.length : Int) := by omega
      obtain ⟨ad, rfl, z0⟩ := Kd.at_int HC.out (i : Int) i0 i1
      have hu := sub_ok HG.out (i := i) (by omega)
      obtain ⟨u, hu8⟩ : ∃ u, u = rd l (i : Int) := ⟨_, rfl⟩
      rw [← hu8] at z0 hu
      rw [Int.toNat_natCast] at z0
      clear hu8
      have HZ := Aside0.mk z0
      replace z0 := (HQ.out.bel.cell (World.block_lt_of_cell? _ _ z0)).trans z0
      have HQd := Aside0.mk (HQ.out.below (below_drew1 (Below.refl _ _)))
      have hsu := sub4 hu.1
      have HSU := Aside0.mk hsu
      have hin : wrap64 ((i : Int) + 1) = (i : Int) + 1 := wrapId (by omega) (by omega)
      have HIN := Aside0.mk (show 1 ≤ wrap64 ((i : Int) + 1) ∧ wrap64 ((i : Int) + 1) ≤ 100 by rw [hin]; omega)
      clear hsu hin hu
      go_wp2
      refine start_ (n := 13) (S := fun w' => w'.cell? (ad.add i) = some (.int .u8 u) ∧ True) (ds := []) #[false, false, false, false, false, false, false, false, false, false, false, false, false] (by kernel_rfl) rfl rfl ⟨z0, trivial⟩ (fun hHeld => ?_)
      refine pure_ (i := 0) (N := some 39) (v := ?_) (a' := ?_) #[true, false, false, false, false, false, false, false, false, false, false, false, false] rfl rfl (by kernel_rfl) (fun _ _ _ h => h) (Or.inl ⟨by rfl, ?_⟩) ?_ ?_
      rotate_left
      · intro w'; go_simp; with_reducible rfl
      rotate_left
      · simp only [Act.put, List.setIfInBounds_toArray, List.set_cons_zero, List.set_cons_succ, i64_w, i32_w]; rfl
      refine pure_ (i := 1) (N := some 40) (v := ?_) (a' := ?_) #[true, true, false, false, false, false, false, false, false, false, false, false, false] rfl rfl (by kernel_rfl) (fun _ _ _ h => h) (Or.inl ⟨by rfl, ?_⟩) ?_ ?_
      rotate_left
      · intro w'; go_simp; with_reducible rfl
      rotate_left
      · simp only [Act.put, List.setIfInBounds_toArray, List.set_cons_zero, List.set_cons_succ, i64_w, i32_w]; rfl
      refine pure_ (i := 2) (N := some 41) (v := ?_) (a' := ?_) #[true, true, true, false, false, false, false, false, false, false, false, false, false] rfl rfl (by kernel_rfl) (fun _ _ _ h => h) (Or.inl ⟨by rfl, ?_⟩) ?_ ?_
      rotate_left
      · intro w'; go_simp; with_reducible rfl
      rotate_left
      · simp only [Act.put, List.setIfInBounds_toArray, List.set_cons_zero, List.set_cons_succ, i64_w, i32_w]; rfl
      refine pure_ (i := 3) (N := some 42) (v := ?_) (a' := ?_) #[true, true, true, true, false, false, false, false, false, false, false, false, false] rfl rfl (by kernel_rfl) (fun _ _ _ h => h) (Or.inl ⟨by rfl, ?_⟩) ?_ ?_
      rotate_left
      · intro w'; go_simp; with_reducible rfl
      rotate_left
      · simp only [Act.put, List.setIfInBounds_toArray, List.set_cons_zero, List.set_cons_succ, i64_w, i32_w]; rfl
      refine take_ (i := 4) (N := some 43) (v := ?_) (a' := ?_) #[true, true, true, true, true, false, false, false, false, false, false, false, false] rfl rfl (by kernel_rfl) (fun _ _ _ h => h) (Or.inl ⟨by rfl, ?_⟩) hHeld ?_ ?_
      rotate_left
      · rintro w' ⟨s0, s1⟩; go_simp; with_reducible rfl
      rotate_left
      · simp only [Act.put, List.setIfInBounds_toArray, List.set_cons_zero, List.set_cons_succ, i64_w, i32_w]; rfl
      refine pure_ (i := 5) (N := some 44) (v := ?_) (a' := ?_) #[true, true, true, true, true, true, false, false, false, false, false, false, false] rfl rfl (by kernel_rfl) (fun _ _ _ h => h) (Or.inl ⟨by rfl, ?_⟩) ?_ ?_
      rotate_left
      · intro w'; go_simp; with_reducible rfl
      rotate_left
      · simp only [Act.put, List.setIfInBounds_toArray, List.set_cons_zero, List.set_cons_succ, i64_w, i32_w]; rfl
      refine pure_ (i := 6) (N := some 45) (v := ?_) (a' := ?_) #[true, true, true, true, true, true, true, false, false, false, false, false, false] rfl rfl (by kernel_rfl) (fun _ _ _ h => h) (Or.inl ⟨by rfl, ?_⟩) ?_ ?_
      rotate_left
      · intro w'; go_simp; with_reducible rfl
      rotate_left
      · simp only [Act.put, List.setIfInBounds_toArray, List.set_cons_zero, List.set_cons_succ, i64_w, i32_w]; rfl
      refine pure_ (i := 7) (N := some 46) (v := ?_) (a' := ?_) #[true, true, true, true, true, true, true, true, false, false, false, false, false] rfl rfl (by kernel_rfl) (fun _ _ _ h => h) (Or.inl ⟨by rfl, ?_⟩) ?_ ?_
      rotate_left
      · intro w'; go_simp; with_reducible rfl
      rotate_left
      · simp only [Act.put, List.setIfInBounds_toArray, List.set_cons_zero, List.set_cons_succ, i64_w, i32_w]; rfl
      refine pure_ (i := 8) (N := some 47) (v := ?_) (a' := ?_) #[true, true, true, true, true, true, true, true, true, false, false, false, false] rfl rfl (by kernel_rfl) (fun _ _ _ h => h) (Or.inl ⟨by rfl, ?_⟩) ?_ ?_
      rotate_left
      · intro w'; go_simp; with_reducible rfl
      rotate_left
      · simp only [Act.put, List.setIfInBounds_toArray, List.set_cons_zero, List.set_cons_succ, i64_w, i32_w]; rfl
      refine pure_ (i := 9) (N := some 48) (v := ?_) (a' := ?_) #[true, true, true, true, true, true, true, true, true, true, false, false, false] rfl rfl (by kernel_rfl) (fun _ _ _ h => h) (Or.inl ⟨by rfl, ?_⟩) ?_ ?_
      rotate_left
      · intro w'; go_simp; with_reducible rfl
      rotate_left
      · simp only [Act.put, List.setIfInBounds_toArray, List.set_cons_zero, List.set_cons_succ, i64_w, i32_w]; rfl
      refine one_ (i := 10) (N := some 49) #[true, true, true, true, true, true, true, true, true, true, true, false, false] rfl rfl (by kernel_rfl) (by decide) (fun K hK => ?_)
      refine goes_ Tryd.func10 (by kernel_rfl) rfl #[.int .i64 (wrap64 ((i : Int) + 1))] (by rfl) rfl rfl (by first | rfl | (simp only [List.map_toArray, List.map_cons, List.map_nil]; rfl)) ?_
      refine (one_is _ _).mono ?_
      rintro e w3 ⟨A3, c3, rfl, hc3, hb⟩; have HC3 := Aside0.mk hc3; have HQ3 := Aside0.mk (HQd.out.below hb); have z3 := (hb.cell (World.block_lt_of_cell? _ _ z0)).trans z0; clear hc3 hb
      refine ⟨_, rfl, hK.out _ _ ⟨z3, trivial⟩ (fun hHeld => ?_)⟩
      clear hK K
      refine norm_ (a' := ?_) ?_ ?_
      rotate_left
      · show Act.put _ (some 49) _ = _
        simp only [Act.put, List.setIfInBounds_toArray, List.set_cons_zero, List.set_cons_succ, i64_w, i32_w]
        rfl
      refine pure_ (i := 11) (N := some 50) (v := ?_) (a' := ?_) #[true, true, true, true, true, true, true, true, true, true, true, true, false] rfl rfl (by kernel_rfl) (fun _ _ _ h => h) (Or.inl ⟨by rfl, ?_⟩) ?_ ?_
      rotate_left
      · intro w'; go_simp; with_reducible rfl
      rotate_left
      · simp only [Act.put, List.setIfInBounds_toArray, List.set_cons_zero, List.set_cons_succ, i64_w, i32_w]; rfl
      refine one_ (i := 12) (N := some 51) #[true, true, true, true, true, true, true, true, true, true, true, true, true] rfl rfl (by kernel_rfl) (by decide) (fun K hK => ?_)
      refine goes_ Tryd.func9 (by kernel_rfl) rfl #[.pointer (some ⟨g, 0, none⟩), .agg #[.int .i64 (wrap64 (1 + wrap64 (u.tmod 4))), .string ⟨#[116]⟩, .int .i64 1, .int .i64 1, .int .i64 (wrap64 ((i : Int) + 1)), .string ⟨#[116]⟩, .slice A3 0 c3]] (by rfl) rfl rfl (by first | rfl | (simp only [List.map_toArray, List.map_cons, List.map_nil]; rfl)) ?_
      refine (offerN HQ3.out HBq.out (by omega) HT.out HSU.out.1 HSU.out.2 HIN.out.1 HIN.out.2 HC3.out).mono ?_
      rintro e w4 ⟨x4, rfl, v4, hs4⟩; have HQ4 := Aside0.mk hs4; clear hs4
      refine ⟨_, rfl, hK.out _ _ ⟨(HQ4.out.bel.cell (World.block_lt_of_cell? _ _ HZ.out)).trans HZ.out, trivial⟩ (fun hHeld => ?_)⟩
      clear hK K
      refine norm_ (a' := ?_) ?_ ?_
      rotate_left
      · show Act.put _ (some 51) _ = _
        simp only [Act.put, List.setIfInBounds_toArray, List.set_cons_zero, List.set_cons_succ, i64_w, i32_w]
        rfl
      refine done_ (by kernel_rfl) ?_
      go_wp2
      go_roundg k1
      case measure => omega
      case rel => exact ⟨i + 1, _, _, rfl, ⟨by omega⟩, HQ4, ⟨HBq.out.offN _ _⟩, ⟨HSm.out.offN _ _⟩⟩
end Go.Proofs.YtmcochnofkjhaaaDoor.QU
