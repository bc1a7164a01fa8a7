/- LinkEnds' walk. By hand. -/
import Derived.Test.YtdibaeomepallaaLv
namespace Go.Proofs.Ytdibaeomepallaa.LK
open Go.RowKit Go.Proofs.YtdibaeomepallaaW.PrintWords Go.Proofs.YtdibaeomepallaaW.PrintLast Go.Proofs.YtdibaeomepallaaW.PrintMore Go.Proofs.Ytdibaeomepallaa.PAll Go.Proofs.Ytdibaeomepallaa.NW
set_option linter.unusedVariables false
set_option linter.unusedSimpArgs false
set_option maxRecDepth 100000
/-! ### numbers end: the walk -/
theorem PS.base {w0 w1 w : World} {bx gN : Nat} {ga ma : Nat → Nat} {va sv gv : Nat → Value} {ow : Nat → Nat} {S : Nat → Sd} (hb : Below w0.heap.size w0 w1) (h : PS w1 w bx gN ga ma va sv gv ow S) : PS w0 w bx gN ga ma va sv gv ow S :=
  { h with low := fun k hk => Nat.le_trans hb.size (h.low k hk), below := hb.trans (h.below.mono hb.size) }
theorem EndI.len {less t : Nat} {S : Nat → Sd} (h : EndI less t S) (hl : less ≤ 20) : ∀ i, i < 2 → (S i).sent.length ≤ 1000 := fun i hi => by
  rcases two_cases hi with rfl | rfl
  · rw [h.s0]; omega
  · rw [h.s1]; exact Nat.zero_le _
theorem InnE.len {less n k : Nat} {S : Nat → Sd} (h : InnE less n k S) (hl : less ≤ 20) : ∀ i, i < 2 → (S i).sent.length ≤ 1000 := fun i hi => by
  rcases two_cases hi with rfl | rfl
  · rw [h.s0]; omega
  · rw [h.s1]; exact Nat.zero_le _
theorem bool_of {w W : World} {A : Option Addr} {l : List Bool} {n : Nat} (hl : Kd.bool.C w A l.length l) (hb : Below w.heap.size w W) (hn : n < l.length) : ∃ ad, A = some ad ∧ W.cell? (ad.add n) = some (.bool (l.getD n false)) := by
  obtain ⟨ad, hA, e⟩ := Kd.at_bool (Kd.C_below hl hb) (n : Int) (by omega) (by omega)
  refine ⟨ad, hA, ?_⟩
  rw [Int.toNat_natCast] at e
  exact e
theorem bool_at {w W : World} {ad : Addr} {l : List Bool} {n : Nat} (hl : Kd.bool.C w (some ad) l.length l) (hb : Below w.heap.size w W) (hn : n < l.length) : W.cell? (ad.add n) = some (.bool (l.getD n false)) := by
  obtain ⟨ad', hA, e⟩ := bool_of hl hb hn
  injection hA with hA
  subst hA
  exact e
set_option maxHeartbeats 16000000 in
theorem linkEnds_is (less : Int) (A : Option Addr) (c : Nat) (l : List Bool) (W : World) (hw : (Lit.int .i64 less).wf = true) (hC : Kd.bool.C W A l.length l) (hc : l.length ≤ c) (g : ∀ y ∈ l, True) (hm : l.length ≤ maxLen) :
    Calls Try.prog 11 #[.int .i64 less, .slice A l.length c] W fun e w' => e = .returned (.bool true) ∧ Below W.heap.size W w' := by
  have HC := Aside0.mk hC
  obtain ⟨a, ha⟩ : ∃ a, a = atN less 21 := ⟨_, rfl⟩
  have ha2 : a < 21 := by rw [ha]; exact (atN_lt less (by decide)).1
  have HAT := Aside0.mk (show caduceuslaw13_at.f less 21 = some (a : Int) by rw [ha]; exact at_f less (m := 21) (by decide) (by decide))
  have HA := Aside0.mk (show a ≤ 20 by omega)
  have a0 : (0 : Int) ≤ (a : Int) := by omega
  have a1 : (a : Int) < 21 := by omega
  clear hC g hm hw ha
  go_enter Try.func11, Try.ntmps11
  go_wp2_with (first
    | ((with_reducible refine gate_dst (N := 12) rfl ?_); refine goesL_ (some 12) rfl rfl Try.func36 (by kernel_rfl) rfl #[.int .i64 less, .int .i64 21] rfl (by first | (simp only [List.map_toArray, List.map_cons, List.map_nil]; rfl) | rfl) ?_; refine (caduceuslaw13_at.calls less 21 a _ HAT.out).mono ?_; rintro e w3 ⟨rfl, hd⟩; have HB3 := Aside0.mk hd.below; clear hd; refine ⟨_, rfl, ?_⟩)
    | ((with_reducible refine gate_dst (N := 15) rfl ?_); refine goesL_ (some 15) rfl rfl Try.func54 (by kernel_rfl) rfl #[.int .i64 (1099511627775 - (a : Int))] rfl (by first | (simp only [List.map_toArray, List.map_cons, List.map_nil]; rfl) | rfl) ?_; refine (fresh_is _ (1099511627775 - (a : Int)) (by omega) (by omega)).mono ?_; rintro e w5 ⟨bx, gN, ga, ma, va, sv, gv, ow, rfl, hp⟩; have HP := Aside0.mk (hp.base HB3.out); clear hp HB3; refine ⟨_, rfl, ?_⟩)
    | ((with_reducible refine gate_dst (N := 16) rfl ?_); refine goesL_ (some 16) rfl rfl Try.func37 (by kernel_rfl) rfl #[] rfl (by simp) ?_; refine (awakeL_is _).mono ?_; rintro e w6 ⟨rfl, hb⟩; have HP6 := Aside0.mk (HP.out.bel hb); clear hb; have pt0 := pair_ptr HP6.out (i := 0) (by decide); have pt1 := pair_ptr HP6.out (i := 1) (by decide); refine ⟨_, rfl, ?_⟩))
  clear pt0 pt1
  have HI6 := Aside0.mk (show EndI a 0 (freshL (1099511627775 - (a : Int))) from ⟨good_fresh _ (by omega) (by omega), by show 0 = _; omega, rfl, Nat.zero_le _⟩)
  clear HP
  go_loopg [6] 40 (fun kq v6 w' => ∃ (n : Nat) (S : Nat → Sd) (va sv gv : Nat → Value) (ow : Nat → Nat), v6 = .int .i64 n ∧ Aside0 (n + kq = 40) ∧ Aside0 (EndI a n S) ∧ Aside0 (PS W w' bx gN ga ma va sv gv ow S))
  case atStart => exact ⟨0, _, _, _, _, _, rfl, ⟨by omega⟩, HI6, HP6⟩
  case round =>
    clear HP6 HI6
    obtain ⟨n, S, va, sv, gv, ow, rfl, HN, HI, HP⟩ := hrel
    cases gk with
    | zero =>
      have hn : n = 40 := by have := HN.out; omega
      subst hn
      have d1 : decide (((40 : Nat) : Int) < 40) = false := by decide
      have HR0 := Aside0.mk (HI.out.rounds HA.out)
      have HP0 := Aside0.mk HP.out
      clear HI HP
      go_wp2
      go_loopg [9] 8 (fun kq v9 w' => ∃ (r : Nat) (S : Nat → Sd) (va sv gv : Nat → Value) (ow : Nat → Nat), v9 = .int .i64 r ∧ Aside0 (r + kq = 8) ∧ Aside0 (RndE a r S) ∧ Aside0 (PS W w' bx gN ga ma va sv gv ow S))
      case atStart => exact ⟨0, _, _, _, _, _, rfl, ⟨rfl⟩, HR0, HP0⟩
      case round =>
        clear HR0 HP0
        obtain ⟨r, S, va, sv, gv, ow, rfl, HQ, HR, HP⟩ := hrel
        cases gk with
        | zero =>
          have hr : r = 8 := by have := HQ.out; omega
          subst hr
          have d5 : decide (((8 : Nat) : Int) < 8) = false := by decide
          have hfin := HR.out.last (by decide)
          obtain ⟨A6, c6, e6⟩ := Kd.R_slice (HP.out.got 1 (by decide))
          rw [hfin.2.1, HR.out.s0] at e6
          have HL0 := Aside0.mk (show (S 0).l.q.length = 0 by rw [hfin.1]; rfl)
          have HL1 := Aside0.mk hfin.2.2
          have x6 : wr.cell? ⟨bx, 6, none⟩ = some (.slice A6 a c6) := by have h := (blk_cell HP.out.box 6).trans (show (pairC gN ga sv gv)[6]? = some (gv 1) from rfl); rw [e6] at h; exact h
          have pt1 := pair_ptr HP.out (i := 1) (by decide)
          clear hfin e6
          go_wp2_with (first
            | ((with_reducible refine gate_dst (N := 147) rfl ?_); refine gate_guard (by rfl) ?_; dsimp only; refine goesL_ (some 147) rfl rfl Try.func52 (by kernel_rfl) rfl #[ptr (ga 1)] rfl (by first | (simp only [List.map_toArray, List.map_cons, List.map_nil]; rfl) | rfl) ?_; refine (wants_is (HP.out.lk 1 (by decide))).mono ?_; rintro e W3 ⟨rfl, hb⟩; rw [HL1.out]; have HP3 := Aside0.mk (HP.out.bel hb); clear hb pt1 x6; have pt0 := pair_ptr HP3.out (i := 0) (by decide); refine ⟨_, rfl, ?_⟩)
            | ((with_reducible refine gate_dst (N := 156) rfl ?_); refine gate_guard (by rfl) ?_; dsimp only; refine goesL_ (some 156) rfl rfl Try.func40 (by kernel_rfl) rfl #[ptr (ga 0)] rfl (by first | (simp only [List.map_toArray, List.map_cons, List.map_nil]; rfl) | rfl) ?_; refine (left_is (HP3.out.lk 0 (by decide))).mono ?_; rintro e W4 ⟨rfl, hb⟩; rw [HL0.out]; have HP4 := Aside0.mk (HP3.out.bel hb); clear hb pt0; refine ⟨_, rfl, ?_⟩))
          go_ret
          exact ⟨rfl, HP4.out.below⟩
        | succ k1 =>
          have hr : r < 8 := by have := HQ.out; omega
          have d5 : decide ((r : Int) < 8) = true := decide_eq_true (by omega)
          have HI1 := Aside0.mk (HR.out.ticks HA.out)
          have HBA := Aside0.mk ((HR.out.good.inv.at (i := 0) (by decide)).bd).1
          have HFA := Aside0.mk (fun q hq => HR.out.good.from (i := 0) (by decide) (tick_pk (HR.out.good.inv.at (i := 0) (by decide)) q hq))
          have HCA := Aside0.mk HR.out.good.inv.cap
          have pt0 := pair_ptr HP.out (i := 0) (by decide)
          go_wp2_with (first
            | ((with_reducible refine gate_dst (N := 111) rfl ?_); refine goesL_ (some 111) rfl rfl Try.func50 (by kernel_rfl) rfl #[ptr (ga 0)] rfl (by first | (simp only [List.map_toArray, List.map_cons, List.map_nil]; rfl) | rfl) ?_; refine (tick_is (HP.out.lk 0 (by decide)) HBA.out).mono ?_; rintro e W5 ⟨o, rfl, ho, hb⟩; obtain ⟨Ao, co, rfl, hro⟩ := RowP.of_R ho; have HP5 := Aside0.mk (HP.out.bel hb); have HO5 := Aside0.mk (hro.mono (ok' := fun k => ow k ≠ 3) (fun k hk => by rw [HP.out.new k hk.2.1]; decide)); clear ho hb hro pt0; refine ⟨_, rfl, ?_⟩)
            | ((with_reducible refine gate_dst (N := 112) rfl ?_); refine goesL_ (some 112) rfl rfl Try.func55 (by kernel_rfl) rfl #[ptr bx, .slice Ao (outs (S 0).l 0 (S 0).l.out).length co] rfl (by first | (simp only [List.map_toArray, List.map_cons, List.map_nil]; rfl) | rfl) ?_; refine (out_is HP5.out (i := 0) (by decide) HO5.out HFA.out HCA.out (by rw [outs_len]; have := HBA.out.o8; omega)).mono ?_; rintro e W6 ⟨rfl, ow6, hp6⟩; have HP6 := Aside0.mk (show PS W W6 bx gN ga ma va sv gv ow6 (tickS S 0) from hp6); clear hp6; refine ⟨_, rfl, ?_⟩))
          go_loopg [10] 200 (fun kq v10 w' => ∃ (k : Nat) (S : Nat → Sd) (va sv gv : Nat → Value) (ow : Nat → Nat), v10 = .int .i64 k ∧ Aside0 (k + kq = 200) ∧ Aside0 (InnE a r k S) ∧ Aside0 (PS W w' bx gN ga ma va sv gv ow S))
          case atStart => exact ⟨0, _, _, _, _, _, rfl, ⟨rfl⟩, HI1, HP6⟩
          case round =>
            clear HP6 HI1 HP HR HBA HFA HCA HP5 HO5
            obtain ⟨k, S, va, sv, gv, ow, rfl, HK, HI, HP⟩ := hrel
            cases gk with
            | zero =>
              have hk : k = 200 := by have := HK.out; omega
              subst hk
              have d6 : decide (((200 : Nat) : Int) < 200) = false := by decide
              go_wp2
              go_roundg k1
              case measure => omega
              case rel => exact ⟨r + 1, S, va, sv, gv, ow, by first | rfl | (simp; done) | (simp; unfold wrap64; omega), ⟨by have := HQ.out; omega⟩, ⟨HI.out.next (.inl rfl)⟩, HP⟩
            | succ k2 =>
              have hk : k < 200 := by have := HK.out; omega
              have d6 : decide ((k : Int) < 200) = true := decide_eq_true (by omega)
              have hcn : cnt (qOf (S 0).row (S 1).row) = LK.tot S := qOf_cnt _ _
              have HCN := Aside0.mk hcn
              have HCC := Aside0.mk (show cnt (qOf (S 0).row (S 1).row) ≤ 1000 by rw [hcn]; have := HI.out.good.inv.cap; unfold LK.tot; omega)
              have b2 : wr.cell? ⟨bx, 2, none⟩ = some (ptr gN) := (blk_cell HP.out.box 2).trans rfl
              clear hcn
              by_cases hz : LK.tot S = 0
              · have HZ := Aside0.mk hz
                have d7 : decide ((0 : Int) < (LK.tot S : Int)) = false := decide_eq_false (by omega)
                have d8 : decide (0 < LK.tot S) = false := decide_eq_false (by omega)
                clear hz
                go_wp2_with (first
                  | ((with_reducible refine gate_dst (N := 120) rfl ?_); refine gate_guard (by rfl) ?_; dsimp only; refine goesL_ (some 120) rfl rfl Try.func21 (by kernel_rfl) rfl #[ptr gN] rfl (by first | (simp only [List.map_toArray, List.map_cons, List.map_nil]; rfl) | rfl) ?_; refine (count_net HP.out.net HCC.out).mono ?_; rintro e W9 ⟨rfl, hb⟩; rw [HCN.out]; have HP9 := Aside0.mk (HP.out.bel hb); clear hb b2; refine ⟨_, rfl, ?_⟩))
                go_roundg k1
                case measure => omega
                case rel => exact ⟨r + 1, S, va, sv, gv, ow, by first | rfl | (simp; done) | (simp; unfold wrap64; omega), ⟨by have := HQ.out; omega⟩, ⟨HI.out.next (.inr HZ.out)⟩, HP9⟩
              · have HZ := Aside0.mk hz
                have d7 : decide ((0 : Int) < (LK.tot S : Int)) = true := decide_eq_true (by omega)
                have d8 : decide (0 < LK.tot S) = true := decide_eq_true (by omega)
                have HS0 := Aside0.mk (HI.out.len HA.out)
                clear hz
                go_wp2_with (first
                  | ((with_reducible refine gate_dst (N := 120) rfl ?_); refine gate_guard (by rfl) ?_; dsimp only; refine goesL_ (some 120) rfl rfl Try.func21 (by kernel_rfl) rfl #[ptr gN] rfl (by first | (simp only [List.map_toArray, List.map_cons, List.map_nil]; rfl) | rfl) ?_; refine (count_net HP.out.net HCC.out).mono ?_; rintro e W9 ⟨rfl, hb⟩; rw [HCN.out]; have HP9 := Aside0.mk (HP.out.bel hb); clear hb b2; refine ⟨_, rfl, ?_⟩)
                  | ((with_reducible refine gate_dst (N := 126) rfl ?_); refine goesL_ (some 126) rfl rfl Try.func56 (by kernel_rfl) rfl #[ptr bx, .int .i64 0, .int .i64 0] rfl (by first | (simp only [List.map_toArray, List.map_cons, List.map_nil]; rfl) | rfl) ?_; refine (come_a HP9.out HI.out.good HS0.out).mono ?_; rintro e W10 ⟨rfl, va1, gv1, ow1, hp⟩; have HP10 := Aside0.mk hp; clear hp; refine ⟨_, rfl, ?_⟩)
                  | ((with_reducible refine gate_dst (N := 130) rfl ?_); refine gate_guard (by rfl) ?_; dsimp only; refine goesL_ (some 130) rfl rfl Try.func56 (by kernel_rfl) rfl #[ptr bx, .int .i64 1, .int .i64 0] rfl (by first | (simp only [List.map_toArray, List.map_cons, List.map_nil]; rfl) | rfl) ?_; refine (come_b HP10.out (HI.out.good.come (i := 0) (by decide) 0) (fun i hi => by rw [comeS_sent]; exact HS0.out i hi)).mono ?_; rintro e W11 ⟨rfl, va2, gv2, ow2, hp⟩; have HP11 := Aside0.mk (show PS W W11 bx gN ga ma va2 sv gv2 ow2 (com2 S) from hp); clear hp; refine ⟨_, rfl, ?_⟩))
                go_roundg k2
                case measure => omega
                case rel => exact ⟨k + 1, com2 S, _, _, _, _, by first | rfl | (simp; done) | (simp; unfold wrap64; omega), ⟨by have := HK.out; omega⟩, ⟨HI.out.come HZ.out⟩, HP11⟩
    | succ k1 =>
      have hn : n < 40 := by have := HN.out; omega
      have d1 : decide ((n : Int) < 40) = true := decide_eq_true (by omega)
      have i0 : (0 : Int) ≤ (n : Int) := by omega
      have i1 : (n : Int) < 40 := by omega
      have HBA := Aside0.mk ((HI.out.good.inv.at (i := 0) (by decide)).bd).1
      have HL8 := Aside0.mk (sdP_len (S 0).l sX)
      have HFR := Aside0.mk (fun q hq => HI.out.good.from (i := 0) (by decide) (send_pk (HI.out.good.inv.at (i := 0) (by decide)) sX q hq))
      have HCN := Aside0.mk ((HI.out.good.sendN (i := 0) (by decide) sX).inv.cap)
      have pt0 := pair_ptr HP.out (i := 0) (by decide)
      by_cases ht : n < a
      · have d2 : decide ((n : Int) < (a : Int)) = true := decide_eq_true (by omega)
        have HE := Aside0.mk (show sdE (S 0).l sX = 0 by rw [HI.out.err HA.out, if_pos ht])
        have g2 : n < a := ht
        clear ht
        go_wp2_with (first
          | ((with_reducible refine gate_dst (N := 44) rfl ?_); refine goesL_ (some 44) rfl rfl Try.func38 (by kernel_rfl) rfl #[ptr (ga 0), .string ⟨#[120]⟩] rfl (by first | (simp only [List.map_toArray, List.map_cons, List.map_nil]; rfl) | rfl) ?_; refine (LK.send_is (HP.out.lk 0 (by decide)) HBA.out sX (by decide)).mono ?_; rintro e W5 ⟨o, v', rfl, ho, st⟩; rw [HE.out]; obtain ⟨Ao, co, rfl, hro⟩ := RowP.of_R ho; have HP5 := Aside0.mk (HP.out.linkAct (by decide) st); have HO5 := Aside0.mk (hro.mono (ok' := fun k => tg ow wr W5 (1 + 0) k = 1 + 0) (fun k hk => tg_new hk.2.1 hk.2.2)); clear ho st hro pt0; refine ⟨_, rfl, ?_⟩))
        have HP5d := Aside0.mk HP5.out.drew
        have HO5d := Aside0.mk (HO5.out.below (below_drew1 (Below.refl _ _)))
        have HSD := Aside0.mk (show sdS (S 0) sX = { S 0 with l := sdL (S 0).l sX, sent := (S 0).sent ++ [sX] } by unfold sdS; rw [if_pos HE.out])
        have a3 : W5.drew.cell? ⟨bx, 3, none⟩ = some (sv 0) := pair_sent HP5d.out.box (i := 0) (by decide)
        have a4 : W5.drew.cell? ⟨bx, 0, none⟩ = some (ptr (ga 0)) := pair_ptr HP5d.out (i := 0) (by decide)
        refine start_ (n := 12) (S := fun w' => w'.cell? ⟨bx, 3, none⟩ = some (sv 0) ∧ w'.cell? ⟨bx, 0, none⟩ = some (ptr (ga 0))) (ds := [11]) #[false, false, false, false, false, false, false, false, false, false, false, false] (by kernel_rfl) rfl rfl ⟨a3, a4⟩ (fun hHeld => ?_)
        refine pure_ (i := 0) (N := some 63) (v := ?_) (a' := ?_) #[true, false, false, false, false, false, false, false, false, false, false, false] rfl rfl (by kernel_rfl) (fun _ _ _ h => h) (Or.inl ⟨by rfl, ?_⟩) ?_ ?_
        rotate_left
        · intro w'; go_simp; with_reducible rfl
        rotate_left
        · simp only [Act.put, List.setIfInBounds_toArray, List.set_cons_zero, List.set_cons_succ, i64_w, i32_w]; rfl
        refine pure_ (i := 1) (N := some 64) (v := ?_) (a' := ?_) #[true, true, false, false, false, false, false, false, false, false, false, false] rfl rfl (by kernel_rfl) (fun _ _ _ h => h) (Or.inl ⟨by rfl, ?_⟩) ?_ ?_
        rotate_left
        · intro w'; go_simp; with_reducible rfl
        rotate_left
        · simp only [Act.put, List.setIfInBounds_toArray, List.set_cons_zero, List.set_cons_succ, i64_w, i32_w]; rfl
        refine pure_ (i := 2) (N := some 65) (v := ?_) (a' := ?_) #[true, true, true, false, false, false, false, false, false, false, false, false] rfl rfl (by kernel_rfl) (fun _ _ _ h => h) (Or.inl ⟨by rfl, ?_⟩) ?_ ?_
        rotate_left
        · intro w'; go_simp; with_reducible rfl
        rotate_left
        · simp only [Act.put, List.setIfInBounds_toArray, List.set_cons_zero, List.set_cons_succ, i64_w, i32_w]; rfl
        refine pure_ (i := 3) (N := some 66) (v := ?_) (a' := ?_) #[true, true, true, true, false, false, false, false, false, false, false, false] rfl rfl (by kernel_rfl) (fun _ _ _ h => h) (Or.inl ⟨by rfl, ?_⟩) ?_ ?_
        rotate_left
        · intro w'; go_simp; with_reducible rfl
        rotate_left
        · simp only [Act.put, List.setIfInBounds_toArray, List.set_cons_zero, List.set_cons_succ, i64_w, i32_w]; rfl
        refine pure_ (i := 4) (N := some 67) (v := ?_) (a' := ?_) #[true, true, true, true, true, false, false, false, false, false, false, false] rfl rfl (by kernel_rfl) (fun _ _ _ h => h) (Or.inl ⟨by rfl, ?_⟩) ?_ ?_
        rotate_left
        · intro w'; go_simp; with_reducible rfl
        rotate_left
        · simp only [Act.put, List.setIfInBounds_toArray, List.set_cons_zero, List.set_cons_succ, i64_w, i32_w]; rfl
        refine take_ (i := 5) (N := some 68) (v := ?_) (a' := ?_) #[true, true, true, true, true, true, false, false, false, false, false, false] rfl rfl (by kernel_rfl) (fun _ _ _ h => h) (Or.inl ⟨by rfl, ?_⟩) hHeld ?_ ?_
        rotate_left
        · rintro w' ⟨s0, s1⟩; go_simp; with_reducible rfl
        rotate_left
        · simp only [Act.put, List.setIfInBounds_toArray, List.set_cons_zero, List.set_cons_succ, i64_w, i32_w]; rfl
        refine pure_ (i := 8) (N := some 71) (v := ?_) (a' := ?_) #[true, true, true, true, true, true, false, false, true, false, false, false] rfl rfl (by kernel_rfl) (fun _ _ _ h => h) (Or.inl ⟨by rfl, ?_⟩) ?_ ?_
        rotate_left
        · intro w'; go_simp; with_reducible rfl
        rotate_left
        · simp only [Act.put, List.setIfInBounds_toArray, List.set_cons_zero, List.set_cons_succ, i64_w, i32_w]; rfl
        refine pure_ (i := 9) (N := some 72) (v := ?_) (a' := ?_) #[true, true, true, true, true, true, false, false, true, true, false, false] rfl rfl (by kernel_rfl) (fun _ _ _ h => h) (Or.inl ⟨by rfl, ?_⟩) ?_ ?_
        rotate_left
        · intro w'; go_simp; with_reducible rfl
        rotate_left
        · simp only [Act.put, List.setIfInBounds_toArray, List.set_cons_zero, List.set_cons_succ, i64_w, i32_w]; rfl
        clear a3 a4
        clear HP5 HO5
        generalize hwd : W5.drew = W5d at *
        refine one_ (i := 6) (N := some 69) #[true, true, true, true, true, true, true, false, true, true, false, false] rfl rfl (by kernel_rfl) (by decide) (fun K hK => ?_)
        refine event_step (v := .slice (some ⟨W5d.heap.size, 0, none⟩) 1 1) (w1 := W5d.alloc (.cells #[.string ⟨#[120]⟩] 9 (0, 0))) (by rfl) (by first | (go_simp; done) | (go_simp; rfl)) ?_
        have a3 : (W5d.alloc (.cells #[.string ⟨#[120]⟩] 9 (0, 0))).cell? ⟨bx, 3, none⟩ = some (sv 0) := pair_sent (HP5d.out.alloc (.cells #[.string ⟨#[120]⟩] 9 (0, 0))).box (i := 0) (by decide)
        have a4 : (W5d.alloc (.cells #[.string ⟨#[120]⟩] 9 (0, 0))).cell? ⟨bx, 0, none⟩ = some (ptr (ga 0)) := pair_ptr (HP5d.out.alloc (.cells #[.string ⟨#[120]⟩] 9 (0, 0))) (i := 0) (by decide)
        refine hK.out _ _ ⟨a3, a4⟩ (fun hHeld => ?_)
        clear hK K a3 a4
        refine norm_ (a' := ?_) ?_ ?_
        rotate_left
        · show Act.put _ (some 69) _ = _
          simp only [Act.put, List.setIfInBounds_toArray, List.set_cons_zero, List.set_cons_succ, i64_w, i32_w]
          rfl
        refine one_ (i := 7) (N := some 70) #[true, true, true, true, true, true, true, true, true, true, false, false] rfl rfl (by kernel_rfl) (by decide) (fun K hK => ?_)
        refine Kd.R_append_step Kd.string (w0 := W5d) 0 (by rfl) (.tmp 68) (.tmp 69) 73 9 (.string ⟨#[]⟩) 16 rfl Try.underlying73 info9 rfl (by decide) (by omega) (sv 0) (S 0).sent sX [.string sX] (fun k => tg ow wr W5 (1 + 0) k = 4 + 0 ∨ W5d.heap.size ≤ k) (fun _ => False) rfl rfl rfl (fun _ hk => hk.elim) (fun _ h => .inr h) (Kd.R_mono (by have h := HP5d.out.sent 0 (by decide); rw [upd_same] at h; exact h) (fun _ h => .inl h)) (Below.refl 0 W5d) (Nat.zero_le _) (by have := HI.out.len HA.out 0 (by decide); omega) ?_
        intro v1 W7 hr7 _ hg7 _
        have hsa := HP5d.out.sentAct (i := 0) (by decide) hr7 hg7
        have HO7 := Aside0.mk (RowP.sent (i := 0) (v1 := v1) HP5d.out (by decide) HO5d.out hg7)
        have HP7 := Aside0.mk hsa.1
        have HB7 := Aside0.mk hsa.2
        obtain ⟨A1, c1, rfl⟩ := Kd.R_slice hr7
        clear hsa hr7 hg7
        have a3 : W7.cell? ⟨bx, 3, none⟩ = some (sv 0) := pair_sent HB7.out (i := 0) (by decide)
        have a4 : W7.cell? ⟨bx, 0, none⟩ = some (ptr (ga 0)) := (blk_cell HB7.out 0).trans rfl
        refine hK.out _ _ ⟨a3, a4⟩ (fun hHeld => ?_)
        clear hK K
        refine norm_ (a' := ?_) ?_ ?_
        rotate_left
        · show Act.put _ (some 70) _ = _
          simp only [Act.put, List.setIfInBounds_toArray, List.set_cons_zero, List.set_cons_succ, i64_w, i32_w]
          rfl
        refine pure_ (i := 10) (N := some 73) (v := ?_) (a' := ?_) #[true, true, true, true, true, true, true, true, true, true, true, false] rfl rfl (by kernel_rfl) (fun _ _ _ h => h) (Or.inl ⟨by rfl, ?_⟩) ?_ ?_
        rotate_left
        · intro w'; go_simp; with_reducible rfl
        rotate_left
        · simp only [Act.put, List.setIfInBounds_toArray, List.set_cons_zero, List.set_cons_succ, i64_w, i32_w]; rfl
        refine last_ (i := 11) (N := none) #[true, true, true, true, true, true, true, true, true, true, true, true] rfl rfl (by kernel_rfl) (by decide) (fun K hK => ?_)
        have hf7 : W7.frozen? ⟨bx, 3, none⟩ = false := blk_frozen HB7.out 3
        refine skip_ (w1 := ?_) (by rfl) rfl ?_ ?_
        rotate_left
        · go_simp
          rfl
        refine hK.out _ _ ?_
        clear hK K
        refine done_ (by kernel_rfl) ?_
        have hln : ((S 0).sent ++ [sX]).length = (S 0).sent.length + 1 := by simp
        rw [hln] at HP7 HO7
        obtain ⟨W8, hW8⟩ : ∃ W8, W8 = W7.setCell ⟨bx, 3, none⟩ (.slice A1 ((S 0).sent.length + 1) c1) := ⟨_, rfl⟩
        have HP8 := Aside0.mk (show PS W W8 bx gN ga ma (upd va 0 v') (upd sv 0 (.slice A1 ((S 0).sent.length + 1) c1)) gv (tg (tg ow wr W5 (1 + 0)) W5d W7 (4 + 0)) (sendN S 0 sX) by have h := HP7.out; rw [upd_upd, upd_same] at h; unfold sendN; rw [HSD.out, hW8]; exact h)
        have HO8 := Aside0.mk (show RowP W8 (fun k => tg (tg ow wr W5 (1 + 0)) W5d W7 (4 + 0) k ≠ 3) Ao co (sdP (S 0).l sX) by rw [hW8]; exact HO7.out)
        rw [← hW8]
        clear HP7 HO7 HP5d HO5d HB7 hf7 hln hwd hW8 a3 a4
        generalize hsv8 : upd sv 0 (.slice A1 ((S 0).sent.length + 1) c1) = sv8 at *
        generalize hva8 : upd va 0 v' = va8 at *
        generalize how8 : tg (tg ow wr W5 (1 + 0)) W5d W7 (4 + 0) = ow8 at *
        clear hsv8 hva8 how8 HP HSD
        by_cases h5 : l.length ≤ n
        · have d5 : decide ((l.length : Int) ≤ (n : Int)) = true := decide_eq_true (by omega)
          have d5n : decide (l.length ≤ n) = true := decide_eq_true (by omega)
          have g5 : l.length ≤ n := h5
          clear h5
          go_wp2_with (first
            | ((with_reducible refine gate_dst (N := 87) rfl ?_); refine goesL_ (some 87) rfl rfl Try.func55 (by kernel_rfl) rfl #[ptr bx, .slice Ao (sdP (S 0).l sX).length co] rfl (by first | (simp only [List.map_toArray, List.map_cons, List.map_nil]; rfl) | rfl) ?_; refine (out_is HP8.out (i := 0) (by decide) HO8.out HFR.out HCN.out (by have := HL8.out; omega)).mono ?_; rintro e W9 ⟨rfl, ow9, hp9⟩; have HP9 := Aside0.mk hp9; clear hp9; have HI9 := Aside0.mk (HI.out.send HA.out); refine ⟨_, rfl, ?_⟩)
            | ((with_reducible refine gate_dst (N := 89) rfl ?_); refine goesL_ (some 89) rfl rfl Try.func56 (by kernel_rfl) rfl #[ptr bx, .int .i64 1, .int .i64 0] rfl (by first | (simp only [List.map_toArray, List.map_cons, List.map_nil]; rfl) | rfl) ?_; refine (come_b HP9.out HI9.out.good (HI9.out.len HA.out)).mono ?_; rintro e W10 ⟨rfl, va1, gv1, ow1, hp⟩; have HP10 := Aside0.mk hp; clear hp; have HI10 := Aside0.mk HI9.out.come1; refine ⟨_, rfl, ?_⟩)
            | ((with_reducible refine gate_dst (N := 93) rfl ?_); refine gate_guard (by rfl) ?_; dsimp only; refine goesL_ (some 93) rfl rfl Try.func56 (by kernel_rfl) rfl #[ptr bx, .int .i64 0, .int .i64 0] rfl (by first | (simp only [List.map_toArray, List.map_cons, List.map_nil]; rfl) | rfl) ?_; refine (come_a HP10.out HI10.out.good (HI10.out.len HA.out)).mono ?_; rintro e W11 ⟨rfl, va2, gv2, ow2, hp⟩; have HP11 := Aside0.mk hp; clear hp; have HI11 := Aside0.mk HI10.out.come0; refine ⟨_, rfl, ?_⟩)
            | ((with_reducible refine gate_dst (N := 98) rfl ?_); refine gate_guard (by rfl) ?_; dsimp only; refine goesL_ (some 98) rfl rfl Try.func57 (by kernel_rfl) rfl #[ptr bx] rfl (by first | (simp only [List.map_toArray, List.map_cons, List.map_nil]; rfl) | rfl) ?_; refine (right_is HP11.out HI11.out.good (HI11.out.len HA.out)).mono ?_; rintro e W12 ⟨rfl, hp⟩; have HP12 := Aside0.mk hp; clear hp; refine ⟨_, rfl, ?_⟩))
          go_roundg k1
          case measure => omega
          case rel => exact ⟨n + 1, _, _, _, _, _, by first | rfl | (simp; done) | (simp; unfold wrap64; omega), ⟨by have := HN.out; omega⟩, HI11, HP12⟩
        · have d5 : decide ((l.length : Int) ≤ (n : Int)) = false := decide_eq_false (by omega)
          have d5n : decide (l.length ≤ n) = false := decide_eq_false (by omega)
          have H5 := Aside0.mk (show n < l.length by omega)
          have g5 : n < l.length := by omega
          have j1 : (n : Int) < (l.length : Int) := by omega
          clear h5
          obtain ⟨ad, hA, _⟩ := bool_of HC.out (Below.refl _ _) H5.out
          subst hA
          have e5 := bool_at HC.out HP8.out.below H5.out
          obtain ⟨b, hb⟩ : ∃ b, l.getD n false = b := ⟨_, rfl⟩
          rw [hb] at e5
          have HBV := Aside0.mk hb
          clear hb
          cases b with
          | false =>
            go_wp2_with (first
              | ((with_reducible refine gate_dst (N := 87) rfl ?_); refine goesL_ (some 87) rfl rfl Try.func55 (by kernel_rfl) rfl #[ptr bx, .slice Ao (sdP (S 0).l sX).length co] rfl (by first | (simp only [List.map_toArray, List.map_cons, List.map_nil]; rfl) | rfl) ?_; refine (out_is HP8.out (i := 0) (by decide) HO8.out HFR.out HCN.out (by have := HL8.out; omega)).mono ?_; rintro e W9 ⟨rfl, ow9, hp9⟩; have HP9 := Aside0.mk hp9; clear hp9; have HI9 := Aside0.mk (HI.out.send HA.out); refine ⟨_, rfl, ?_⟩)
              | ((with_reducible refine gate_dst (N := 89) rfl ?_); refine goesL_ (some 89) rfl rfl Try.func56 (by kernel_rfl) rfl #[ptr bx, .int .i64 1, .int .i64 0] rfl (by first | (simp only [List.map_toArray, List.map_cons, List.map_nil]; rfl) | rfl) ?_; refine (come_b HP9.out HI9.out.good (HI9.out.len HA.out)).mono ?_; rintro e W10 ⟨rfl, va1, gv1, ow1, hp⟩; have HP10 := Aside0.mk hp; clear hp; have HI10 := Aside0.mk HI9.out.come1; refine ⟨_, rfl, ?_⟩)
              | ((with_reducible refine gate_dst (N := 93) rfl ?_); refine gate_guard (by rfl) ?_; dsimp only; refine goesL_ (some 93) rfl rfl Try.func56 (by kernel_rfl) rfl #[ptr bx, .int .i64 0, .int .i64 0] rfl (by first | (simp only [List.map_toArray, List.map_cons, List.map_nil]; rfl) | rfl) ?_; refine (come_a HP10.out HI10.out.good (HI10.out.len HA.out)).mono ?_; rintro e W11 ⟨rfl, va2, gv2, ow2, hp⟩; have HP11 := Aside0.mk hp; clear hp; have HI11 := Aside0.mk HI10.out.come0; refine ⟨_, rfl, ?_⟩)
              | ((with_reducible refine gate_dst (N := 98) rfl ?_); refine gate_guard (by rfl) ?_; dsimp only; refine goesL_ (some 98) rfl rfl Try.func57 (by kernel_rfl) rfl #[ptr bx] rfl (by first | (simp only [List.map_toArray, List.map_cons, List.map_nil]; rfl) | rfl) ?_; refine (right_is HP11.out HI11.out.good (HI11.out.len HA.out)).mono ?_; rintro e W12 ⟨rfl, hp⟩; have HP12 := Aside0.mk hp; clear hp; refine ⟨_, rfl, ?_⟩))
            go_roundg k1
            case measure => omega
            case rel => exact ⟨n + 1, _, _, _, _, _, by first | rfl | (simp; done) | (simp; unfold wrap64; omega), ⟨by have := HN.out; omega⟩, HI11, HP12⟩
          | true =>
            have HI9 := Aside0.mk (HI.out.lost HA.out)
            go_wp2_with (first
              | ((with_reducible refine gate_dst (N := 89) rfl ?_); refine goesL_ (some 89) rfl rfl Try.func56 (by kernel_rfl) rfl #[ptr bx, .int .i64 1, .int .i64 0] rfl (by first | (simp only [List.map_toArray, List.map_cons, List.map_nil]; rfl) | rfl) ?_; refine (come_b HP8.out HI9.out.good (HI9.out.len HA.out)).mono ?_; rintro e W10 ⟨rfl, va1, gv1, ow1, hp⟩; have HP10 := Aside0.mk hp; clear hp; have HI10 := Aside0.mk HI9.out.come1; refine ⟨_, rfl, ?_⟩)
              | ((with_reducible refine gate_dst (N := 93) rfl ?_); refine gate_guard (by rfl) ?_; dsimp only; refine goesL_ (some 93) rfl rfl Try.func56 (by kernel_rfl) rfl #[ptr bx, .int .i64 0, .int .i64 0] rfl (by first | (simp only [List.map_toArray, List.map_cons, List.map_nil]; rfl) | rfl) ?_; refine (come_a HP10.out HI10.out.good (HI10.out.len HA.out)).mono ?_; rintro e W11 ⟨rfl, va2, gv2, ow2, hp⟩; have HP11 := Aside0.mk hp; clear hp; have HI11 := Aside0.mk HI10.out.come0; refine ⟨_, rfl, ?_⟩)
              | ((with_reducible refine gate_dst (N := 98) rfl ?_); refine gate_guard (by rfl) ?_; dsimp only; refine goesL_ (some 98) rfl rfl Try.func57 (by kernel_rfl) rfl #[ptr bx] rfl (by first | (simp only [List.map_toArray, List.map_cons, List.map_nil]; rfl) | rfl) ?_; refine (right_is HP11.out HI11.out.good (HI11.out.len HA.out)).mono ?_; rintro e W12 ⟨rfl, hp⟩; have HP12 := Aside0.mk hp; clear hp; refine ⟨_, rfl, ?_⟩))
            go_roundg k1
            case measure => omega
            case rel => exact ⟨n + 1, _, _, _, _, _, by first | rfl | (simp; done) | (simp; unfold wrap64; omega), ⟨by have := HN.out; omega⟩, HI11, HP12⟩
      · have d2 : decide ((n : Int) < (a : Int)) = false := decide_eq_false (by omega)
        have HE := Aside0.mk (show sdE (S 0).l sX = 13 by rw [HI.out.err HA.out, if_neg ht])
        have g2 : a ≤ n := by omega
        clear ht
        have HSD := Aside0.mk (show sdS (S 0) sX = { S 0 with l := sdL (S 0).l sX } by unfold sdS; rw [if_neg (by rw [HE.out]; decide)])
        by_cases h5 : l.length ≤ n
        · have d5 : decide ((l.length : Int) ≤ (n : Int)) = true := decide_eq_true (by omega)
          have d5n : decide (l.length ≤ n) = true := decide_eq_true (by omega)
          have g5 : l.length ≤ n := h5
          clear h5
          go_wp2_with (first
            | ((with_reducible refine gate_dst (N := 44) rfl ?_); refine goesL_ (some 44) rfl rfl Try.func38 (by kernel_rfl) rfl #[ptr (ga 0), .string ⟨#[120]⟩] rfl (by first | (simp only [List.map_toArray, List.map_cons, List.map_nil]; rfl) | rfl) ?_; refine (LK.send_is (HP.out.lk 0 (by decide)) HBA.out sX (by decide)).mono ?_; rintro e W5 ⟨o, v', rfl, ho, st⟩; rw [HE.out]; obtain ⟨Ao, co, rfl, hro⟩ := RowP.of_R ho; have HP8 := Aside0.mk (show PS W W5 bx gN ga ma (upd va 0 v') sv gv (tg ow wr W5 (1 + 0)) (sendN S 0 sX) by have h := HP.out.linkAct (i := 0) (by decide) st; unfold sendN; rw [HSD.out]; exact h); have HO8 := Aside0.mk (hro.mono (ok' := fun k => tg ow wr W5 (1 + 0) k ≠ 3) (fun k hk => by rw [tg_new hk.2.1 hk.2.2]; decide)); clear ho st hro pt0; refine ⟨_, rfl, ?_⟩)
            | ((with_reducible refine gate_dst (N := 87) rfl ?_); refine goesL_ (some 87) rfl rfl Try.func55 (by kernel_rfl) rfl #[ptr bx, .slice Ao (sdP (S 0).l sX).length co] rfl (by first | (simp only [List.map_toArray, List.map_cons, List.map_nil]; rfl) | rfl) ?_; refine (out_is HP8.out (i := 0) (by decide) HO8.out HFR.out HCN.out (by have := HL8.out; omega)).mono ?_; rintro e W9 ⟨rfl, ow9, hp9⟩; have HP9 := Aside0.mk hp9; clear hp9; have HI9 := Aside0.mk (HI.out.send HA.out); refine ⟨_, rfl, ?_⟩)
            | ((with_reducible refine gate_dst (N := 89) rfl ?_); refine goesL_ (some 89) rfl rfl Try.func56 (by kernel_rfl) rfl #[ptr bx, .int .i64 1, .int .i64 0] rfl (by first | (simp only [List.map_toArray, List.map_cons, List.map_nil]; rfl) | rfl) ?_; refine (come_b HP9.out HI9.out.good (HI9.out.len HA.out)).mono ?_; rintro e W10 ⟨rfl, va1, gv1, ow1, hp⟩; have HP10 := Aside0.mk hp; clear hp; have HI10 := Aside0.mk HI9.out.come1; refine ⟨_, rfl, ?_⟩)
            | ((with_reducible refine gate_dst (N := 93) rfl ?_); refine gate_guard (by rfl) ?_; dsimp only; refine goesL_ (some 93) rfl rfl Try.func56 (by kernel_rfl) rfl #[ptr bx, .int .i64 0, .int .i64 0] rfl (by first | (simp only [List.map_toArray, List.map_cons, List.map_nil]; rfl) | rfl) ?_; refine (come_a HP10.out HI10.out.good (HI10.out.len HA.out)).mono ?_; rintro e W11 ⟨rfl, va2, gv2, ow2, hp⟩; have HP11 := Aside0.mk hp; clear hp; have HI11 := Aside0.mk HI10.out.come0; refine ⟨_, rfl, ?_⟩)
            | ((with_reducible refine gate_dst (N := 98) rfl ?_); refine gate_guard (by rfl) ?_; dsimp only; refine goesL_ (some 98) rfl rfl Try.func57 (by kernel_rfl) rfl #[ptr bx] rfl (by first | (simp only [List.map_toArray, List.map_cons, List.map_nil]; rfl) | rfl) ?_; refine (right_is HP11.out HI11.out.good (HI11.out.len HA.out)).mono ?_; rintro e W12 ⟨rfl, hp⟩; have HP12 := Aside0.mk hp; clear hp; refine ⟨_, rfl, ?_⟩))
          go_roundg k1
          case measure => omega
          case rel => exact ⟨n + 1, _, _, _, _, _, by first | rfl | (simp; done) | (simp; unfold wrap64; omega), ⟨by have := HN.out; omega⟩, HI11, HP12⟩
        · have d5 : decide ((l.length : Int) ≤ (n : Int)) = false := decide_eq_false (by omega)
          have d5n : decide (l.length ≤ n) = false := decide_eq_false (by omega)
          have H5 := Aside0.mk (show n < l.length by omega)
          have g5 : n < l.length := by omega
          have j1 : (n : Int) < (l.length : Int) := by omega
          clear h5
          obtain ⟨ad, hA, _⟩ := bool_of HC.out (Below.refl _ _) H5.out
          subst hA
          obtain ⟨b, hb⟩ : ∃ b, l.getD n false = b := ⟨_, rfl⟩
          have HBV := Aside0.mk hb
          clear hb
          cases b with
          | false =>
            go_wp2_with (first
              | ((with_reducible refine gate_dst (N := 44) rfl ?_); refine goesL_ (some 44) rfl rfl Try.func38 (by kernel_rfl) rfl #[ptr (ga 0), .string ⟨#[120]⟩] rfl (by first | (simp only [List.map_toArray, List.map_cons, List.map_nil]; rfl) | rfl) ?_; refine (LK.send_is (HP.out.lk 0 (by decide)) HBA.out sX (by decide)).mono ?_; rintro e W5 ⟨o, v', rfl, ho, st⟩; rw [HE.out]; obtain ⟨Ao, co, rfl, hro⟩ := RowP.of_R ho; have HP8 := Aside0.mk (show PS W W5 bx gN ga ma (upd va 0 v') sv gv (tg ow wr W5 (1 + 0)) (sendN S 0 sX) by have h := HP.out.linkAct (i := 0) (by decide) st; unfold sendN; rw [HSD.out]; exact h); have HO8 := Aside0.mk (hro.mono (ok' := fun k => tg ow wr W5 (1 + 0) k ≠ 3) (fun k hk => by rw [tg_new hk.2.1 hk.2.2]; decide)); clear ho st hro pt0; have e5 := bool_at HC.out HP8.out.below H5.out; rw [HBV.out] at e5; refine ⟨_, rfl, ?_⟩)
              | ((with_reducible refine gate_dst (N := 87) rfl ?_); refine goesL_ (some 87) rfl rfl Try.func55 (by kernel_rfl) rfl #[ptr bx, .slice Ao (sdP (S 0).l sX).length co] rfl (by first | (simp only [List.map_toArray, List.map_cons, List.map_nil]; rfl) | rfl) ?_; refine (out_is HP8.out (i := 0) (by decide) HO8.out HFR.out HCN.out (by have := HL8.out; omega)).mono ?_; rintro e W9 ⟨rfl, ow9, hp9⟩; have HP9 := Aside0.mk hp9; clear hp9; have HI9 := Aside0.mk (HI.out.send HA.out); refine ⟨_, rfl, ?_⟩)
              | ((with_reducible refine gate_dst (N := 89) rfl ?_); refine goesL_ (some 89) rfl rfl Try.func56 (by kernel_rfl) rfl #[ptr bx, .int .i64 1, .int .i64 0] rfl (by first | (simp only [List.map_toArray, List.map_cons, List.map_nil]; rfl) | rfl) ?_; refine (come_b HP9.out HI9.out.good (HI9.out.len HA.out)).mono ?_; rintro e W10 ⟨rfl, va1, gv1, ow1, hp⟩; have HP10 := Aside0.mk hp; clear hp; have HI10 := Aside0.mk HI9.out.come1; refine ⟨_, rfl, ?_⟩)
              | ((with_reducible refine gate_dst (N := 93) rfl ?_); refine gate_guard (by rfl) ?_; dsimp only; refine goesL_ (some 93) rfl rfl Try.func56 (by kernel_rfl) rfl #[ptr bx, .int .i64 0, .int .i64 0] rfl (by first | (simp only [List.map_toArray, List.map_cons, List.map_nil]; rfl) | rfl) ?_; refine (come_a HP10.out HI10.out.good (HI10.out.len HA.out)).mono ?_; rintro e W11 ⟨rfl, va2, gv2, ow2, hp⟩; have HP11 := Aside0.mk hp; clear hp; have HI11 := Aside0.mk HI10.out.come0; refine ⟨_, rfl, ?_⟩)
              | ((with_reducible refine gate_dst (N := 98) rfl ?_); refine gate_guard (by rfl) ?_; dsimp only; refine goesL_ (some 98) rfl rfl Try.func57 (by kernel_rfl) rfl #[ptr bx] rfl (by first | (simp only [List.map_toArray, List.map_cons, List.map_nil]; rfl) | rfl) ?_; refine (right_is HP11.out HI11.out.good (HI11.out.len HA.out)).mono ?_; rintro e W12 ⟨rfl, hp⟩; have HP12 := Aside0.mk hp; clear hp; refine ⟨_, rfl, ?_⟩))
            go_roundg k1
            case measure => omega
            case rel => exact ⟨n + 1, _, _, _, _, _, by first | rfl | (simp; done) | (simp; unfold wrap64; omega), ⟨by have := HN.out; omega⟩, HI11, HP12⟩
          | true =>
            have HI9 := Aside0.mk (HI.out.lost HA.out)
            go_wp2_with (first
              | ((with_reducible refine gate_dst (N := 44) rfl ?_); refine goesL_ (some 44) rfl rfl Try.func38 (by kernel_rfl) rfl #[ptr (ga 0), .string ⟨#[120]⟩] rfl (by first | (simp only [List.map_toArray, List.map_cons, List.map_nil]; rfl) | rfl) ?_; refine (LK.send_is (HP.out.lk 0 (by decide)) HBA.out sX (by decide)).mono ?_; rintro e W5 ⟨o, v', rfl, ho, st⟩; rw [HE.out]; obtain ⟨Ao, co, rfl, hro⟩ := RowP.of_R ho; have HP8 := Aside0.mk (show PS W W5 bx gN ga ma (upd va 0 v') sv gv (tg ow wr W5 (1 + 0)) (sendN S 0 sX) by have h := HP.out.linkAct (i := 0) (by decide) st; unfold sendN; rw [HSD.out]; exact h); have HO8 := Aside0.mk (hro.mono (ok' := fun k => tg ow wr W5 (1 + 0) k ≠ 3) (fun k hk => by rw [tg_new hk.2.1 hk.2.2]; decide)); clear ho st hro pt0; have e5 := bool_at HC.out HP8.out.below H5.out; rw [HBV.out] at e5; refine ⟨_, rfl, ?_⟩)
              | ((with_reducible refine gate_dst (N := 89) rfl ?_); refine goesL_ (some 89) rfl rfl Try.func56 (by kernel_rfl) rfl #[ptr bx, .int .i64 1, .int .i64 0] rfl (by first | (simp only [List.map_toArray, List.map_cons, List.map_nil]; rfl) | rfl) ?_; refine (come_b HP8.out HI9.out.good (HI9.out.len HA.out)).mono ?_; rintro e W10 ⟨rfl, va1, gv1, ow1, hp⟩; have HP10 := Aside0.mk hp; clear hp; have HI10 := Aside0.mk HI9.out.come1; refine ⟨_, rfl, ?_⟩)
              | ((with_reducible refine gate_dst (N := 93) rfl ?_); refine gate_guard (by rfl) ?_; dsimp only; refine goesL_ (some 93) rfl rfl Try.func56 (by kernel_rfl) rfl #[ptr bx, .int .i64 0, .int .i64 0] rfl (by first | (simp only [List.map_toArray, List.map_cons, List.map_nil]; rfl) | rfl) ?_; refine (come_a HP10.out HI10.out.good (HI10.out.len HA.out)).mono ?_; rintro e W11 ⟨rfl, va2, gv2, ow2, hp⟩; have HP11 := Aside0.mk hp; clear hp; have HI11 := Aside0.mk HI10.out.come0; refine ⟨_, rfl, ?_⟩)
              | ((with_reducible refine gate_dst (N := 98) rfl ?_); refine gate_guard (by rfl) ?_; dsimp only; refine goesL_ (some 98) rfl rfl Try.func57 (by kernel_rfl) rfl #[ptr bx] rfl (by first | (simp only [List.map_toArray, List.map_cons, List.map_nil]; rfl) | rfl) ?_; refine (right_is HP11.out HI11.out.good (HI11.out.len HA.out)).mono ?_; rintro e W12 ⟨rfl, hp⟩; have HP12 := Aside0.mk hp; clear hp; refine ⟨_, rfl, ?_⟩))
            go_roundg k1
            case measure => omega
            case rel => exact ⟨n + 1, _, _, _, _, _, by first | rfl | (simp; done) | (simp; unfold wrap64; omega), ⟨by have := HN.out; omega⟩, HI11, HP12⟩
end Go.Proofs.Ytdibaeomepallaa.LK
