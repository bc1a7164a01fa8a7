import Derived.Test.YtdibaeomepallaaLr
namespace Go.Proofs.Ytdibaeomepallaa.LK
open Go.RowKit Go.Proofs.YtdibaeomepallaaW.PrintWords Go.Proofs.YtdibaeomepallaaW.PrintLast Go.Proofs.YtdibaeomepallaaW.PrintMore Go.Proofs.Ytdibaeomepallaa.PAll Go.Proofs.Ytdibaeomepallaa.NW
set_option linter.unusedVariables false
set_option linter.unusedSimpArgs false
set_option maxRecDepth 100000
theorem PS.base {w00 w0 w : World} {bx gN : Nat} {ga ma : Nat → Nat} {va sv gv : Nat → Value} {ow : Nat → Nat} {S : Nat → Sd} (h : PS w0 w bx gN ga ma va sv gv ow S) (hb : Below w00.heap.size w00 w0) : PS w00 w bx gN ga ma va sv gv ow S :=
  { h with low := fun k hk => Nat.le_trans hb.size (h.low k hk), below := hb.trans (h.below.mono hb.size) }
theorem old_E {S : Nat → Sd} (h : Good 1 S) {p : Pk} (hp : ¬ (p.f2 = 1 ∧ p.f3 = 1)) : tkE (S 0).l p = 1 ∨ tkE (S 0).l p = 4 := by
  have e := h.ends 0 (by decide)
  unfold tkE
  by_cases h1 : okP p = true ∧ p.f0 = (S 0).l.x.f2 ∧ p.f1 = (S 0).l.x.f0
  · rw [if_pos h1, if_neg (by rw [e]; exact hp)]; exact .inr rfl
  · rw [if_neg h1]; exact .inl rfl
set_option maxHeartbeats 16000000 in
theorem linkOld_is (A : Option Addr) (c : Nat) (l : List S109) (p : Pk) (W : World) (hC : Kd.C k109 W A l.length l) (hc : l.length ≤ c) (g : Good109 l) (hm : l.length ≤ maxLen) :
    Calls Try.prog 14 #[.slice A l.length c, .agg #[.int .i64 p.f0, .int .i64 p.f1, .int .i64 p.f2, .int .i64 p.f3, .int .i64 p.f4, .int .i64 p.f5, .string p.f6]] W fun e w' => e = .returned (.bool true) ∧ Below W.heap.size W w' := by
  have hu109 := Try.underlying109
  have hu28 := Try.underlying28
  obtain ⟨q0, q1, q2, q3, q4, q5, q6⟩ := p
  dsimp only
  obtain ⟨w1, hw1, hB1, hb1, hs1⟩ := alloc1 W (.cells #[.int .i64 q0, .int .i64 q1, .int .i64 q2, .int .i64 q3, .int .i64 q4, .int .i64 q5, .string q6] 28 (0, 0))
  have HC := Aside0.mk (Kd.C_below hC hB1)
  have HG := Aside0.mk g
  have HW1 := Aside0.mk hw1
  have HB1 := Aside0.mk hB1
  have HX := Aside0.mk hb1
  have HS1 := Aside0.mk hs1
  clear hC g hm hw1 hB1 hb1 hs1
  go_enter Try.func14, Try.ntmps14
  go_wp2_with (first
    | ((with_reducible refine gate_dst (N := 15) rfl ?_); refine goesL_ (some 15) rfl rfl Try.func54 (by kernel_rfl) rfl #[.int .i64 1] rfl (by first | (simp only [List.map_toArray, List.map_cons, List.map_nil]; rfl) | rfl) ?_; refine (fresh_is _ 1 (by decide) (by decide)).mono ?_; rintro e w5 hf; obtain ⟨bx, gN, ga, ma, va, sv, gv, ow, rfl, hp⟩ := (show FreshOut w1 1 e w5 by rw [HW1.out]; exact hf); have HP := Aside0.mk hp; clear hp hf; refine ⟨_, rfl, ?_⟩)
    | ((with_reducible refine gate_dst (N := 16) rfl ?_); refine goesL_ (some 16) rfl rfl Try.func37 (by kernel_rfl) rfl #[] rfl (by simp) ?_; refine (awakeL_is _).mono ?_; rintro e w6 ⟨rfl, hb⟩; have HP6 := Aside0.mk (HP.out.bel hb); clear hb; have pt0 := pair_ptr HP6.out (i := 0) (by decide); have pt1 := pair_ptr HP6.out (i := 1) (by decide); have u6 : w6.cell? ⟨W.heap.size, 6, none⟩ = some (.string q6) := (blk_cell (keepB HX.out HP6.out.below) 6).trans rfl; refine ⟨_, rfl, ?_⟩)
    | ((with_reducible refine gate_dst (N := 40) rfl ?_); refine goesL_ (some 40) rfl rfl Try.func37 (by kernel_rfl) rfl #[] rfl (by simp) ?_; refine (awakeL_is _).mono ?_; rintro e w7 ⟨rfl, hb⟩; have HB7 := Aside0.mk (HP6.out.below.trans (hb.mono HP6.out.below.size)); clear hb pt0 pt1 u6; refine ⟨_, rfl, ?_⟩))
  · go_ret
    exact ⟨rfl, HB1.out.trans (HB7.out.mono HB1.out.size)⟩
  clear pt0 pt1 u6
  have HS := Aside0.mk (show DN w1 bx gN ga ma l 0 w6 from ⟨va, sv, gv, ow, HP6.out⟩)
  clear HP HP6
  go_loopg [6] (min l.length 40) (fun kq v6 w' => ∃ n : Nat, v6 = .int .i64 n ∧ Aside0 (n + kq = min l.length 40) ∧ Aside0 (DN w1 bx gN ga ma l n w'))
  case atStart => exact ⟨0, rfl, ⟨by omega⟩, HS⟩
  case round =>
    clear HS
    obtain ⟨n, rfl, HN, HD⟩ := hrel
    cases gk with
    | zero =>
      by_cases h1 : n = l.length
      · have d1 : decide ((n : Int) < (l.length : Int)) = false := decide_eq_false (by omega)
        obtain ⟨va, sv, gv, ow, hp⟩ := HD.out
        have HNL := Aside0.mk (show n ≤ l.length by have := HN.out; omega)
        have hbox : wr.heap[W.heap.size]? = some (.cells #[.int .i64 q0, .int .i64 q1, .int .i64 q2, .int .i64 q3, .int .i64 q4, .int .i64 q5, .string q6] 28 (0, 0)) := keepB HX.out hp.below
        have how : ow W.heap.size = 0 := Nat.eq_zero_of_not_pos (fun h => by have := hp.low W.heap.size (by omega); rw [HS1.out] at this; omega)
        have HP := Aside0.mk (hp.base HB1.out)
        have HBX := Aside0.mk hbox
        have HOW := Aside0.mk how
        clear hp hbox how HD HX
        have LOW := Aside0.mk (fun k hk => (HP.out.low k (by rw [HP.out.olk 0 (by decide) k hk]; decide)))
        have pt0 := pair_ptr HP.out (i := 0) (by decide)
        by_cases h2 : q2 = 1
        · subst h2
          by_cases h3 : q3 = 1
          · subst h3
            have u0 : (wr).cell? ⟨W.heap.size, 0, none⟩ = some (.int .i64 q0) := (blk_cell HBX.out 0).trans rfl
            have u1 : (wr).cell? ⟨W.heap.size, 1, none⟩ = some (.int .i64 q1) := (blk_cell HBX.out 1).trans rfl
            have u2 : (wr).cell? ⟨W.heap.size, 2, none⟩ = some (.int .i64 1) := (blk_cell HBX.out 2).trans rfl
            have u3 : (wr).cell? ⟨W.heap.size, 3, none⟩ = some (.int .i64 1) := (blk_cell HBX.out 3).trans rfl
            have u4 : (wr).cell? ⟨W.heap.size, 4, none⟩ = some (.int .i64 q4) := (blk_cell HBX.out 4).trans rfl
            have u5 : (wr).cell? ⟨W.heap.size, 5, none⟩ = some (.int .i64 q5) := (blk_cell HBX.out 5).trans rfl
            have u6 : (wr).cell? ⟨W.heap.size, 6, none⟩ = some (.string q6) := (blk_cell HBX.out 6).trans rfl
            have HPT := Aside0.mk (HP.out.tmp HOW.out (Nat.le_refl _) (w' := wr.setCell ⟨W.heap.size, 3, none⟩ (.int .i64 2)) (Mods.set (F := fun k => k = W.heap.size) (Mods.refl _ wr) (.inl rfl) (.int .i64 2)) (by simp [World.setCell]))
            have HBT := Aside0.mk (show (wr.setCell ⟨W.heap.size, 3, none⟩ (.int .i64 2)).heap[W.heap.size]? = some (.cells #[.int .i64 q0, .int .i64 q1, .int .i64 1, .int .i64 2, .int .i64 q4, .int .i64 q5, .string q6] 28 (0, 0)) from blk_set HBX.out 3 _)
            have fz := blk_frozen HBX.out 3
            have LK0 := Aside0.mk (HPT.out.lk 0 (by decide))
            have BEL := Aside0.mk HPT.out.below
            obtain ⟨E, hE, hE2⟩ : ∃ E, tkE (doN (freshL 1) l n 0).l (⟨q0, q1, 1, 2, q4, q5, q6⟩ : S28) = E ∧ (E = 1 ∨ E = 4) := ⟨_, rfl, old_E (doN_good (f := 1) (by decide) (by decide) l n HNL.out) (fun e => absurd (show (2 : Int) = 1 from e.2) (by decide))⟩
            have HE := Aside0.mk hE
            have hT : tkT (doN (freshL 1) l n 0).l (⟨q0, q1, 1, 2, q4, q5, q6⟩ : S28) = [] := if_neg (fun e => by rw [hE] at e; rcases hE2 with h | h <;> (rw [h] at e; exact absurd e.1 (by decide)))
            have hQ : tkP (doN (freshL 1) l n 0).l (⟨q0, q1, 1, 2, q4, q5, q6⟩ : S28) = [] := if_neg (fun e => by rw [hE] at e; rcases hE2 with h | h <;> (rw [h] at e; exact absurd e (by decide)))
            have hL : tkL (doN (freshL 1) l n 0).l (⟨q0, q1, 1, 2, q4, q5, q6⟩ : S28) = (doN (freshL 1) l n 0).l := if_neg (fun e => by rw [hE] at e; rcases hE2 with h | h <;> (rw [h] at e; exact absurd e (by decide)))
            have HTT := Aside0.mk hT
            have HQQ := Aside0.mk hQ
            have HLL := Aside0.mk hL
            clear hE hT hQ hL
            have HBD := Aside0.mk ((doN_good (f := 1) (by decide) (by decide) l n HNL.out).inv.at (i := 0) (by decide)).bd
            generalize (doN (freshL 1) l n 0).l = lk at *
            have hE3 : (E == 1) = false → (E == 4) = true := fun h => by rcases hE2 with h1 | h1 <;> subst h1 <;> first | rfl | (exact absurd h (by decide))
            have hE4 : ¬ E = 1 → (E == 4) = true := fun h => by rcases hE2 with h1 | h1 <;> subst h1 <;> first | rfl | (exact absurd rfl h)
            clear hE2
            go_wp2_with (first
              | ((with_reducible refine gate_dst (N := 73) rfl ?_); refine goesL_ (some 73) rfl rfl Try.func40 (by kernel_rfl) rfl #[ptr (ga 0)] rfl (by first | (simp only [List.map_toArray, List.map_cons, List.map_nil]; rfl) | rfl) ?_; refine (left_is LK0.out).mono ?_; rintro e w1a ⟨rfl, hb⟩; have L1 := Aside0.mk (LK0.out.below hb); have B1 := Aside0.mk (BEL.out.trans (hb.mono BEL.out.size)); have X1 := Aside0.mk (keepB HBT.out hb); clear hb; refine ⟨_, rfl, ?_⟩)
              | ((with_reducible refine gate_dst (N := 75) rfl ?_); refine goesL_ (some 75) rfl rfl Try.func41 (by kernel_rfl) rfl #[ptr (ga 0)] rfl (by first | (simp only [List.map_toArray, List.map_cons, List.map_nil]; rfl) | rfl) ?_; refine (base_is L1.out).mono ?_; rintro e w2a ⟨rfl, hb⟩; have L2 := Aside0.mk (L1.out.below hb); have B2 := Aside0.mk (B1.out.trans (hb.mono B1.out.size)); have X2 := Aside0.mk (keepB X1.out hb); clear hb; refine ⟨_, rfl, ?_⟩)
              | ((with_reducible refine gate_dst (N := 77) rfl ?_); refine goesL_ (some 77) rfl rfl Try.func52 (by kernel_rfl) rfl #[ptr (ga 0)] rfl (by first | (simp only [List.map_toArray, List.map_cons, List.map_nil]; rfl) | rfl) ?_; refine (wants_is L2.out).mono ?_; rintro e w3a ⟨rfl, hb⟩; have L3 := Aside0.mk (L2.out.below hb); have B3 := Aside0.mk (B2.out.trans (hb.mono B2.out.size)); have X3 := Aside0.mk (keepB X2.out hb); clear hb; refine ⟨_, rfl, ?_⟩)
              | ((with_reducible refine gate_dst (N := 79) rfl ?_); refine goesL_ (some 79) rfl rfl Try.func53 (by kernel_rfl) rfl #[ptr (ga 0)] rfl (by first | (simp only [List.map_toArray, List.map_cons, List.map_nil]; rfl) | rfl) ?_; refine (early_is L3.out).mono ?_; rintro e w4a ⟨rfl, hb⟩; have L4 := Aside0.mk (L3.out.below hb); have B4 := Aside0.mk (B3.out.trans (hb.mono B3.out.size)); have X4 := Aside0.mk (keepB X3.out hb); clear hb; clear u0 u1 u2 u3 u4 u5 u6; have u0 : (w4a).cell? ⟨W.heap.size, 0, none⟩ = some (.int .i64 q0) := (blk_cell X4.out 0).trans rfl; have u1 : (w4a).cell? ⟨W.heap.size, 1, none⟩ = some (.int .i64 q1) := (blk_cell X4.out 1).trans rfl; have u2 : (w4a).cell? ⟨W.heap.size, 2, none⟩ = some (.int .i64 1) := (blk_cell X4.out 2).trans rfl; have u3 : (w4a).cell? ⟨W.heap.size, 3, none⟩ = some (.int .i64 2) := (blk_cell X4.out 3).trans rfl; have u4 : (w4a).cell? ⟨W.heap.size, 4, none⟩ = some (.int .i64 q4) := (blk_cell X4.out 4).trans rfl; have u5 : (w4a).cell? ⟨W.heap.size, 5, none⟩ = some (.int .i64 q5) := (blk_cell X4.out 5).trans rfl; have u6 : (w4a).cell? ⟨W.heap.size, 6, none⟩ = some (.string q6) := (blk_cell X4.out 6).trans rfl; refine ⟨_, rfl, ?_⟩)
              | ((with_reducible refine gate_dst (N := 83) rfl ?_); refine goesL_ (some 83) rfl rfl Try.func39 (by kernel_rfl) rfl #[ptr (ga 0), .agg #[.int .i64 q0, .int .i64 q1, .int .i64 1, .int .i64 2, .int .i64 q4, .int .i64 q5, .string q6]] rfl (by first | (simp only [List.map_toArray, List.map_cons, List.map_nil]; rfl) | rfl) ?_; refine (LK.take_is L4.out HBD.out.1 HBD.out.2 (⟨q0, q1, 1, 2, q4, q5, q6⟩ : S28)).mono ?_; rintro e w5a ⟨t, o, v5, rfl, ht, ho, st⟩; rw [HE.out]; rw [HTT.out] at ht; rw [HQQ.out] at ho; obtain ⟨At, ct, rfl⟩ := Kd.R_slice ht; obtain ⟨Ao, co, rfl⟩ := Kd.R_slice ho; have L5 := Aside0.mk (by have h := st.lk; rw [HLL.out] at h; exact h); have B5 := Aside0.mk (B4.out.trans (st.mods.below B4.out.size LOW.out)); clear ht ho st u0 u1 u2 u3 u4 u5 u6; refine ⟨_, rfl, ?_⟩)
              | ((with_reducible refine gate_dst (N := 105) rfl ?_); refine gate_guard (by rfl) ?_; dsimp only; refine goesL_ (some 105) rfl rfl Try.func40 (by kernel_rfl) rfl #[ptr (ga 0)] rfl (by first | (simp only [List.map_toArray, List.map_cons, List.map_nil]; rfl) | rfl) ?_; refine (left_is L5.out).mono ?_; rintro e w6a ⟨rfl, hb⟩; have L6 := Aside0.mk (L5.out.below hb); have B6 := Aside0.mk (B5.out.trans (hb.mono B5.out.size)); clear hb; refine ⟨_, rfl, ?_⟩)
              | ((with_reducible refine gate_dst (N := 111) rfl ?_); refine gate_guard (by rfl) ?_; dsimp only; refine goesL_ (some 111) rfl rfl Try.func41 (by kernel_rfl) rfl #[ptr (ga 0)] rfl (by first | (simp only [List.map_toArray, List.map_cons, List.map_nil]; rfl) | rfl) ?_; refine (base_is L6.out).mono ?_; rintro e w7a ⟨rfl, hb⟩; have L7 := Aside0.mk (L6.out.below hb); have B7 := Aside0.mk (B6.out.trans (hb.mono B6.out.size)); clear hb; refine ⟨_, rfl, ?_⟩)
              | ((with_reducible refine gate_dst (N := 117) rfl ?_); refine gate_guard (by rfl) ?_; dsimp only; refine goesL_ (some 117) rfl rfl Try.func52 (by kernel_rfl) rfl #[ptr (ga 0)] rfl (by first | (simp only [List.map_toArray, List.map_cons, List.map_nil]; rfl) | rfl) ?_; refine (wants_is L7.out).mono ?_; rintro e w8a ⟨rfl, hb⟩; have L8 := Aside0.mk (L7.out.below hb); have B8 := Aside0.mk (B7.out.trans (hb.mono B7.out.size)); clear hb; refine ⟨_, rfl, ?_⟩)
              | ((with_reducible refine gate_dst (N := 123) rfl ?_); refine gate_guard (by rfl) ?_; dsimp only; refine goesL_ (some 123) rfl rfl Try.func53 (by kernel_rfl) rfl #[ptr (ga 0)] rfl (by first | (simp only [List.map_toArray, List.map_cons, List.map_nil]; rfl) | rfl) ?_; refine (early_is L8.out).mono ?_; rintro e w9a ⟨rfl, hb⟩; have L9 := Aside0.mk (L8.out.below hb); have B9 := Aside0.mk (B8.out.trans (hb.mono B8.out.size)); clear hb; refine ⟨_, rfl, ?_⟩))
            all_goals (go_ret; exact ⟨rfl, B9.out⟩)
          · have k3 : (q3 == 1) = false := beq_eq_false_iff_ne.mpr h3
            have u0 : (wr).cell? ⟨W.heap.size, 0, none⟩ = some (.int .i64 q0) := (blk_cell HBX.out 0).trans rfl
            have u1 : (wr).cell? ⟨W.heap.size, 1, none⟩ = some (.int .i64 q1) := (blk_cell HBX.out 1).trans rfl
            have u2 : (wr).cell? ⟨W.heap.size, 2, none⟩ = some (.int .i64 1) := (blk_cell HBX.out 2).trans rfl
            have u3 : (wr).cell? ⟨W.heap.size, 3, none⟩ = some (.int .i64 q3) := (blk_cell HBX.out 3).trans rfl
            have u4 : (wr).cell? ⟨W.heap.size, 4, none⟩ = some (.int .i64 q4) := (blk_cell HBX.out 4).trans rfl
            have u5 : (wr).cell? ⟨W.heap.size, 5, none⟩ = some (.int .i64 q5) := (blk_cell HBX.out 5).trans rfl
            have u6 : (wr).cell? ⟨W.heap.size, 6, none⟩ = some (.string q6) := (blk_cell HBX.out 6).trans rfl
            have LK0 := Aside0.mk (HP.out.lk 0 (by decide))
            have BEL := Aside0.mk HP.out.below
            obtain ⟨E, hE, hE2⟩ : ∃ E, tkE (doN (freshL 1) l n 0).l (⟨q0, q1, 1, q3, q4, q5, q6⟩ : S28) = E ∧ (E = 1 ∨ E = 4) := ⟨_, rfl, old_E (doN_good (f := 1) (by decide) (by decide) l n HNL.out) (fun e => h3 e.2)⟩
            have HE := Aside0.mk hE
            have hT : tkT (doN (freshL 1) l n 0).l (⟨q0, q1, 1, q3, q4, q5, q6⟩ : S28) = [] := if_neg (fun e => by rw [hE] at e; rcases hE2 with h | h <;> (rw [h] at e; exact absurd e.1 (by decide)))
            have hQ : tkP (doN (freshL 1) l n 0).l (⟨q0, q1, 1, q3, q4, q5, q6⟩ : S28) = [] := if_neg (fun e => by rw [hE] at e; rcases hE2 with h | h <;> (rw [h] at e; exact absurd e (by decide)))
            have hL : tkL (doN (freshL 1) l n 0).l (⟨q0, q1, 1, q3, q4, q5, q6⟩ : S28) = (doN (freshL 1) l n 0).l := if_neg (fun e => by rw [hE] at e; rcases hE2 with h | h <;> (rw [h] at e; exact absurd e (by decide)))
            have HTT := Aside0.mk hT
            have HQQ := Aside0.mk hQ
            have HLL := Aside0.mk hL
            clear hE hT hQ hL
            have HBD := Aside0.mk ((doN_good (f := 1) (by decide) (by decide) l n HNL.out).inv.at (i := 0) (by decide)).bd
            generalize (doN (freshL 1) l n 0).l = lk at *
            have hE3 : (E == 1) = false → (E == 4) = true := fun h => by rcases hE2 with h1 | h1 <;> subst h1 <;> first | rfl | (exact absurd h (by decide))
            have hE4 : ¬ E = 1 → (E == 4) = true := fun h => by rcases hE2 with h1 | h1 <;> subst h1 <;> first | rfl | (exact absurd rfl h)
            clear hE2
            go_wp2_with (first
              | ((with_reducible refine gate_dst (N := 73) rfl ?_); refine goesL_ (some 73) rfl rfl Try.func40 (by kernel_rfl) rfl #[ptr (ga 0)] rfl (by first | (simp only [List.map_toArray, List.map_cons, List.map_nil]; rfl) | rfl) ?_; refine (left_is LK0.out).mono ?_; rintro e w1a ⟨rfl, hb⟩; have L1 := Aside0.mk (LK0.out.below hb); have B1 := Aside0.mk (BEL.out.trans (hb.mono BEL.out.size)); have X1 := Aside0.mk (keepB HBX.out hb); clear hb; refine ⟨_, rfl, ?_⟩)
              | ((with_reducible refine gate_dst (N := 75) rfl ?_); refine goesL_ (some 75) rfl rfl Try.func41 (by kernel_rfl) rfl #[ptr (ga 0)] rfl (by first | (simp only [List.map_toArray, List.map_cons, List.map_nil]; rfl) | rfl) ?_; refine (base_is L1.out).mono ?_; rintro e w2a ⟨rfl, hb⟩; have L2 := Aside0.mk (L1.out.below hb); have B2 := Aside0.mk (B1.out.trans (hb.mono B1.out.size)); have X2 := Aside0.mk (keepB X1.out hb); clear hb; refine ⟨_, rfl, ?_⟩)
              | ((with_reducible refine gate_dst (N := 77) rfl ?_); refine goesL_ (some 77) rfl rfl Try.func52 (by kernel_rfl) rfl #[ptr (ga 0)] rfl (by first | (simp only [List.map_toArray, List.map_cons, List.map_nil]; rfl) | rfl) ?_; refine (wants_is L2.out).mono ?_; rintro e w3a ⟨rfl, hb⟩; have L3 := Aside0.mk (L2.out.below hb); have B3 := Aside0.mk (B2.out.trans (hb.mono B2.out.size)); have X3 := Aside0.mk (keepB X2.out hb); clear hb; refine ⟨_, rfl, ?_⟩)
              | ((with_reducible refine gate_dst (N := 79) rfl ?_); refine goesL_ (some 79) rfl rfl Try.func53 (by kernel_rfl) rfl #[ptr (ga 0)] rfl (by first | (simp only [List.map_toArray, List.map_cons, List.map_nil]; rfl) | rfl) ?_; refine (early_is L3.out).mono ?_; rintro e w4a ⟨rfl, hb⟩; have L4 := Aside0.mk (L3.out.below hb); have B4 := Aside0.mk (B3.out.trans (hb.mono B3.out.size)); have X4 := Aside0.mk (keepB X3.out hb); clear hb; clear u0 u1 u2 u3 u4 u5 u6; have u0 : (w4a).cell? ⟨W.heap.size, 0, none⟩ = some (.int .i64 q0) := (blk_cell X4.out 0).trans rfl; have u1 : (w4a).cell? ⟨W.heap.size, 1, none⟩ = some (.int .i64 q1) := (blk_cell X4.out 1).trans rfl; have u2 : (w4a).cell? ⟨W.heap.size, 2, none⟩ = some (.int .i64 1) := (blk_cell X4.out 2).trans rfl; have u3 : (w4a).cell? ⟨W.heap.size, 3, none⟩ = some (.int .i64 q3) := (blk_cell X4.out 3).trans rfl; have u4 : (w4a).cell? ⟨W.heap.size, 4, none⟩ = some (.int .i64 q4) := (blk_cell X4.out 4).trans rfl; have u5 : (w4a).cell? ⟨W.heap.size, 5, none⟩ = some (.int .i64 q5) := (blk_cell X4.out 5).trans rfl; have u6 : (w4a).cell? ⟨W.heap.size, 6, none⟩ = some (.string q6) := (blk_cell X4.out 6).trans rfl; refine ⟨_, rfl, ?_⟩)
              | ((with_reducible refine gate_dst (N := 83) rfl ?_); refine goesL_ (some 83) rfl rfl Try.func39 (by kernel_rfl) rfl #[ptr (ga 0), .agg #[.int .i64 q0, .int .i64 q1, .int .i64 1, .int .i64 q3, .int .i64 q4, .int .i64 q5, .string q6]] rfl (by first | (simp only [List.map_toArray, List.map_cons, List.map_nil]; rfl) | rfl) ?_; refine (LK.take_is L4.out HBD.out.1 HBD.out.2 (⟨q0, q1, 1, q3, q4, q5, q6⟩ : S28)).mono ?_; rintro e w5a ⟨t, o, v5, rfl, ht, ho, st⟩; rw [HE.out]; rw [HTT.out] at ht; rw [HQQ.out] at ho; obtain ⟨At, ct, rfl⟩ := Kd.R_slice ht; obtain ⟨Ao, co, rfl⟩ := Kd.R_slice ho; have L5 := Aside0.mk (by have h := st.lk; rw [HLL.out] at h; exact h); have B5 := Aside0.mk (B4.out.trans (st.mods.below B4.out.size LOW.out)); clear ht ho st u0 u1 u2 u3 u4 u5 u6; refine ⟨_, rfl, ?_⟩)
              | ((with_reducible refine gate_dst (N := 105) rfl ?_); refine gate_guard (by rfl) ?_; dsimp only; refine goesL_ (some 105) rfl rfl Try.func40 (by kernel_rfl) rfl #[ptr (ga 0)] rfl (by first | (simp only [List.map_toArray, List.map_cons, List.map_nil]; rfl) | rfl) ?_; refine (left_is L5.out).mono ?_; rintro e w6a ⟨rfl, hb⟩; have L6 := Aside0.mk (L5.out.below hb); have B6 := Aside0.mk (B5.out.trans (hb.mono B5.out.size)); clear hb; refine ⟨_, rfl, ?_⟩)
              | ((with_reducible refine gate_dst (N := 111) rfl ?_); refine gate_guard (by rfl) ?_; dsimp only; refine goesL_ (some 111) rfl rfl Try.func41 (by kernel_rfl) rfl #[ptr (ga 0)] rfl (by first | (simp only [List.map_toArray, List.map_cons, List.map_nil]; rfl) | rfl) ?_; refine (base_is L6.out).mono ?_; rintro e w7a ⟨rfl, hb⟩; have L7 := Aside0.mk (L6.out.below hb); have B7 := Aside0.mk (B6.out.trans (hb.mono B6.out.size)); clear hb; refine ⟨_, rfl, ?_⟩)
              | ((with_reducible refine gate_dst (N := 117) rfl ?_); refine gate_guard (by rfl) ?_; dsimp only; refine goesL_ (some 117) rfl rfl Try.func52 (by kernel_rfl) rfl #[ptr (ga 0)] rfl (by first | (simp only [List.map_toArray, List.map_cons, List.map_nil]; rfl) | rfl) ?_; refine (wants_is L7.out).mono ?_; rintro e w8a ⟨rfl, hb⟩; have L8 := Aside0.mk (L7.out.below hb); have B8 := Aside0.mk (B7.out.trans (hb.mono B7.out.size)); clear hb; refine ⟨_, rfl, ?_⟩)
              | ((with_reducible refine gate_dst (N := 123) rfl ?_); refine gate_guard (by rfl) ?_; dsimp only; refine goesL_ (some 123) rfl rfl Try.func53 (by kernel_rfl) rfl #[ptr (ga 0)] rfl (by first | (simp only [List.map_toArray, List.map_cons, List.map_nil]; rfl) | rfl) ?_; refine (early_is L8.out).mono ?_; rintro e w9a ⟨rfl, hb⟩; have L9 := Aside0.mk (L8.out.below hb); have B9 := Aside0.mk (B8.out.trans (hb.mono B8.out.size)); clear hb; refine ⟨_, rfl, ?_⟩))
            all_goals (go_ret; exact ⟨rfl, B9.out⟩)
        · have k2 : (q2 == 1) = false := beq_eq_false_iff_ne.mpr h2
          have u0 : (wr).cell? ⟨W.heap.size, 0, none⟩ = some (.int .i64 q0) := (blk_cell HBX.out 0).trans rfl
          have u1 : (wr).cell? ⟨W.heap.size, 1, none⟩ = some (.int .i64 q1) := (blk_cell HBX.out 1).trans rfl
          have u2 : (wr).cell? ⟨W.heap.size, 2, none⟩ = some (.int .i64 q2) := (blk_cell HBX.out 2).trans rfl
          have u3 : (wr).cell? ⟨W.heap.size, 3, none⟩ = some (.int .i64 q3) := (blk_cell HBX.out 3).trans rfl
          have u4 : (wr).cell? ⟨W.heap.size, 4, none⟩ = some (.int .i64 q4) := (blk_cell HBX.out 4).trans rfl
          have u5 : (wr).cell? ⟨W.heap.size, 5, none⟩ = some (.int .i64 q5) := (blk_cell HBX.out 5).trans rfl
          have u6 : (wr).cell? ⟨W.heap.size, 6, none⟩ = some (.string q6) := (blk_cell HBX.out 6).trans rfl
          have LK0 := Aside0.mk (HP.out.lk 0 (by decide))
          have BEL := Aside0.mk HP.out.below
          obtain ⟨E, hE, hE2⟩ : ∃ E, tkE (doN (freshL 1) l n 0).l (⟨q0, q1, q2, q3, q4, q5, q6⟩ : S28) = E ∧ (E = 1 ∨ E = 4) := ⟨_, rfl, old_E (doN_good (f := 1) (by decide) (by decide) l n HNL.out) (fun e => h2 e.1)⟩
          have HE := Aside0.mk hE
          have hT : tkT (doN (freshL 1) l n 0).l (⟨q0, q1, q2, q3, q4, q5, q6⟩ : S28) = [] := if_neg (fun e => by rw [hE] at e; rcases hE2 with h | h <;> (rw [h] at e; exact absurd e.1 (by decide)))
          have hQ : tkP (doN (freshL 1) l n 0).l (⟨q0, q1, q2, q3, q4, q5, q6⟩ : S28) = [] := if_neg (fun e => by rw [hE] at e; rcases hE2 with h | h <;> (rw [h] at e; exact absurd e (by decide)))
          have hL : tkL (doN (freshL 1) l n 0).l (⟨q0, q1, q2, q3, q4, q5, q6⟩ : S28) = (doN (freshL 1) l n 0).l := if_neg (fun e => by rw [hE] at e; rcases hE2 with h | h <;> (rw [h] at e; exact absurd e (by decide)))
          have HTT := Aside0.mk hT
          have HQQ := Aside0.mk hQ
          have HLL := Aside0.mk hL
          clear hE hT hQ hL
          have HBD := Aside0.mk ((doN_good (f := 1) (by decide) (by decide) l n HNL.out).inv.at (i := 0) (by decide)).bd
          generalize (doN (freshL 1) l n 0).l = lk at *
          have hE3 : (E == 1) = false → (E == 4) = true := fun h => by rcases hE2 with h1 | h1 <;> subst h1 <;> first | rfl | (exact absurd h (by decide))
          have hE4 : ¬ E = 1 → (E == 4) = true := fun h => by rcases hE2 with h1 | h1 <;> subst h1 <;> first | rfl | (exact absurd rfl h)
          clear hE2
          go_wp2_with (first
            | ((with_reducible refine gate_dst (N := 73) rfl ?_); refine goesL_ (some 73) rfl rfl Try.func40 (by kernel_rfl) rfl #[ptr (ga 0)] rfl (by first | (simp only [List.map_toArray, List.map_cons, List.map_nil]; rfl) | rfl) ?_; refine (left_is LK0.out).mono ?_; rintro e w1a ⟨rfl, hb⟩; have L1 := Aside0.mk (LK0.out.below hb); have B1 := Aside0.mk (BEL.out.trans (hb.mono BEL.out.size)); have X1 := Aside0.mk (keepB HBX.out hb); clear hb; refine ⟨_, rfl, ?_⟩)
            | ((with_reducible refine gate_dst (N := 75) rfl ?_); refine goesL_ (some 75) rfl rfl Try.func41 (by kernel_rfl) rfl #[ptr (ga 0)] rfl (by first | (simp only [List.map_toArray, List.map_cons, List.map_nil]; rfl) | rfl) ?_; refine (base_is L1.out).mono ?_; rintro e w2a ⟨rfl, hb⟩; have L2 := Aside0.mk (L1.out.below hb); have B2 := Aside0.mk (B1.out.trans (hb.mono B1.out.size)); have X2 := Aside0.mk (keepB X1.out hb); clear hb; refine ⟨_, rfl, ?_⟩)
            | ((with_reducible refine gate_dst (N := 77) rfl ?_); refine goesL_ (some 77) rfl rfl Try.func52 (by kernel_rfl) rfl #[ptr (ga 0)] rfl (by first | (simp only [List.map_toArray, List.map_cons, List.map_nil]; rfl) | rfl) ?_; refine (wants_is L2.out).mono ?_; rintro e w3a ⟨rfl, hb⟩; have L3 := Aside0.mk (L2.out.below hb); have B3 := Aside0.mk (B2.out.trans (hb.mono B2.out.size)); have X3 := Aside0.mk (keepB X2.out hb); clear hb; refine ⟨_, rfl, ?_⟩)
            | ((with_reducible refine gate_dst (N := 79) rfl ?_); refine goesL_ (some 79) rfl rfl Try.func53 (by kernel_rfl) rfl #[ptr (ga 0)] rfl (by first | (simp only [List.map_toArray, List.map_cons, List.map_nil]; rfl) | rfl) ?_; refine (early_is L3.out).mono ?_; rintro e w4a ⟨rfl, hb⟩; have L4 := Aside0.mk (L3.out.below hb); have B4 := Aside0.mk (B3.out.trans (hb.mono B3.out.size)); have X4 := Aside0.mk (keepB X3.out hb); clear hb; clear u0 u1 u2 u3 u4 u5 u6; have u0 : (w4a).cell? ⟨W.heap.size, 0, none⟩ = some (.int .i64 q0) := (blk_cell X4.out 0).trans rfl; have u1 : (w4a).cell? ⟨W.heap.size, 1, none⟩ = some (.int .i64 q1) := (blk_cell X4.out 1).trans rfl; have u2 : (w4a).cell? ⟨W.heap.size, 2, none⟩ = some (.int .i64 q2) := (blk_cell X4.out 2).trans rfl; have u3 : (w4a).cell? ⟨W.heap.size, 3, none⟩ = some (.int .i64 q3) := (blk_cell X4.out 3).trans rfl; have u4 : (w4a).cell? ⟨W.heap.size, 4, none⟩ = some (.int .i64 q4) := (blk_cell X4.out 4).trans rfl; have u5 : (w4a).cell? ⟨W.heap.size, 5, none⟩ = some (.int .i64 q5) := (blk_cell X4.out 5).trans rfl; have u6 : (w4a).cell? ⟨W.heap.size, 6, none⟩ = some (.string q6) := (blk_cell X4.out 6).trans rfl; refine ⟨_, rfl, ?_⟩)
            | ((with_reducible refine gate_dst (N := 83) rfl ?_); refine goesL_ (some 83) rfl rfl Try.func39 (by kernel_rfl) rfl #[ptr (ga 0), .agg #[.int .i64 q0, .int .i64 q1, .int .i64 q2, .int .i64 q3, .int .i64 q4, .int .i64 q5, .string q6]] rfl (by first | (simp only [List.map_toArray, List.map_cons, List.map_nil]; rfl) | rfl) ?_; refine (LK.take_is L4.out HBD.out.1 HBD.out.2 (⟨q0, q1, q2, q3, q4, q5, q6⟩ : S28)).mono ?_; rintro e w5a ⟨t, o, v5, rfl, ht, ho, st⟩; rw [HE.out]; rw [HTT.out] at ht; rw [HQQ.out] at ho; obtain ⟨At, ct, rfl⟩ := Kd.R_slice ht; obtain ⟨Ao, co, rfl⟩ := Kd.R_slice ho; have L5 := Aside0.mk (by have h := st.lk; rw [HLL.out] at h; exact h); have B5 := Aside0.mk (B4.out.trans (st.mods.below B4.out.size LOW.out)); clear ht ho st u0 u1 u2 u3 u4 u5 u6; refine ⟨_, rfl, ?_⟩)
            | ((with_reducible refine gate_dst (N := 105) rfl ?_); refine gate_guard (by rfl) ?_; dsimp only; refine goesL_ (some 105) rfl rfl Try.func40 (by kernel_rfl) rfl #[ptr (ga 0)] rfl (by first | (simp only [List.map_toArray, List.map_cons, List.map_nil]; rfl) | rfl) ?_; refine (left_is L5.out).mono ?_; rintro e w6a ⟨rfl, hb⟩; have L6 := Aside0.mk (L5.out.below hb); have B6 := Aside0.mk (B5.out.trans (hb.mono B5.out.size)); clear hb; refine ⟨_, rfl, ?_⟩)
            | ((with_reducible refine gate_dst (N := 111) rfl ?_); refine gate_guard (by rfl) ?_; dsimp only; refine goesL_ (some 111) rfl rfl Try.func41 (by kernel_rfl) rfl #[ptr (ga 0)] rfl (by first | (simp only [List.map_toArray, List.map_cons, List.map_nil]; rfl) | rfl) ?_; refine (base_is L6.out).mono ?_; rintro e w7a ⟨rfl, hb⟩; have L7 := Aside0.mk (L6.out.below hb); have B7 := Aside0.mk (B6.out.trans (hb.mono B6.out.size)); clear hb; refine ⟨_, rfl, ?_⟩)
            | ((with_reducible refine gate_dst (N := 117) rfl ?_); refine gate_guard (by rfl) ?_; dsimp only; refine goesL_ (some 117) rfl rfl Try.func52 (by kernel_rfl) rfl #[ptr (ga 0)] rfl (by first | (simp only [List.map_toArray, List.map_cons, List.map_nil]; rfl) | rfl) ?_; refine (wants_is L7.out).mono ?_; rintro e w8a ⟨rfl, hb⟩; have L8 := Aside0.mk (L7.out.below hb); have B8 := Aside0.mk (B7.out.trans (hb.mono B7.out.size)); clear hb; refine ⟨_, rfl, ?_⟩)
            | ((with_reducible refine gate_dst (N := 123) rfl ?_); refine gate_guard (by rfl) ?_; dsimp only; refine goesL_ (some 123) rfl rfl Try.func53 (by kernel_rfl) rfl #[ptr (ga 0)] rfl (by first | (simp only [List.map_toArray, List.map_cons, List.map_nil]; rfl) | rfl) ?_; refine (early_is L8.out).mono ?_; rintro e w9a ⟨rfl, hb⟩; have L9 := Aside0.mk (L8.out.below hb); have B9 := Aside0.mk (B8.out.trans (hb.mono B8.out.size)); clear hb; refine ⟨_, rfl, ?_⟩))
          all_goals (go_ret; exact ⟨rfl, B9.out⟩)
      · have hn := HN.out
        have d1 : decide ((n : Int) < (l.length : Int)) = true := decide_eq_true (by omega)
        have d2 : decide ((n : Int) < 40) = false := decide_eq_false (by omega)
        obtain ⟨va, sv, gv, ow, hp⟩ := HD.out
        have HNL := Aside0.mk (show n ≤ l.length by have := HN.out; omega)
        have hbox : wr.heap[W.heap.size]? = some (.cells #[.int .i64 q0, .int .i64 q1, .int .i64 q2, .int .i64 q3, .int .i64 q4, .int .i64 q5, .string q6] 28 (0, 0)) := keepB HX.out hp.below
        have how : ow W.heap.size = 0 := Nat.eq_zero_of_not_pos (fun h => by have := hp.low W.heap.size (by omega); rw [HS1.out] at this; omega)
        have HP := Aside0.mk (hp.base HB1.out)
        have HBX := Aside0.mk hbox
        have HOW := Aside0.mk how
        clear hp hbox how HD HX
        have LOW := Aside0.mk (fun k hk => (HP.out.low k (by rw [HP.out.olk 0 (by decide) k hk]; decide)))
        have pt0 := pair_ptr HP.out (i := 0) (by decide)
        by_cases h2 : q2 = 1
        · subst h2
          by_cases h3 : q3 = 1
          · subst h3
            have u0 : (wr).cell? ⟨W.heap.size, 0, none⟩ = some (.int .i64 q0) := (blk_cell HBX.out 0).trans rfl
            have u1 : (wr).cell? ⟨W.heap.size, 1, none⟩ = some (.int .i64 q1) := (blk_cell HBX.out 1).trans rfl
            have u2 : (wr).cell? ⟨W.heap.size, 2, none⟩ = some (.int .i64 1) := (blk_cell HBX.out 2).trans rfl
            have u3 : (wr).cell? ⟨W.heap.size, 3, none⟩ = some (.int .i64 1) := (blk_cell HBX.out 3).trans rfl
            have u4 : (wr).cell? ⟨W.heap.size, 4, none⟩ = some (.int .i64 q4) := (blk_cell HBX.out 4).trans rfl
            have u5 : (wr).cell? ⟨W.heap.size, 5, none⟩ = some (.int .i64 q5) := (blk_cell HBX.out 5).trans rfl
            have u6 : (wr).cell? ⟨W.heap.size, 6, none⟩ = some (.string q6) := (blk_cell HBX.out 6).trans rfl
            have HPT := Aside0.mk (HP.out.tmp HOW.out (Nat.le_refl _) (w' := wr.setCell ⟨W.heap.size, 3, none⟩ (.int .i64 2)) (Mods.set (F := fun k => k = W.heap.size) (Mods.refl _ wr) (.inl rfl) (.int .i64 2)) (by simp [World.setCell]))
            have HBT := Aside0.mk (show (wr.setCell ⟨W.heap.size, 3, none⟩ (.int .i64 2)).heap[W.heap.size]? = some (.cells #[.int .i64 q0, .int .i64 q1, .int .i64 1, .int .i64 2, .int .i64 q4, .int .i64 q5, .string q6] 28 (0, 0)) from blk_set HBX.out 3 _)
            have fz := blk_frozen HBX.out 3
            have LK0 := Aside0.mk (HPT.out.lk 0 (by decide))
            have BEL := Aside0.mk HPT.out.below
            obtain ⟨E, hE, hE2⟩ : ∃ E, tkE (doN (freshL 1) l n 0).l (⟨q0, q1, 1, 2, q4, q5, q6⟩ : S28) = E ∧ (E = 1 ∨ E = 4) := ⟨_, rfl, old_E (doN_good (f := 1) (by decide) (by decide) l n HNL.out) (fun e => absurd (show (2 : Int) = 1 from e.2) (by decide))⟩
            have HE := Aside0.mk hE
            have hT : tkT (doN (freshL 1) l n 0).l (⟨q0, q1, 1, 2, q4, q5, q6⟩ : S28) = [] := if_neg (fun e => by rw [hE] at e; rcases hE2 with h | h <;> (rw [h] at e; exact absurd e.1 (by decide)))
            have hQ : tkP (doN (freshL 1) l n 0).l (⟨q0, q1, 1, 2, q4, q5, q6⟩ : S28) = [] := if_neg (fun e => by rw [hE] at e; rcases hE2 with h | h <;> (rw [h] at e; exact absurd e (by decide)))
            have hL : tkL (doN (freshL 1) l n 0).l (⟨q0, q1, 1, 2, q4, q5, q6⟩ : S28) = (doN (freshL 1) l n 0).l := if_neg (fun e => by rw [hE] at e; rcases hE2 with h | h <;> (rw [h] at e; exact absurd e (by decide)))
            have HTT := Aside0.mk hT
            have HQQ := Aside0.mk hQ
            have HLL := Aside0.mk hL
            clear hE hT hQ hL
            have HBD := Aside0.mk ((doN_good (f := 1) (by decide) (by decide) l n HNL.out).inv.at (i := 0) (by decide)).bd
            generalize (doN (freshL 1) l n 0).l = lk at *
            have hE3 : (E == 1) = false → (E == 4) = true := fun h => by rcases hE2 with h1 | h1 <;> subst h1 <;> first | rfl | (exact absurd h (by decide))
            have hE4 : ¬ E = 1 → (E == 4) = true := fun h => by rcases hE2 with h1 | h1 <;> subst h1 <;> first | rfl | (exact absurd rfl h)
            clear hE2
            go_wp2_with (first
              | ((with_reducible refine gate_dst (N := 73) rfl ?_); refine goesL_ (some 73) rfl rfl Try.func40 (by kernel_rfl) rfl #[ptr (ga 0)] rfl (by first | (simp only [List.map_toArray, List.map_cons, List.map_nil]; rfl) | rfl) ?_; refine (left_is LK0.out).mono ?_; rintro e w1a ⟨rfl, hb⟩; have L1 := Aside0.mk (LK0.out.below hb); have B1 := Aside0.mk (BEL.out.trans (hb.mono BEL.out.size)); have X1 := Aside0.mk (keepB HBT.out hb); clear hb; refine ⟨_, rfl, ?_⟩)
              | ((with_reducible refine gate_dst (N := 75) rfl ?_); refine goesL_ (some 75) rfl rfl Try.func41 (by kernel_rfl) rfl #[ptr (ga 0)] rfl (by first | (simp only [List.map_toArray, List.map_cons, List.map_nil]; rfl) | rfl) ?_; refine (base_is L1.out).mono ?_; rintro e w2a ⟨rfl, hb⟩; have L2 := Aside0.mk (L1.out.below hb); have B2 := Aside0.mk (B1.out.trans (hb.mono B1.out.size)); have X2 := Aside0.mk (keepB X1.out hb); clear hb; refine ⟨_, rfl, ?_⟩)
              | ((with_reducible refine gate_dst (N := 77) rfl ?_); refine goesL_ (some 77) rfl rfl Try.func52 (by kernel_rfl) rfl #[ptr (ga 0)] rfl (by first | (simp only [List.map_toArray, List.map_cons, List.map_nil]; rfl) | rfl) ?_; refine (wants_is L2.out).mono ?_; rintro e w3a ⟨rfl, hb⟩; have L3 := Aside0.mk (L2.out.below hb); have B3 := Aside0.mk (B2.out.trans (hb.mono B2.out.size)); have X3 := Aside0.mk (keepB X2.out hb); clear hb; refine ⟨_, rfl, ?_⟩)
              | ((with_reducible refine gate_dst (N := 79) rfl ?_); refine goesL_ (some 79) rfl rfl Try.func53 (by kernel_rfl) rfl #[ptr (ga 0)] rfl (by first | (simp only [List.map_toArray, List.map_cons, List.map_nil]; rfl) | rfl) ?_; refine (early_is L3.out).mono ?_; rintro e w4a ⟨rfl, hb⟩; have L4 := Aside0.mk (L3.out.below hb); have B4 := Aside0.mk (B3.out.trans (hb.mono B3.out.size)); have X4 := Aside0.mk (keepB X3.out hb); clear hb; clear u0 u1 u2 u3 u4 u5 u6; have u0 : (w4a).cell? ⟨W.heap.size, 0, none⟩ = some (.int .i64 q0) := (blk_cell X4.out 0).trans rfl; have u1 : (w4a).cell? ⟨W.heap.size, 1, none⟩ = some (.int .i64 q1) := (blk_cell X4.out 1).trans rfl; have u2 : (w4a).cell? ⟨W.heap.size, 2, none⟩ = some (.int .i64 1) := (blk_cell X4.out 2).trans rfl; have u3 : (w4a).cell? ⟨W.heap.size, 3, none⟩ = some (.int .i64 2) := (blk_cell X4.out 3).trans rfl; have u4 : (w4a).cell? ⟨W.heap.size, 4, none⟩ = some (.int .i64 q4) := (blk_cell X4.out 4).trans rfl; have u5 : (w4a).cell? ⟨W.heap.size, 5, none⟩ = some (.int .i64 q5) := (blk_cell X4.out 5).trans rfl; have u6 : (w4a).cell? ⟨W.heap.size, 6, none⟩ = some (.string q6) := (blk_cell X4.out 6).trans rfl; refine ⟨_, rfl, ?_⟩)
              | ((with_reducible refine gate_dst (N := 83) rfl ?_); refine goesL_ (some 83) rfl rfl Try.func39 (by kernel_rfl) rfl #[ptr (ga 0), .agg #[.int .i64 q0, .int .i64 q1, .int .i64 1, .int .i64 2, .int .i64 q4, .int .i64 q5, .string q6]] rfl (by first | (simp only [List.map_toArray, List.map_cons, List.map_nil]; rfl) | rfl) ?_; refine (LK.take_is L4.out HBD.out.1 HBD.out.2 (⟨q0, q1, 1, 2, q4, q5, q6⟩ : S28)).mono ?_; rintro e w5a ⟨t, o, v5, rfl, ht, ho, st⟩; rw [HE.out]; rw [HTT.out] at ht; rw [HQQ.out] at ho; obtain ⟨At, ct, rfl⟩ := Kd.R_slice ht; obtain ⟨Ao, co, rfl⟩ := Kd.R_slice ho; have L5 := Aside0.mk (by have h := st.lk; rw [HLL.out] at h; exact h); have B5 := Aside0.mk (B4.out.trans (st.mods.below B4.out.size LOW.out)); clear ht ho st u0 u1 u2 u3 u4 u5 u6; refine ⟨_, rfl, ?_⟩)
              | ((with_reducible refine gate_dst (N := 105) rfl ?_); refine gate_guard (by rfl) ?_; dsimp only; refine goesL_ (some 105) rfl rfl Try.func40 (by kernel_rfl) rfl #[ptr (ga 0)] rfl (by first | (simp only [List.map_toArray, List.map_cons, List.map_nil]; rfl) | rfl) ?_; refine (left_is L5.out).mono ?_; rintro e w6a ⟨rfl, hb⟩; have L6 := Aside0.mk (L5.out.below hb); have B6 := Aside0.mk (B5.out.trans (hb.mono B5.out.size)); clear hb; refine ⟨_, rfl, ?_⟩)
              | ((with_reducible refine gate_dst (N := 111) rfl ?_); refine gate_guard (by rfl) ?_; dsimp only; refine goesL_ (some 111) rfl rfl Try.func41 (by kernel_rfl) rfl #[ptr (ga 0)] rfl (by first | (simp only [List.map_toArray, List.map_cons, List.map_nil]; rfl) | rfl) ?_; refine (base_is L6.out).mono ?_; rintro e w7a ⟨rfl, hb⟩; have L7 := Aside0.mk (L6.out.below hb); have B7 := Aside0.mk (B6.out.trans (hb.mono B6.out.size)); clear hb; refine ⟨_, rfl, ?_⟩)
              | ((with_reducible refine gate_dst (N := 117) rfl ?_); refine gate_guard (by rfl) ?_; dsimp only; refine goesL_ (some 117) rfl rfl Try.func52 (by kernel_rfl) rfl #[ptr (ga 0)] rfl (by first | (simp only [List.map_toArray, List.map_cons, List.map_nil]; rfl) | rfl) ?_; refine (wants_is L7.out).mono ?_; rintro e w8a ⟨rfl, hb⟩; have L8 := Aside0.mk (L7.out.below hb); have B8 := Aside0.mk (B7.out.trans (hb.mono B7.out.size)); clear hb; refine ⟨_, rfl, ?_⟩)
              | ((with_reducible refine gate_dst (N := 123) rfl ?_); refine gate_guard (by rfl) ?_; dsimp only; refine goesL_ (some 123) rfl rfl Try.func53 (by kernel_rfl) rfl #[ptr (ga 0)] rfl (by first | (simp only [List.map_toArray, List.map_cons, List.map_nil]; rfl) | rfl) ?_; refine (early_is L8.out).mono ?_; rintro e w9a ⟨rfl, hb⟩; have L9 := Aside0.mk (L8.out.below hb); have B9 := Aside0.mk (B8.out.trans (hb.mono B8.out.size)); clear hb; refine ⟨_, rfl, ?_⟩))
            all_goals (go_ret; exact ⟨rfl, B9.out⟩)
          · have k3 : (q3 == 1) = false := beq_eq_false_iff_ne.mpr h3
            have u0 : (wr).cell? ⟨W.heap.size, 0, none⟩ = some (.int .i64 q0) := (blk_cell HBX.out 0).trans rfl
            have u1 : (wr).cell? ⟨W.heap.size, 1, none⟩ = some (.int .i64 q1) := (blk_cell HBX.out 1).trans rfl
            have u2 : (wr).cell? ⟨W.heap.size, 2, none⟩ = some (.int .i64 1) := (blk_cell HBX.out 2).trans rfl
            have u3 : (wr).cell? ⟨W.heap.size, 3, none⟩ = some (.int .i64 q3) := (blk_cell HBX.out 3).trans rfl
            have u4 : (wr).cell? ⟨W.heap.size, 4, none⟩ = some (.int .i64 q4) := (blk_cell HBX.out 4).trans rfl
            have u5 : (wr).cell? ⟨W.heap.size, 5, none⟩ = some (.int .i64 q5) := (blk_cell HBX.out 5).trans rfl
            have u6 : (wr).cell? ⟨W.heap.size, 6, none⟩ = some (.string q6) := (blk_cell HBX.out 6).trans rfl
            have LK0 := Aside0.mk (HP.out.lk 0 (by decide))
            have BEL := Aside0.mk HP.out.below
            obtain ⟨E, hE, hE2⟩ : ∃ E, tkE (doN (freshL 1) l n 0).l (⟨q0, q1, 1, q3, q4, q5, q6⟩ : S28) = E ∧ (E = 1 ∨ E = 4) := ⟨_, rfl, old_E (doN_good (f := 1) (by decide) (by decide) l n HNL.out) (fun e => h3 e.2)⟩
            have HE := Aside0.mk hE
            have hT : tkT (doN (freshL 1) l n 0).l (⟨q0, q1, 1, q3, q4, q5, q6⟩ : S28) = [] := if_neg (fun e => by rw [hE] at e; rcases hE2 with h | h <;> (rw [h] at e; exact absurd e.1 (by decide)))
            have hQ : tkP (doN (freshL 1) l n 0).l (⟨q0, q1, 1, q3, q4, q5, q6⟩ : S28) = [] := if_neg (fun e => by rw [hE] at e; rcases hE2 with h | h <;> (rw [h] at e; exact absurd e (by decide)))
            have hL : tkL (doN (freshL 1) l n 0).l (⟨q0, q1, 1, q3, q4, q5, q6⟩ : S28) = (doN (freshL 1) l n 0).l := if_neg (fun e => by rw [hE] at e; rcases hE2 with h | h <;> (rw [h] at e; exact absurd e (by decide)))
            have HTT := Aside0.mk hT
            have HQQ := Aside0.mk hQ
            have HLL := Aside0.mk hL
            clear hE hT hQ hL
            have HBD := Aside0.mk ((doN_good (f := 1) (by decide) (by decide) l n HNL.out).inv.at (i := 0) (by decide)).bd
            generalize (doN (freshL 1) l n 0).l = lk at *
            have hE3 : (E == 1) = false → (E == 4) = true := fun h => by rcases hE2 with h1 | h1 <;> subst h1 <;> first | rfl | (exact absurd h (by decide))
            have hE4 : ¬ E = 1 → (E == 4) = true := fun h => by rcases hE2 with h1 | h1 <;> subst h1 <;> first | rfl | (exact absurd rfl h)
            clear hE2
            go_wp2_with (first
              | ((with_reducible refine gate_dst (N := 73) rfl ?_); refine goesL_ (some 73) rfl rfl Try.func40 (by kernel_rfl) rfl #[ptr (ga 0)] rfl (by first | (simp only [List.map_toArray, List.map_cons, List.map_nil]; rfl) | rfl) ?_; refine (left_is LK0.out).mono ?_; rintro e w1a ⟨rfl, hb⟩; have L1 := Aside0.mk (LK0.out.below hb); have B1 := Aside0.mk (BEL.out.trans (hb.mono BEL.out.size)); have X1 := Aside0.mk (keepB HBX.out hb); clear hb; refine ⟨_, rfl, ?_⟩)
              | ((with_reducible refine gate_dst (N := 75) rfl ?_); refine goesL_ (some 75) rfl rfl Try.func41 (by kernel_rfl) rfl #[ptr (ga 0)] rfl (by first | (simp only [List.map_toArray, List.map_cons, List.map_nil]; rfl) | rfl) ?_; refine (base_is L1.out).mono ?_; rintro e w2a ⟨rfl, hb⟩; have L2 := Aside0.mk (L1.out.below hb); have B2 := Aside0.mk (B1.out.trans (hb.mono B1.out.size)); have X2 := Aside0.mk (keepB X1.out hb); clear hb; refine ⟨_, rfl, ?_⟩)
              | ((with_reducible refine gate_dst (N := 77) rfl ?_); refine goesL_ (some 77) rfl rfl Try.func52 (by kernel_rfl) rfl #[ptr (ga 0)] rfl (by first | (simp only [List.map_toArray, List.map_cons, List.map_nil]; rfl) | rfl) ?_; refine (wants_is L2.out).mono ?_; rintro e w3a ⟨rfl, hb⟩; have L3 := Aside0.mk (L2.out.below hb); have B3 := Aside0.mk (B2.out.trans (hb.mono B2.out.size)); have X3 := Aside0.mk (keepB X2.out hb); clear hb; refine ⟨_, rfl, ?_⟩)
              | ((with_reducible refine gate_dst (N := 79) rfl ?_); refine goesL_ (some 79) rfl rfl Try.func53 (by kernel_rfl) rfl #[ptr (ga 0)] rfl (by first | (simp only [List.map_toArray, List.map_cons, List.map_nil]; rfl) | rfl) ?_; refine (early_is L3.out).mono ?_; rintro e w4a ⟨rfl, hb⟩; have L4 := Aside0.mk (L3.out.below hb); have B4 := Aside0.mk (B3.out.trans (hb.mono B3.out.size)); have X4 := Aside0.mk (keepB X3.out hb); clear hb; clear u0 u1 u2 u3 u4 u5 u6; have u0 : (w4a).cell? ⟨W.heap.size, 0, none⟩ = some (.int .i64 q0) := (blk_cell X4.out 0).trans rfl; have u1 : (w4a).cell? ⟨W.heap.size, 1, none⟩ = some (.int .i64 q1) := (blk_cell X4.out 1).trans rfl; have u2 : (w4a).cell? ⟨W.heap.size, 2, none⟩ = some (.int .i64 1) := (blk_cell X4.out 2).trans rfl; have u3 : (w4a).cell? ⟨W.heap.size, 3, none⟩ = some (.int .i64 q3) := (blk_cell X4.out 3).trans rfl; have u4 : (w4a).cell? ⟨W.heap.size, 4, none⟩ = some (.int .i64 q4) := (blk_cell X4.out 4).trans rfl; have u5 : (w4a).cell? ⟨W.heap.size, 5, none⟩ = some (.int .i64 q5) := (blk_cell X4.out 5).trans rfl; have u6 : (w4a).cell? ⟨W.heap.size, 6, none⟩ = some (.string q6) := (blk_cell X4.out 6).trans rfl; refine ⟨_, rfl, ?_⟩)
              | ((with_reducible refine gate_dst (N := 83) rfl ?_); refine goesL_ (some 83) rfl rfl Try.func39 (by kernel_rfl) rfl #[ptr (ga 0), .agg #[.int .i64 q0, .int .i64 q1, .int .i64 1, .int .i64 q3, .int .i64 q4, .int .i64 q5, .string q6]] rfl (by first | (simp only [List.map_toArray, List.map_cons, List.map_nil]; rfl) | rfl) ?_; refine (LK.take_is L4.out HBD.out.1 HBD.out.2 (⟨q0, q1, 1, q3, q4, q5, q6⟩ : S28)).mono ?_; rintro e w5a ⟨t, o, v5, rfl, ht, ho, st⟩; rw [HE.out]; rw [HTT.out] at ht; rw [HQQ.out] at ho; obtain ⟨At, ct, rfl⟩ := Kd.R_slice ht; obtain ⟨Ao, co, rfl⟩ := Kd.R_slice ho; have L5 := Aside0.mk (by have h := st.lk; rw [HLL.out] at h; exact h); have B5 := Aside0.mk (B4.out.trans (st.mods.below B4.out.size LOW.out)); clear ht ho st u0 u1 u2 u3 u4 u5 u6; refine ⟨_, rfl, ?_⟩)
              | ((with_reducible refine gate_dst (N := 105) rfl ?_); refine gate_guard (by rfl) ?_; dsimp only; refine goesL_ (some 105) rfl rfl Try.func40 (by kernel_rfl) rfl #[ptr (ga 0)] rfl (by first | (simp only [List.map_toArray, List.map_cons, List.map_nil]; rfl) | rfl) ?_; refine (left_is L5.out).mono ?_; rintro e w6a ⟨rfl, hb⟩; have L6 := Aside0.mk (L5.out.below hb); have B6 := Aside0.mk (B5.out.trans (hb.mono B5.out.size)); clear hb; refine ⟨_, rfl, ?_⟩)
              | ((with_reducible refine gate_dst (N := 111) rfl ?_); refine gate_guard (by rfl) ?_; dsimp only; refine goesL_ (some 111) rfl rfl Try.func41 (by kernel_rfl) rfl #[ptr (ga 0)] rfl (by first | (simp only [List.map_toArray, List.map_cons, List.map_nil]; rfl) | rfl) ?_; refine (base_is L6.out).mono ?_; rintro e w7a ⟨rfl, hb⟩; have L7 := Aside0.mk (L6.out.below hb); have B7 := Aside0.mk (B6.out.trans (hb.mono B6.out.size)); clear hb; refine ⟨_, rfl, ?_⟩)
              | ((with_reducible refine gate_dst (N := 117) rfl ?_); refine gate_guard (by rfl) ?_; dsimp only; refine goesL_ (some 117) rfl rfl Try.func52 (by kernel_rfl) rfl #[ptr (ga 0)] rfl (by first | (simp only [List.map_toArray, List.map_cons, List.map_nil]; rfl) | rfl) ?_; refine (wants_is L7.out).mono ?_; rintro e w8a ⟨rfl, hb⟩; have L8 := Aside0.mk (L7.out.below hb); have B8 := Aside0.mk (B7.out.trans (hb.mono B7.out.size)); clear hb; refine ⟨_, rfl, ?_⟩)
              | ((with_reducible refine gate_dst (N := 123) rfl ?_); refine gate_guard (by rfl) ?_; dsimp only; refine goesL_ (some 123) rfl rfl Try.func53 (by kernel_rfl) rfl #[ptr (ga 0)] rfl (by first | (simp only [List.map_toArray, List.map_cons, List.map_nil]; rfl) | rfl) ?_; refine (early_is L8.out).mono ?_; rintro e w9a ⟨rfl, hb⟩; have L9 := Aside0.mk (L8.out.below hb); have B9 := Aside0.mk (B8.out.trans (hb.mono B8.out.size)); clear hb; refine ⟨_, rfl, ?_⟩))
            all_goals (go_ret; exact ⟨rfl, B9.out⟩)
        · have k2 : (q2 == 1) = false := beq_eq_false_iff_ne.mpr h2
          have u0 : (wr).cell? ⟨W.heap.size, 0, none⟩ = some (.int .i64 q0) := (blk_cell HBX.out 0).trans rfl
          have u1 : (wr).cell? ⟨W.heap.size, 1, none⟩ = some (.int .i64 q1) := (blk_cell HBX.out 1).trans rfl
          have u2 : (wr).cell? ⟨W.heap.size, 2, none⟩ = some (.int .i64 q2) := (blk_cell HBX.out 2).trans rfl
          have u3 : (wr).cell? ⟨W.heap.size, 3, none⟩ = some (.int .i64 q3) := (blk_cell HBX.out 3).trans rfl
          have u4 : (wr).cell? ⟨W.heap.size, 4, none⟩ = some (.int .i64 q4) := (blk_cell HBX.out 4).trans rfl
          have u5 : (wr).cell? ⟨W.heap.size, 5, none⟩ = some (.int .i64 q5) := (blk_cell HBX.out 5).trans rfl
          have u6 : (wr).cell? ⟨W.heap.size, 6, none⟩ = some (.string q6) := (blk_cell HBX.out 6).trans rfl
          have LK0 := Aside0.mk (HP.out.lk 0 (by decide))
          have BEL := Aside0.mk HP.out.below
          obtain ⟨E, hE, hE2⟩ : ∃ E, tkE (doN (freshL 1) l n 0).l (⟨q0, q1, q2, q3, q4, q5, q6⟩ : S28) = E ∧ (E = 1 ∨ E = 4) := ⟨_, rfl, old_E (doN_good (f := 1) (by decide) (by decide) l n HNL.out) (fun e => h2 e.1)⟩
          have HE := Aside0.mk hE
          have hT : tkT (doN (freshL 1) l n 0).l (⟨q0, q1, q2, q3, q4, q5, q6⟩ : S28) = [] := if_neg (fun e => by rw [hE] at e; rcases hE2 with h | h <;> (rw [h] at e; exact absurd e.1 (by decide)))
          have hQ : tkP (doN (freshL 1) l n 0).l (⟨q0, q1, q2, q3, q4, q5, q6⟩ : S28) = [] := if_neg (fun e => by rw [hE] at e; rcases hE2 with h | h <;> (rw [h] at e; exact absurd e (by decide)))
          have hL : tkL (doN (freshL 1) l n 0).l (⟨q0, q1, q2, q3, q4, q5, q6⟩ : S28) = (doN (freshL 1) l n 0).l := if_neg (fun e => by rw [hE] at e; rcases hE2 with h | h <;> (rw [h] at e; exact absurd e (by decide)))
          have HTT := Aside0.mk hT
          have HQQ := Aside0.mk hQ
          have HLL := Aside0.mk hL
          clear hE hT hQ hL
          have HBD := Aside0.mk ((doN_good (f := 1) (by decide) (by decide) l n HNL.out).inv.at (i := 0) (by decide)).bd
          generalize (doN (freshL 1) l n 0).l = lk at *
          have hE3 : (E == 1) = false → (E == 4) = true := fun h => by rcases hE2 with h1 | h1 <;> subst h1 <;> first | rfl | (exact absurd h (by decide))
          have hE4 : ¬ E = 1 → (E == 4) = true := fun h => by rcases hE2 with h1 | h1 <;> subst h1 <;> first | rfl | (exact absurd rfl h)
          clear hE2
          go_wp2_with (first
            | ((with_reducible refine gate_dst (N := 73) rfl ?_); refine goesL_ (some 73) rfl rfl Try.func40 (by kernel_rfl) rfl #[ptr (ga 0)] rfl (by first | (simp only [List.map_toArray, List.map_cons, List.map_nil]; rfl) | rfl) ?_; refine (left_is LK0.out).mono ?_; rintro e w1a ⟨rfl, hb⟩; have L1 := Aside0.mk (LK0.out.below hb); have B1 := Aside0.mk (BEL.out.trans (hb.mono BEL.out.size)); have X1 := Aside0.mk (keepB HBX.out hb); clear hb; refine ⟨_, rfl, ?_⟩)
            | ((with_reducible refine gate_dst (N := 75) rfl ?_); refine goesL_ (some 75) rfl rfl Try.func41 (by kernel_rfl) rfl #[ptr (ga 0)] rfl (by first | (simp only [List.map_toArray, List.map_cons, List.map_nil]; rfl) | rfl) ?_; refine (base_is L1.out).mono ?_; rintro e w2a ⟨rfl, hb⟩; have L2 := Aside0.mk (L1.out.below hb); have B2 := Aside0.mk (B1.out.trans (hb.mono B1.out.size)); have X2 := Aside0.mk (keepB X1.out hb); clear hb; refine ⟨_, rfl, ?_⟩)
            | ((with_reducible refine gate_dst (N := 77) rfl ?_); refine goesL_ (some 77) rfl rfl Try.func52 (by kernel_rfl) rfl #[ptr (ga 0)] rfl (by first | (simp only [List.map_toArray, List.map_cons, List.map_nil]; rfl) | rfl) ?_; refine (wants_is L2.out).mono ?_; rintro e w3a ⟨rfl, hb⟩; have L3 := Aside0.mk (L2.out.below hb); have B3 := Aside0.mk (B2.out.trans (hb.mono B2.out.size)); have X3 := Aside0.mk (keepB X2.out hb); clear hb; refine ⟨_, rfl, ?_⟩)
            | ((with_reducible refine gate_dst (N := 79) rfl ?_); refine goesL_ (some 79) rfl rfl Try.func53 (by kernel_rfl) rfl #[ptr (ga 0)] rfl (by first | (simp only [List.map_toArray, List.map_cons, List.map_nil]; rfl) | rfl) ?_; refine (early_is L3.out).mono ?_; rintro e w4a ⟨rfl, hb⟩; have L4 := Aside0.mk (L3.out.below hb); have B4 := Aside0.mk (B3.out.trans (hb.mono B3.out.size)); have X4 := Aside0.mk (keepB X3.out hb); clear hb; clear u0 u1 u2 u3 u4 u5 u6; have u0 : (w4a).cell? ⟨W.heap.size, 0, none⟩ = some (.int .i64 q0) := (blk_cell X4.out 0).trans rfl; have u1 : (w4a).cell? ⟨W.heap.size, 1, none⟩ = some (.int .i64 q1) := (blk_cell X4.out 1).trans rfl; have u2 : (w4a).cell? ⟨W.heap.size, 2, none⟩ = some (.int .i64 q2) := (blk_cell X4.out 2).trans rfl; have u3 : (w4a).cell? ⟨W.heap.size, 3, none⟩ = some (.int .i64 q3) := (blk_cell X4.out 3).trans rfl; have u4 : (w4a).cell? ⟨W.heap.size, 4, none⟩ = some (.int .i64 q4) := (blk_cell X4.out 4).trans rfl; have u5 : (w4a).cell? ⟨W.heap.size, 5, none⟩ = some (.int .i64 q5) := (blk_cell X4.out 5).trans rfl; have u6 : (w4a).cell? ⟨W.heap.size, 6, none⟩ = some (.string q6) := (blk_cell X4.out 6).trans rfl; refine ⟨_, rfl, ?_⟩)
            | ((with_reducible refine gate_dst (N := 83) rfl ?_); refine goesL_ (some 83) rfl rfl Try.func39 (by kernel_rfl) rfl #[ptr (ga 0), .agg #[.int .i64 q0, .int .i64 q1, .int .i64 q2, .int .i64 q3, .int .i64 q4, .int .i64 q5, .string q6]] rfl (by first | (simp only [List.map_toArray, List.map_cons, List.map_nil]; rfl) | rfl) ?_; refine (LK.take_is L4.out HBD.out.1 HBD.out.2 (⟨q0, q1, q2, q3, q4, q5, q6⟩ : S28)).mono ?_; rintro e w5a ⟨t, o, v5, rfl, ht, ho, st⟩; rw [HE.out]; rw [HTT.out] at ht; rw [HQQ.out] at ho; obtain ⟨At, ct, rfl⟩ := Kd.R_slice ht; obtain ⟨Ao, co, rfl⟩ := Kd.R_slice ho; have L5 := Aside0.mk (by have h := st.lk; rw [HLL.out] at h; exact h); have B5 := Aside0.mk (B4.out.trans (st.mods.below B4.out.size LOW.out)); clear ht ho st u0 u1 u2 u3 u4 u5 u6; refine ⟨_, rfl, ?_⟩)
            | ((with_reducible refine gate_dst (N := 105) rfl ?_); refine gate_guard (by rfl) ?_; dsimp only; refine goesL_ (some 105) rfl rfl Try.func40 (by kernel_rfl) rfl #[ptr (ga 0)] rfl (by first | (simp only [List.map_toArray, List.map_cons, List.map_nil]; rfl) | rfl) ?_; refine (left_is L5.out).mono ?_; rintro e w6a ⟨rfl, hb⟩; have L6 := Aside0.mk (L5.out.below hb); have B6 := Aside0.mk (B5.out.trans (hb.mono B5.out.size)); clear hb; refine ⟨_, rfl, ?_⟩)
            | ((with_reducible refine gate_dst (N := 111) rfl ?_); refine gate_guard (by rfl) ?_; dsimp only; refine goesL_ (some 111) rfl rfl Try.func41 (by kernel_rfl) rfl #[ptr (ga 0)] rfl (by first | (simp only [List.map_toArray, List.map_cons, List.map_nil]; rfl) | rfl) ?_; refine (base_is L6.out).mono ?_; rintro e w7a ⟨rfl, hb⟩; have L7 := Aside0.mk (L6.out.below hb); have B7 := Aside0.mk (B6.out.trans (hb.mono B6.out.size)); clear hb; refine ⟨_, rfl, ?_⟩)
            | ((with_reducible refine gate_dst (N := 117) rfl ?_); refine gate_guard (by rfl) ?_; dsimp only; refine goesL_ (some 117) rfl rfl Try.func52 (by kernel_rfl) rfl #[ptr (ga 0)] rfl (by first | (simp only [List.map_toArray, List.map_cons, List.map_nil]; rfl) | rfl) ?_; refine (wants_is L7.out).mono ?_; rintro e w8a ⟨rfl, hb⟩; have L8 := Aside0.mk (L7.out.below hb); have B8 := Aside0.mk (B7.out.trans (hb.mono B7.out.size)); clear hb; refine ⟨_, rfl, ?_⟩)
            | ((with_reducible refine gate_dst (N := 123) rfl ?_); refine gate_guard (by rfl) ?_; dsimp only; refine goesL_ (some 123) rfl rfl Try.func53 (by kernel_rfl) rfl #[ptr (ga 0)] rfl (by first | (simp only [List.map_toArray, List.map_cons, List.map_nil]; rfl) | rfl) ?_; refine (early_is L8.out).mono ?_; rintro e w9a ⟨rfl, hb⟩; have L9 := Aside0.mk (L8.out.below hb); have B9 := Aside0.mk (B8.out.trans (hb.mono B8.out.size)); clear hb; refine ⟨_, rfl, ?_⟩))
          all_goals (go_ret; exact ⟨rfl, B9.out⟩)
    | succ k1 =>
      have hn : n < l.length := by have := HN.out; omega
      have hn2 : n < 40 := by have := HN.out; omega
      have d1 : decide ((n : Int) < (l.length : Int)) = true := decide_eq_true (by omega)
      have d2 : decide ((n : Int) < 40) = true := decide_eq_true (by omega)
      have i0 : (0 : Int) ≤ (n : Int) := by omega
      have i1 : (n : Int) < (l.length : Int) := by omega
      have HL := Aside0.mk hn
      have HL2 := Aside0.mk hn2
      obtain ⟨va, sv, gv, ow, hp⟩ := HD.out
      obtain ⟨x, hx⟩ : ∃ x, rd_T109 l (n : Int) = x := ⟨_, rfl⟩
      obtain ⟨ad, hA, _⟩ := at_T109 HC.out (n : Int) i0 i1
      have HX9 := Aside0.mk hx
      have HP := Aside0.mk hp
      have HZ := Aside0.mk (show x.f3.size ≤ 9223372036854775807 by rw [← hx]; exact size109 HG.out hn)
      clear hx hp
      subst hA
      obtain ⟨e0, e1, e2, e3⟩ := cells109 HC.out HP.out.below hn HX9.out rfl
      go_wp2_with (first
        | ((with_reducible refine gate_dst (N := 56) rfl ?_); refine goesL_ (some 56) rfl rfl Try.func58 (by kernel_rfl) rfl #[ptr bx, .agg #[.int .i64 x.f0, .int .i64 x.f1, .int .i64 x.f2, .string x.f3]] rfl (by first | (simp only [List.map_toArray, List.map_cons, List.map_nil]; rfl) | rfl) ?_; refine (do_is HP.out (doN_good (by decide) (by decide) l n (by have := HL.out; omega)) (fun j _ => Nat.le_trans (doN_sent 1 l n (by have := HL.out; omega) j) (by have := HL2.out; omega)) x HZ.out).mono ?_; rintro e w8 ⟨rfl, va', sv', gv', ow', hp⟩; have HP8 := Aside0.mk (show PS w1 w8 bx gN ga ma va' sv' gv' ow' (doN (freshL 1) l (n + 1)) by rw [doN_succ _ HL.out, HX9.out]; exact hp); clear hp e0 e1 e2 e3; refine ⟨_, rfl, ?_⟩))
      go_roundg k1
      case measure => omega
      case rel => exact ⟨n + 1, by first | rfl | (simp; done) | (simp; unfold wrap64; omega), ⟨by have := HN.out; omega⟩, ⟨⟨_, _, _, _, HP8.out⟩⟩⟩
end Go.Proofs.Ytdibaeomepallaa.LK
