/- The law NetPlays' walk. -/
import Derived.Test.YtdibaeomepallaaPi
namespace Go.Proofs.Ytdibaeomepallaa.NW
open Go.RowKit Go.Proofs.YtdibaeomepallaaW.PrintWords Go.Proofs.YtdibaeomepallaaW.PrintLast Go.Proofs.YtdibaeomepallaaW.PrintMore Go.Proofs.Ytdibaeomepallaa.PAll
set_option linter.unusedVariables false
set_option linter.unusedSimpArgs false
set_option maxRecDepth 100000
attribute [local go_sem high] eqA52 eqA58
theorem info42s : (Try.prog.info? 42).map (·.size) = some 12 := by kernel_rfl
theorem pi_start {w w10 W : World} {F : Nat → Prop} (hn : NetW w10 F w.heap.size q0 a0) (hF : ∀ k, F k → w.heap.size ≤ k) (hb : Below w.heap.size w w10) (hW : W = w10.alloc (.cells #[.slice none 0 0, .slice none 0 0] 40 (0, 0))) :
    PI w w.heap.size w10.heap.size 0 q0 [] a0 [] none 0 none 0 (fun k => F k ∧ k < w10.heap.size) W := by
  subst hW
  have hb1 := below_alloc (Below.refl w10.heap.size w10) (.cells #[.slice none 0 0, .slice none 0 0] 40 (0, 0))
  have hn1 : NetW (w10.alloc (.cells #[.slice none 0 0, .slice none 0 0] 40 (0, 0))) (fun k => F k ∧ k < w10.heap.size) w.heap.size q0 a0 := (hn.mono (fun k hk hF => ⟨hF, hk⟩)).below hb1
  exact ⟨hn1, fun k hk => hF k hk.1, nrel_new, arel_new, Nat.zero_le _, Nat.le_refl _, blk_new w10 _, fun h => Nat.lt_irrefl _ h.2, Nat.le_refl _, Nat.le_refl _, Kd.F_nil _ _ _, Kd.F_nil _ _ _, hb.trans (hb1.mono hb.size)⟩
/-- An act's cells, read in any later world. -/
theorem cells42 {w W : World} {Al : Option Addr} {l : List S42} {i : Nat} {x : S42} {ad : Addr} (hl : Kd.C k42 w Al l.length l) (hb : Below w.heap.size w W) (hi : i < l.length) (hx : rd_T42 l (i : Int) = x) (hA : Al = some ad) : W.cell? (ad.add (i * 12)) = some (.int .i64 x.f0) ∧ W.cell? ⟨(ad.add (i * 12)).block, (ad.add (i * 12)).off + 1, none⟩ = some (.int .i64 x.f1.f0) ∧ W.cell? ⟨(ad.add (i * 12)).block, (ad.add (i * 12)).off + 2, none⟩ = some (.int .i64 x.f1.f1) ∧ W.cell? ⟨(ad.add (i * 12)).block, (ad.add (i * 12)).off + 3, none⟩ = some (.int .i64 x.f1.f2) ∧ W.cell? ⟨(ad.add (i * 12)).block, (ad.add (i * 12)).off + 4, none⟩ = some (.int .i64 x.f1.f3) ∧ W.cell? ⟨(ad.add (i * 12)).block, (ad.add (i * 12)).off + 5, none⟩ = some (.int .i64 x.f1.f4) ∧ W.cell? ⟨(ad.add (i * 12)).block, (ad.add (i * 12)).off + 6, none⟩ = some (.int .i64 x.f1.f5) ∧ W.cell? ⟨(ad.add (i * 12)).block, (ad.add (i * 12)).off + 7, none⟩ = some (.string x.f1.f6) ∧ W.cell? ⟨(ad.add (i * 12)).block, (ad.add (i * 12)).off + 8, none⟩ = some (.int .i64 x.f2.f0) ∧ W.cell? ⟨(ad.add (i * 12)).block, (ad.add (i * 12)).off + 9, none⟩ = some (.int .i64 x.f2.f1) ∧ W.cell? ⟨(ad.add (i * 12)).block, (ad.add (i * 12)).off + 10, none⟩ = some (.int .i64 x.f3) ∧ W.cell? ⟨(ad.add (i * 12)).block, (ad.add (i * 12)).off + 11, none⟩ = some (.bool x.f4) := by
  obtain ⟨ad', hA', e⟩ := at_T42 (Kd.C_below hl hb) (i : Int) (by omega) (by omega)
  rw [hA] at hA'
  injection hA' with hA'
  subst hA'
  rw [Int.toNat_natCast, hx] at e
  exact e
/-- What stands behind an act, its document's net not yet laid into its box b6. -/
def PJ (w wr : World) (g B b6 : Nat) (F : Nat → Prop) (q : List (List Pk)) (ap : List Bool) (L : List Pk) (A : List S52) (A0 : Option Addr) (c0 : Nat) (A1 : Option Addr) (c1 : Nat) (w' : World) : Prop :=
  wr.heap.size ≤ b6 ∧ w'.heap[b6]? = some (.cells #[.slice none 0 0, .slice none 0 0] 40 (0, 0)) ∧ ∃ F', ¬ F' b6 ∧ NetW w' F' g q ap ∧ (∀ k, F' k → F k ∨ wr.heap.size ≤ k) ∧ RF k58 w' (fun k => ¬ F' k) (.slice A0 L.length c0) (L.map to58) ∧ RF k52 w' (fun k => ¬ F' k) (.slice A1 A.length c1) A ∧ Mods F wr w'
/-- The act first, then the box. -/
theorem pj_one {w wr w22 : World} {g B : Nat} {F F' : Nat → Prop} {q : List (List Pk)} {ap : List Bool} {L : List Pk} {A : List S52} {A0 : Option Addr} {c0 : Nat} {A1 : Option Addr} {c1 : Nat}
    (hn : NetW w22 F' g q ap) (hF : ∀ k, F' k → F k ∨ wr.heap.size ≤ k) (r0 : RF k58 w22 (fun k => ¬ F' k) (.slice A0 L.length c0) (L.map to58)) (r1 : RF k52 w22 (fun k => ¬ F' k) (.slice A1 A.length c1) A) (hm : Mods F wr w22) :
    PJ w wr g B w22.heap.size F q ap L A A0 c0 A1 c1 (w22.alloc (.cells #[.slice none 0 0, .slice none 0 0] 40 (0, 0))) := by
  have hb := below_alloc (Below.refl w22.heap.size w22) (.cells #[.slice none 0 0, .slice none 0 0] 40 (0, 0))
  exact ⟨hm.size, blk_new _ _, fun k => F' k ∧ k < w22.heap.size, fun e => Nat.lt_irrefl _ e.2, (hn.mono (fun k hk hF => ⟨hF, hk⟩)).below hb, fun k hk => hF k hk.1, (r0.below hb).mono (fun k hk e => hk e.1), (r1.below hb).mono (fun k hk e => hk e.1), hm.alloc _⟩
/-- The box first, then the act. -/
theorem pj_two {w wr w22 : World} {g B : Nat} {F F' : Nat → Prop} {q : List (List Pk)} {ap : List Bool} {L : List Pk} {A : List S52} {A0 : Option Addr} {c0 : Nat} {A1 : Option Addr} {c1 : Nat}
    (hn : NetW w22 F' g q ap) (hF : ∀ k, F' k → (F k ∧ k < wr.heap.size) ∨ (wr.alloc (.cells #[.slice none 0 0, .slice none 0 0] 40 (0, 0))).heap.size ≤ k) (r0 : RF k58 w22 (fun k => ¬ F' k) (.slice A0 L.length c0) (L.map to58)) (r1 : RF k52 w22 (fun k => ¬ F' k) (.slice A1 A.length c1) A) (hm : Mods (fun k => F k ∧ k < wr.heap.size) (wr.alloc (.cells #[.slice none 0 0, .slice none 0 0] 40 (0, 0))) w22) :
    PJ w wr g B wr.heap.size F q ap L A A0 c0 A1 c1 w22 := by
  have hb := below_alloc (Below.refl wr.heap.size wr) (.cells #[.slice none 0 0, .slice none 0 0] 40 (0, 0))
  have hlt := blk_lt (blk_new wr (.cells #[.slice none 0 0, .slice none 0 0] 40 (0, 0)))
  refine ⟨Nat.le_refl _, mods_box (blk_new _ _) hm (fun e => Nat.lt_irrefl _ e.2), F', fun e => (hF _ e).elim (fun e => Nat.lt_irrefl _ e.2) (fun e => by omega), hn, fun k hk => (hF k hk).elim (fun e => .inl e.1) (fun e => .inr (Nat.le_trans hb.size e)), r0, r1, Mods.after_below hb (hm.mono (fun k _ hk => hk.1))⟩
/-- The document's net laid into b6, then into the variable's box. -/
theorem pj_fin {w wr w' W : World} {g B b6 i : Nat} {F : Nat → Prop} {q q' : List (List Pk)} {ap ap' : List Bool} {L L' : List Pk} {A A' : List S52} {A0 A0' : Option Addr} {c0 c0' : Nat} {A1 A1' : Option Addr} {c1 c1' : Nat}
    (h : PI w g B i q L ap A A0 c0 A1 c1 F wr) (hBy : w.heap.size ≤ B) (hr : NRel q' L') (ha : ARel ap' A') (hl : L'.length ≤ 400) (hal : A'.length ≤ i + 1)
    (hj : PJ w wr g B b6 F q' ap' L' A' A0' c0' A1' c1' w') (hb : Below (w'.setRow b6 #[.slice A0' L'.length c0', .slice A1' A'.length c1']).heap.size (w'.setRow b6 #[.slice A0' L'.length c0', .slice A1' A'.length c1']) W) :
    ∃ F', PI w g B (i + 1) q' L' ap' A' A0' c0' A1' c1' F' (W.setRow B #[.slice A0' L'.length c0', .slice A1' A'.length c1']) := by
  obtain ⟨hb6, hbox, F', hF6, hn, hF', r0, r1, hm⟩ := hj
  have hs : Mods (fun k => k = b6) w' (w'.setRow b6 #[.slice A0' L'.length c0', .slice A1' A'.length c1']) := Mods.setRow (Mods.refl (fun k => k = b6) w') (.inl rfl) _
  have hn2 := hn.mods hs (fun k _ hk e => hF6 (e ▸ hk))
  have s0 := ((rf_narrow58 r0 hbox).step (W1 := w'.setRow b6 #[.slice A0' L'.length c0', .slice A1' A'.length c1']) (fun k hk _ => setRow_other _ _ _ _ hk.2))
  have s1 := ((rf_narrow52 r1 hbox).step (W1 := w'.setRow b6 #[.slice A0' L'.length c0', .slice A1' A'.length c1']) (fun k hk _ => setRow_other _ _ _ _ hk.2))
  have hm2 : Mods F wr (w'.setRow b6 #[.slice A0' L'.length c0', .slice A1' A'.length c1']) := hm.setRow (.inr hb6) _
  have hX := setRow_heap _ _ _ #[.slice A0' L'.length c0', .slice A1' A'.length c1'] _ _ hbox
  refine ⟨fun k => F' k ∧ k ≠ b6, h.turn hBy hr ha hl hal (hn2.mono (fun k _ hk => ⟨hk, fun e => hF6 (e ▸ hk)⟩)) (fun k hk => hF' k hk.1) (s0.mono (fun k hk e => hk.1 e.1)) (s1.mono (fun k hk e => hk.1 e.1)) hm2 hb⟩
section
variable (Al : Option Addr) (cl : Nat) (l : List S42) (w : World)
set_option maxHeartbeats 4000000 in
theorem netPlays_walk {G0 : Prop} (hl : Kd.C k42 w Al l.length l) (hcl : l.length ≤ cl) (g0 : G0) (hm0 : l.length ≤ maxLen) :
    Calls Try.prog 4 #[.slice Al l.length cl] w fun e w' => e = .returned (.bool true) ∧ Below w.heap.size w w' := by
  have hu40 := Try.underlying40
  have hu42 := Try.underlying42
  have hu28 := Try.underlying28
  have HL := Aside0.mk hl
  clear hl
  go_enter Try.func4, Try.ntmps4
  go_wp2_with (first
    | ((with_reducible refine gate_dst (N := 8) rfl ?_); refine goesL_ (some 8) rfl rfl Try.func15 (by kernel_rfl) rfl #[] rfl (by simp) ?_; refine (St.new w _ (Below.refl _ _)).mono ?_; rintro e w10 ⟨rfl, hs⟩; obtain ⟨F, hn, hF, hLL⟩ := hs.ex; have HN := Aside0.mk hn; have HF := Aside0.mk hF; have HB := Aside0.mk hs.below; clear hs hn hF hLL; refine ⟨_, rfl, ?_⟩)
    | ((with_reducible refine gate_dst (N := 10) rfl ?_); refine goesL_ (some 10) rfl rfl Try.func16 (by kernel_rfl) rfl #[] rfl (by simp) ?_; refine (awake_is _).mono ?_; rintro e w16 ⟨rfl, hb⟩; have HP := Aside0.mk ((pi_start HN.out HF.out HB.out rfl).bel hb (Nat.le_refl 0)); have HB0 := Aside0.mk HB.out.size; clear hb HN HF HB; refine ⟨_, rfl, ?_⟩))
  obtain ⟨B, hBw⟩ : ∃ B, B = w10.heap.size := ⟨_, rfl⟩
  rw [← hBw] at HP HB0 ⊢
  clear hBw
  go_loopg [5] l.length (fun kq v5 w' => ∃ (i : Nat) (q : List (List Pk)) (L : List Pk) (ap : List Bool) (A : List S52) (A0 : Option Addr) (c0 : Nat) (A1 : Option Addr) (c1 : Nat) (F : Nat → Prop), v5 = .int .i64 i ∧ Aside0 (PI w w.heap.size B i q L ap A A0 c0 A1 c1 F w') ∧ Aside0 (i + kq = l.length) ∧ i ≤ 60)
  case atStart => exact ⟨0, _, _, _, _, _, _, _, _, _, rfl, HP, ⟨by omega⟩, by omega⟩
  case round =>
    clear HP
    obtain ⟨i, q, L, ap, A, A0, c0, A1, c1, F, rfl, HP, HK, hi60⟩ := hrel
    cases gk with
    | zero =>
      have e : i = l.length := by have := HK.out; omega
      subst e
      have d1 : decide ((l.length : Int) < (l.length : Int)) = false := decide_eq_false (by omega)
      go_wp2
      go_ret
      exact ⟨rfl, HP.out.below⟩
    | succ k1 =>
      have hi : i < l.length := by have := HK.out; omega
      have d1 : decide ((i : Int) < (l.length : Int)) = true := decide_eq_true (by omega)
      by_cases h6 : i < 60
      · have d2 : decide ((i : Int) < 60) = true := decide_eq_true (by omega)
        have i0 : (0 : Int) ≤ (i : Int) := by omega
        have i1 : (i : Int) < (l.length : Int) := by omega
        obtain ⟨x, hx⟩ : ∃ x, rd_T42 l (i : Int) = x := ⟨_, rfl⟩
        obtain ⟨ad, hA, _⟩ := at_T42 HL.out (i : Int) i0 i1
        have HX := Aside0.mk hx
        have HAl := Aside0.mk hA
        clear hx
        subst hA
        obtain ⟨e0, e1, e2, e3, e4, e5, e6, e7, e8, e9, e10, e11⟩ := cells42 HL.out HP.out.below hi HX.out rfl
        by_cases hbig : 2000 < x.f1.f6.size
        · have d3 : decide ((2000 : Int) < (x.f1.f6.size : Int)) = true := decide_eq_true (by omega)
          go_wp2
          go_roundg k1
          case measure => omega
          case rel => exact ⟨i + 1, q, L, ap, A, A0, c0, A1, c1, F, by first | rfl | (simp; done) | (simp; unfold wrap64; omega), ⟨HP.out.bel (Below.refl _ _) (Nat.le_succ i)⟩, ⟨by have := HK.out; omega⟩, by omega⟩
        · have d3 : decide ((2000 : Int) < (x.f1.f6.size : Int)) = false := decide_eq_false (by omega)
          go_wp2
          have b0 : wr.drew.cell? ⟨B, 0, none⟩ = some (.slice A0 L.length c0) := (blk_cell HP.out.box 0).trans rfl
          have b1 : wr.drew.cell? ⟨B, 1, none⟩ = some (.slice A1 A.length c1) := (blk_cell HP.out.box 1).trans rfl
          refine start_ (n := 13) (S := fun w' => w'.cell? ⟨B, 0, none⟩ = some (.slice A0 L.length c0) ∧ w'.cell? ⟨B, 1, none⟩ = some (.slice A1 A.length c1) ∧ w'.cell? (ad.add (i * 12)) = some (.int .i64 x.f0) ∧ w'.cell? ⟨(ad.add (i * 12)).block, (ad.add (i * 12)).off + 1, none⟩ = some (.int .i64 x.f1.f0) ∧ w'.cell? ⟨(ad.add (i * 12)).block, (ad.add (i * 12)).off + 2, none⟩ = some (.int .i64 x.f1.f1) ∧ w'.cell? ⟨(ad.add (i * 12)).block, (ad.add (i * 12)).off + 3, none⟩ = some (.int .i64 x.f1.f2) ∧ w'.cell? ⟨(ad.add (i * 12)).block, (ad.add (i * 12)).off + 4, none⟩ = some (.int .i64 x.f1.f3) ∧ w'.cell? ⟨(ad.add (i * 12)).block, (ad.add (i * 12)).off + 5, none⟩ = some (.int .i64 x.f1.f4) ∧ w'.cell? ⟨(ad.add (i * 12)).block, (ad.add (i * 12)).off + 6, none⟩ = some (.int .i64 x.f1.f5) ∧ w'.cell? ⟨(ad.add (i * 12)).block, (ad.add (i * 12)).off + 7, none⟩ = some (.string x.f1.f6) ∧ w'.cell? ⟨(ad.add (i * 12)).block, (ad.add (i * 12)).off + 8, none⟩ = some (.int .i64 x.f2.f0) ∧ w'.cell? ⟨(ad.add (i * 12)).block, (ad.add (i * 12)).off + 9, none⟩ = some (.int .i64 x.f2.f1) ∧ w'.cell? ⟨(ad.add (i * 12)).block, (ad.add (i * 12)).off + 10, none⟩ = some (.int .i64 x.f3) ∧ w'.cell? ⟨(ad.add (i * 12)).block, (ad.add (i * 12)).off + 11, none⟩ = some (.bool x.f4)) (ds := [11]) #[false, false, false, false, false, false, false, false, false, false, false, false, false] (by kernel_rfl) rfl rfl ⟨b0, b1, e0, e1, e2, e3, e4, e5, e6, e7, e8, e9, e10, e11⟩ (fun hHeld => ?_)
          refine pure_ (i := 0) (N := some 35) (v := ?_) (a' := ?_) #[true, false, false, false, false, false, false, false, false, false, false, false, false] rfl rfl (by kernel_rfl) (fun _ _ _ h => h) (Or.inl ⟨by rfl, ?_⟩) ?_ ?_
          rotate_left
          · intro w'; go_simp; with_reducible rfl
          rotate_left
          · simp only [Act.put, List.setIfInBounds_toArray, List.set_cons_zero, List.set_cons_succ, i64_w, i32_w]; rfl
          refine take_ (i := 1) (N := some 36) (v := ?_) (a' := ?_) #[true, true, false, false, false, false, false, false, false, false, false, false, false] rfl rfl (by kernel_rfl) (fun _ _ _ h => h) (Or.inl ⟨by rfl, ?_⟩) hHeld ?_ ?_
          rotate_left
          · rintro w' ⟨s0, s1, s2, s3, s4, s5, s6, s7, s8, s9, s10, s11, s12, s13⟩; go_simp; with_reducible rfl
          rotate_left
          · simp only [Act.put, List.setIfInBounds_toArray, List.set_cons_zero, List.set_cons_succ, i64_w, i32_w]; rfl
          refine pure_ (i := 2) (N := some 37) (v := ?_) (a' := ?_) #[true, true, true, false, false, false, false, false, false, false, false, false, false] rfl rfl (by kernel_rfl) (fun _ _ _ h => h) (Or.inl ⟨by rfl, ?_⟩) ?_ ?_
          rotate_left
          · intro w'; go_simp; with_reducible rfl
          rotate_left
          · simp only [Act.put, List.setIfInBounds_toArray, List.set_cons_zero, List.set_cons_succ, i64_w, i32_w]; rfl
          refine pure_ (i := 3) (N := some 38) (v := ?_) (a' := ?_) #[true, true, true, true, false, false, false, false, false, false, false, false, false] rfl rfl (by kernel_rfl) (fun _ _ _ h => h) (Or.inl ⟨by rfl, ?_⟩) ?_ ?_
          rotate_left
          · intro w'; go_simp; with_reducible rfl
          rotate_left
          · simp only [Act.put, List.setIfInBounds_toArray, List.set_cons_zero, List.set_cons_succ, i64_w, i32_w]; rfl
          refine pure_ (i := 4) (N := some 39) (v := ?_) (a' := ?_) #[true, true, true, true, true, false, false, false, false, false, false, false, false] rfl rfl (by kernel_rfl) (fun _ _ _ h => h) (Or.inl ⟨by rfl, ?_⟩) ?_ ?_
          rotate_left
          · intro w'; go_simp; with_reducible rfl
          rotate_left
          · simp only [Act.put, List.setIfInBounds_toArray, List.set_cons_zero, List.set_cons_succ, i64_w, i32_w]; rfl
          refine take_ (i := 5) (N := some 40) (v := ?_) (a' := ?_) #[true, true, true, true, true, true, false, false, false, false, false, false, false] rfl rfl (by kernel_rfl) (fun _ _ _ h => h) (Or.inl ⟨by rfl, ?_⟩) hHeld ?_ ?_
          rotate_left
          · rintro w' ⟨s0, s1, s2, s3, s4, s5, s6, s7, s8, s9, s10, s11, s12, s13⟩; go_simp; with_reducible rfl
          rotate_left
          · simp only [Act.put, List.setIfInBounds_toArray, List.set_cons_zero, List.set_cons_succ, i64_w, i32_w]; rfl
          clear b0 b1 e0 e1 e2 e3 e4 e5 e6 e7 e8 e9 e10 e11
          have HQ := Aside0.mk (HP.out.bel (below_drew1 (Below.refl _ _)) (Nat.le_refl i))
          obtain ⟨hr2, ha2, hl2, hal2⟩ := act_rel (x := x) HP.out.rel HP.out.arel HP.out.len
          have HR2 := Aside0.mk hr2
          have HA2 := Aside0.mk ha2
          have HL2 := Aside0.mk hl2
          have HAL := Aside0.mk (show (actC x A).length ≤ i + 1 by have := HP.out.alen; omega)
          clear hr2 ha2 hl2 hal2
          refine join_ (σ := Option Addr × Nat × Option Addr × Nat × Nat) 2 #[true, true, true, true, true, true, true, true, true, true, true, false, false] (fun s => [(41, .tuple #[.agg #[.slice s.1 (actL x L A).length s.2.1, .slice s.2.2.1 (actC x A).length s.2.2.2.1], .bool true]), (34, .tuple #[.agg #[.slice s.1 (actL x L A).length s.2.1, .slice s.2.2.1 (actC x A).length s.2.2.2.1], .bool true]), (42, .agg #[.slice s.1 (actL x L A).length s.2.1, .slice s.2.2.1 (actC x A).length s.2.2.2.1]), (43, .bool true), (6, .pointer (some ⟨s.2.2.2.2, 0, none⟩))]) (fun s w' => PJ w wr.drew w.heap.size B s.2.2.2.2 F (actQ x q ap) (actA x ap) (actL x L A) (actC x A) s.1 s.2.1 s.2.2.1 s.2.2.2.1 w') ?_ ?_
          rotate_left
          · intro hcont
            have HC := Aside0.mk hcont
            clear hcont
            refine two_ (i := 6) (j := 10) (Ni := some 41) (Nj := some 6) #[true, true, true, true, true, true, true, false, false, false, false, false, false] #[true, true, true, true, true, true, false, false, false, false, true, false, false] rfl rfl rfl rfl (by kernel_rfl) (by decide) (by decide) (fun K hK => ?_) (fun K hK => ?_)
            · skip
              skip
              refine goes_ Try.func22 (by kernel_rfl) rfl #[.pointer (some ⟨w.heap.size, 0, none⟩), .agg #[.slice A0 L.length c0, .slice A1 A.length c1], .agg #[.int .i64 x.f0, .int .i64 x.f1.f0, .int .i64 x.f1.f1, .int .i64 x.f1.f2, .int .i64 x.f1.f3, .int .i64 x.f1.f4, .int .i64 x.f1.f5, .string x.f1.f6, .int .i64 x.f2.f0, .int .i64 x.f2.f1, .int .i64 x.f3, .bool x.f4]] (by rfl) rfl rfl (by first | rfl | (simp only [List.map_toArray, List.map_cons, List.map_nil]; rfl)) ?_
              refine (do_is x HQ.out.net HP.out.rel HP.out.arel HP.out.len (by have := HP.out.alen; omega) (Kd.F_mono HQ.out.r0 (fun k hk => hk.1)) HP.out.c0 (Kd.F_mono HQ.out.r1 (fun k hk => hk.1)) HP.out.c1).mono ?_
              rintro e w22 ⟨v0, v1, rfl, F', hn', hF', hr0, hr1, hm⟩
              obtain ⟨A0', c0', rfl, hr0b, hr0c⟩ := hr0
              obtain ⟨A1', c1', rfl, hr1b, hr1c⟩ := hr1
              rw [List.length_map] at hr0b hr0c
              have hR0 : RF k58 w22 (fun k => ¬ F' k) (.slice A0' (actL x L A).length c0') ((actL x L A).map to58) := ⟨A0', c0', by rw [List.length_map], by rw [List.length_map]; exact hr0b, by rw [List.length_map]; exact hr0c⟩
              have hR1 : RF k52 w22 (fun k => ¬ F' k) (.slice A1' (actC x A).length c1') (actC x A) := ⟨A1', c1', rfl, hr1b, hr1c⟩
              have HJ := Aside0.mk (pj_one (w := w) (B := B) hn' hF' hR0 hR1 hm)
              have HBx := Aside0.mk (mods_box HQ.out.box hm HQ.out.out)
              have HBb := Aside0.mk (HQ.out.below.trans (hm.below HQ.out.below.size HQ.out.young))
              clear hn' hF' hr0b hr0c hr1b hr1c hm hR0 hR1
              have b0 : w22.cell? ⟨B, 0, none⟩ = some (.slice A0 L.length c0) := (blk_cell HBx.out 0).trans rfl
              have b1 : w22.cell? ⟨B, 1, none⟩ = some (.slice A1 A.length c1) := (blk_cell HBx.out 1).trans rfl
              have hcs := cells42 (W := w22) HL.out HBb.out hi HX.out rfl
              obtain ⟨e0, e1, e2, e3, e4, e5, e6, e7, e8, e9, e10, e11⟩ := hcs
              rw [List.length_map]
              refine ⟨_, rfl, hK.out _ _ ⟨b0, b1, e0, e1, e2, e3, e4, e5, e6, e7, e8, e9, e10, e11⟩ (fun hHeld => ?_)⟩
              clear hK K b0 b1 e0 e1 e2 e3 e4 e5 e6 e7 e8 e9 e10 e11
              refine norm_ (a' := ?_) ?_ ?_
              rotate_left
              · show Act.put _ (some 41) _ = _
                simp only [Act.put, List.setIfInBounds_toArray, List.set_cons_zero, List.set_cons_succ, i64_w, i32_w]
                rfl
              refine pure_ (i := 7) (N := some 34) (v := ?_) (a' := ?_) #[true, true, true, true, true, true, true, true, false, false, false, false, false] rfl rfl (by kernel_rfl) (fun _ _ _ h => h) (Or.inl ⟨by rfl, ?_⟩) ?_ ?_
              rotate_left
              · intro w'; go_simp; with_reducible rfl
              rotate_left
              · simp only [Act.put, List.setIfInBounds_toArray, List.set_cons_zero, List.set_cons_succ, i64_w, i32_w]; rfl
              refine pure_ (i := 8) (N := some 42) (v := ?_) (a' := ?_) #[true, true, true, true, true, true, true, true, true, false, false, false, false] rfl rfl (by kernel_rfl) (fun _ _ _ h => h) (Or.inl ⟨by rfl, ?_⟩) ?_ ?_
              rotate_left
              · intro w'; go_simp; with_reducible rfl
              rotate_left
              · simp only [Act.put, List.setIfInBounds_toArray, List.set_cons_zero, List.set_cons_succ, i64_w, i32_w]; rfl
              refine pure_ (i := 9) (N := some 43) (v := ?_) (a' := ?_) #[true, true, true, true, true, true, true, true, true, true, false, false, false] rfl rfl (by kernel_rfl) (fun _ _ _ h => h) (Or.inl ⟨by rfl, ?_⟩) ?_ ?_
              rotate_left
              · intro w'; go_simp; with_reducible rfl
              rotate_left
              · simp only [Act.put, List.setIfInBounds_toArray, List.set_cons_zero, List.set_cons_succ, i64_w, i32_w]; rfl
              refine one_ (i := 10) (N := some 6) #[true, true, true, true, true, true, true, true, true, true, true, false, false] rfl rfl (by kernel_rfl) (by decide) (fun K hK => ?_)
              refine event_step (v := .pointer (some ⟨w22.heap.size, 0, none⟩)) (w1 := w22.alloc (.cells #[.slice none 0 0, .slice none 0 0] 40 (0, 0))) (by rfl) (by first | (go_simp; done) | (go_simp; rfl)) ?_
              have b0 : (w22.alloc (.cells #[.slice none 0 0, .slice none 0 0] 40 (0, 0))).cell? ⟨B, 0, none⟩ = some (.slice A0 L.length c0) := (blk_cell (blk_alloc HBx.out _) 0).trans rfl
              have b1 : (w22.alloc (.cells #[.slice none 0 0, .slice none 0 0] 40 (0, 0))).cell? ⟨B, 1, none⟩ = some (.slice A1 A.length c1) := (blk_cell (blk_alloc HBx.out _) 1).trans rfl
              have hcs := cells42 (W := w22.alloc (.cells #[.slice none 0 0, .slice none 0 0] 40 (0, 0))) HL.out (below_alloc HBb.out _) hi HX.out rfl
              obtain ⟨e0, e1, e2, e3, e4, e5, e6, e7, e8, e9, e10, e11⟩ := hcs
              refine hK.out _ _ ⟨b0, b1, e0, e1, e2, e3, e4, e5, e6, e7, e8, e9, e10, e11⟩ (fun hHeld => ?_)
              clear hK K b0 b1 e0 e1 e2 e3 e4 e5 e6 e7 e8 e9 e10 e11
              refine norm_ ?_ (HC.out ⟨A0', c0', A1', c1', w22.heap.size⟩ _ HJ.out)
              simp only [putAll, Act.put, List.setIfInBounds_toArray, List.set_cons_zero, List.set_cons_succ, i64_w, i32_w]
              rfl
            · refine event_step (v := .pointer (some ⟨wr.drew.heap.size, 0, none⟩)) (w1 := wr.drew.alloc (.cells #[.slice none 0 0, .slice none 0 0] 40 (0, 0))) (by rfl) (by first | (go_simp; done) | (go_simp; rfl)) ?_
              have HY := Aside0.mk (HQ.out.bel (below_alloc (Below.refl wr.drew.heap.size wr.drew) (.cells #[.slice none 0 0, .slice none 0 0] 40 (0, 0))) (Nat.le_refl i))
              have HN2 : NetW (wr.drew.alloc (.cells #[.slice none 0 0, .slice none 0 0] 40 (0, 0))) (fun k => F k ∧ k < wr.drew.heap.size) w.heap.size q ap := (HQ.out.net.mono (fun k hk hF => ⟨hF, hk⟩)).below (below_alloc (Below.refl wr.drew.heap.size wr.drew) (.cells #[.slice none 0 0, .slice none 0 0] 40 (0, 0)))
              have HNa := Aside0.mk HN2
              clear HN2
              have b0 : (wr.drew.alloc (.cells #[.slice none 0 0, .slice none 0 0] 40 (0, 0))).cell? ⟨B, 0, none⟩ = some (.slice A0 L.length c0) := (blk_cell HY.out.box 0).trans rfl
              have b1 : (wr.drew.alloc (.cells #[.slice none 0 0, .slice none 0 0] 40 (0, 0))).cell? ⟨B, 1, none⟩ = some (.slice A1 A.length c1) := (blk_cell HY.out.box 1).trans rfl
              have hcs := cells42 (W := (wr.drew.alloc (.cells #[.slice none 0 0, .slice none 0 0] 40 (0, 0)))) HL.out HY.out.below hi HX.out rfl
              obtain ⟨e0, e1, e2, e3, e4, e5, e6, e7, e8, e9, e10, e11⟩ := hcs
              refine hK.out _ _ ⟨b0, b1, e0, e1, e2, e3, e4, e5, e6, e7, e8, e9, e10, e11⟩ (fun hHeld => ?_)
              clear hK K b0 b1 e0 e1 e2 e3 e4 e5 e6 e7 e8 e9 e10 e11
              skip
              refine norm_ (a' := ?_) ?_ ?_
              rotate_left
              · show Act.put _ (some 6) _ = _
                simp only [Act.put, List.setIfInBounds_toArray, List.set_cons_zero, List.set_cons_succ, i64_w, i32_w]
                rfl
              refine one_ (i := 6) (N := some 41) #[true, true, true, true, true, true, true, false, false, false, true, false, false] rfl rfl (by kernel_rfl) (by decide) (fun K hK => ?_)
              refine goes_ Try.func22 (by kernel_rfl) rfl #[.pointer (some ⟨w.heap.size, 0, none⟩), .agg #[.slice A0 L.length c0, .slice A1 A.length c1], .agg #[.int .i64 x.f0, .int .i64 x.f1.f0, .int .i64 x.f1.f1, .int .i64 x.f1.f2, .int .i64 x.f1.f3, .int .i64 x.f1.f4, .int .i64 x.f1.f5, .string x.f1.f6, .int .i64 x.f2.f0, .int .i64 x.f2.f1, .int .i64 x.f3, .bool x.f4]] (by rfl) rfl rfl (by first | rfl | (simp only [List.map_toArray, List.map_cons, List.map_nil]; rfl)) ?_
              refine (do_is x HNa.out HP.out.rel HP.out.arel HP.out.len (by have := HP.out.alen; omega) (Kd.F_mono (Kd.F_bound HY.out.r0) (fun k hk => fun e => hk.1.1 e.1)) HP.out.c0 (Kd.F_mono (Kd.F_bound HY.out.r1) (fun k hk => fun e => hk.1.1 e.1)) HP.out.c1).mono ?_
              rintro e w22 ⟨v0, v1, rfl, F', hn', hF', hr0, hr1, hm⟩
              obtain ⟨A0', c0', rfl, hr0b, hr0c⟩ := hr0
              obtain ⟨A1', c1', rfl, hr1b, hr1c⟩ := hr1
              rw [List.length_map] at hr0b hr0c
              have hR0 : RF k58 w22 (fun k => ¬ F' k) (.slice A0' (actL x L A).length c0') ((actL x L A).map to58) := ⟨A0', c0', by rw [List.length_map], by rw [List.length_map]; exact hr0b, by rw [List.length_map]; exact hr0c⟩
              have hR1 : RF k52 w22 (fun k => ¬ F' k) (.slice A1' (actC x A).length c1') (actC x A) := ⟨A1', c1', rfl, hr1b, hr1c⟩
              have HJ := Aside0.mk (pj_two (w := w) (B := B) hn' hF' hR0 hR1 hm)
              have HBx := Aside0.mk (mods_box HY.out.box hm (fun e => HY.out.out e.1))
              have HBb := Aside0.mk (HY.out.below.trans (hm.below HY.out.below.size (fun k hk => HY.out.young k hk.1)))
              clear hn' hF' hr0b hr0c hr1b hr1c hm hR0 hR1
              have b0 : w22.cell? ⟨B, 0, none⟩ = some (.slice A0 L.length c0) := (blk_cell HBx.out 0).trans rfl
              have b1 : w22.cell? ⟨B, 1, none⟩ = some (.slice A1 A.length c1) := (blk_cell HBx.out 1).trans rfl
              have hcs := cells42 (W := w22) HL.out HBb.out hi HX.out rfl
              obtain ⟨e0, e1, e2, e3, e4, e5, e6, e7, e8, e9, e10, e11⟩ := hcs
              rw [List.length_map]
              refine ⟨_, rfl, hK.out _ _ ⟨b0, b1, e0, e1, e2, e3, e4, e5, e6, e7, e8, e9, e10, e11⟩ (fun hHeld => ?_)⟩
              clear hK K b0 b1 e0 e1 e2 e3 e4 e5 e6 e7 e8 e9 e10 e11
              refine norm_ (a' := ?_) ?_ ?_
              rotate_left
              · show Act.put _ (some 41) _ = _
                simp only [Act.put, List.setIfInBounds_toArray, List.set_cons_zero, List.set_cons_succ, i64_w, i32_w]
                rfl
              refine pure_ (i := 7) (N := some 34) (v := ?_) (a' := ?_) #[true, true, true, true, true, true, true, true, false, false, true, false, false] rfl rfl (by kernel_rfl) (fun _ _ _ h => h) (Or.inl ⟨by rfl, ?_⟩) ?_ ?_
              rotate_left
              · intro w'; go_simp; with_reducible rfl
              rotate_left
              · simp only [Act.put, List.setIfInBounds_toArray, List.set_cons_zero, List.set_cons_succ, i64_w, i32_w]; rfl
              refine pure_ (i := 8) (N := some 42) (v := ?_) (a' := ?_) #[true, true, true, true, true, true, true, true, true, false, true, false, false] rfl rfl (by kernel_rfl) (fun _ _ _ h => h) (Or.inl ⟨by rfl, ?_⟩) ?_ ?_
              rotate_left
              · intro w'; go_simp; with_reducible rfl
              rotate_left
              · simp only [Act.put, List.setIfInBounds_toArray, List.set_cons_zero, List.set_cons_succ, i64_w, i32_w]; rfl
              refine pure_ (i := 9) (N := some 43) (v := ?_) (a' := ?_) #[true, true, true, true, true, true, true, true, true, true, true, false, false] rfl rfl (by kernel_rfl) (fun _ _ _ h => h) (Or.inl ⟨by rfl, ?_⟩) ?_ ?_
              rotate_left
              · intro w'; go_simp; with_reducible rfl
              rotate_left
              · simp only [Act.put, List.setIfInBounds_toArray, List.set_cons_zero, List.set_cons_succ, i64_w, i32_w]; rfl
              refine norm_ ?_ (HC.out ⟨A0', c0', A1', c1', wr.drew.heap.size⟩ _ HJ.out)
              simp only [putAll, Act.put, List.setIfInBounds_toArray, List.set_cons_zero, List.set_cons_succ, i64_w, i32_w]
              try rfl
          rintro ⟨A0', c0', A1', c1', b6⟩ w22 hj
          dsimp only at hj ⊢
          refine norm_ (a' := ?_) ?_ ?_
          rotate_left
          · simp only [putAll, Act.put, List.setIfInBounds_toArray, List.set_cons_zero, List.set_cons_succ, i64_w, i32_w]
            rfl
          have HJ := Aside0.mk hj
          have hb6 := hj.2.1
          clear hj
          refine last_ (i := 11) (N := none) #[true, true, true, true, true, true, true, true, true, true, true, true, false] rfl rfl (by kernel_rfl) (by decide) (fun K hK => ?_)
          refine storeRow_ (by rfl) 40 (.tmp 6) (.tmp 42) rfl rfl b6 #[.slice A0' (actL x L A).length c0', .slice A1' (actC x A).length c1'] rfl rfl 40 _ hb6 info40s rfl (by rw [List.all_toArray]; rfl) ?_
          refine hK.out _ _ ?_
          clear hK K
          refine pure_ (i := 12) (N := some 7) (v := ?_) (a' := ?_) #[true, true, true, true, true, true, true, true, true, true, true, true, true] rfl rfl (by kernel_rfl) (fun _ _ _ h => h) (Or.inl ⟨by rfl, ?_⟩) ?_ ?_
          rotate_left
          · intro w'; go_simp; with_reducible rfl
          rotate_left
          · simp only [Act.put, List.setIfInBounds_toArray, List.set_cons_zero, List.set_cons_succ, i64_w, i32_w]; rfl
          refine done_ (by kernel_rfl) ?_
          have h6B : B < b6 := Nat.lt_of_lt_of_le (blk_lt HQ.out.box) HJ.out.1
          have HZ6 := Aside0.mk (setRow_heap _ _ _ #[.slice A0' (actL x L A).length c0', .slice A1' (actC x A).length c1'] _ _ hb6)
          have HZB := Aside0.mk ((setRow_other w22 b6 B #[.slice A0' (actL x L A).length c0', .slice A1' (actC x A).length c1'] (by omega)).trans (mods_box HQ.out.box HJ.out.2.2.choose_spec.2.2.2.2.2 HQ.out.out))
          clear hb6
          go_wp2_with (first
            | ((with_reducible refine gate_dst (N := 44) rfl ?_); refine wpList_load_row rfl 40 (.tmp 6) rfl b6 rfl 40 _ (0, 0) _ HZ6.out Try.underlying40 rfl info40s ?_)
            | (((with_reducible refine gate_store (t := 40) (p := 4) rfl ?_); refine wpList_store_row rfl 40 (.tmp 4) (.tmp 44) rfl B #[.slice A0' (actL x L A).length c0', .slice A1' (actC x A).length c1'] rfl rfl 40 _ HZB.out info40s rfl (by rw [List.all_toArray]; rfl) ?_); obtain ⟨F3, hPI⟩ := pj_fin HQ.out HB0.out HR2.out HA2.out HL2.out HAL.out HJ.out (Below.refl _ _); have HPI := Aside0.mk hPI; clear hPI)
            | ((with_reducible refine gate_dst (N := 49) rfl ?_); refine gate_guard (by rfl) ?_; dsimp only; refine wpList_load_row rfl 40 (.tmp 4) rfl B rfl 40 _ (0, 0) _ HPI.out.box Try.underlying40 rfl info40s ?_)
            | ((with_reducible refine gate_dst (N := 50) rfl ?_); refine gate_guard (by rfl) ?_; dsimp only; refine goesL_ (some 50) rfl rfl Try.func23 (by kernel_rfl) rfl #[.pointer (some ⟨w.heap.size, 0, none⟩), .agg #[.slice A0' (actL x L A).length c0', .slice A1' (actC x A).length c1']] rfl (by first | (simp only [List.map_toArray, List.map_cons, List.map_nil]; rfl) | rfl) ?_; refine (same_is HPI.out.net HPI.out.rel HPI.out.arel HPI.out.len (by have := HPI.out.alen; omega) HPI.out.r0 HPI.out.c0 HPI.out.r1 HPI.out.c1).mono ?_; rintro e w23 ⟨rfl, hb⟩; have HPf := Aside0.mk (HPI.out.bel hb (Nat.le_refl _)); clear hb; refine ⟨_, rfl, ?_⟩))
          go_roundg k1
          case measure => omega
          case rel => exact ⟨i + 1, _, _, _, _, _, _, _, _, _, by first | rfl | (simp; done) | (simp; unfold wrap64; omega), HPf, ⟨by have := HK.out; omega⟩, by omega⟩
      · have d2 : decide ((i : Int) < 60) = false := decide_eq_false (by omega)
        go_wp2
        go_ret
        exact ⟨rfl, HP.out.below⟩
end
end Go.Proofs.Ytdibaeomepallaa.NW
