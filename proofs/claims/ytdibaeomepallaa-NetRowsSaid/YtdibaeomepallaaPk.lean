/- The law NetRows' walk. Written by genPk.py out of NetPlays' walk. -/
import Derived.Test.YtdibaeomepallaaPj
namespace Go.Proofs.Ytdibaeomepallaa.NW
open Go.RowKit Go.Proofs.YtdibaeomepallaaW.PrintWords Go.Proofs.YtdibaeomepallaaW.PrintLast Go.Proofs.YtdibaeomepallaaW.PrintMore Go.Proofs.Ytdibaeomepallaa.PAll
set_option linter.unusedVariables false
set_option linter.unusedSimpArgs false
set_option maxRecDepth 100000
attribute [local go_sem high] eqA52 eqA58
section
variable (Al : Option Addr) (cl : Nat) (l : List S42) (h : S32) (w : World)
set_option maxHeartbeats 16000000 in
theorem netRows_walk {G0 G1 : Prop} (hl0 : Kd.C k42 w Al l.length l) (hcl : l.length ≤ cl) (g0 : G0) (hm0 : l.length ≤ maxLen) (g1 : G1) :
    Calls Try.prog 6 #[.slice Al l.length cl, .agg #[.int .i64 h.f0, .int .i64 h.f1]] w fun e w' => e = .returned (.bool true) ∧ Below w.heap.size w w' := by
  have hu40 := Try.underlying40
  have hu42 := Try.underlying42
  have hu28 := Try.underlying28
  have hu32 := Try.underlying32
  have hu52 := Try.underlying52
  have hu58 := Try.underlying58
  obtain ⟨w1, hw1⟩ : ∃ w1, w1 = w.alloc (.cells #[.int .i64 h.f0, .int .i64 h.f1] 32 (0, 0)) := ⟨_, rfl⟩
  have HB1 := Aside0.mk (show Below w.heap.size w w1 by rw [hw1]; exact below_alloc (Below.refl _ _) _)
  have H3 := Aside0.mk (show w1.heap[w.heap.size]? = some (.cells #[.int .i64 h.f0, .int .i64 h.f1] 32 (0, 0)) by rw [hw1]; exact blk_new w _)
  have HL := Aside0.mk (Kd.C_below hl0 HB1.out)
  have HW := Aside0.mk hw1
  clear hl0 hw1
  go_enter Try.func6, Try.ntmps6
  go_wp2_with (first
    | ((with_reducible refine gate_dst (N := 14) rfl ?_); refine goesL_ (some 14) rfl rfl Try.func15 (by kernel_rfl) rfl #[] rfl (by simp) ?_; refine (St.new w1 _ (by rw [← HW.out]; exact Below.refl _ _)).mono ?_; rintro e w10 ⟨rfl, hs⟩; rw [← HW.out] at hs; rw [← HW.out]; obtain ⟨F, hn, hF, hLL⟩ := hs.ex; have HN := Aside0.mk hn; have HF := Aside0.mk hF; have HB := Aside0.mk hs.below; clear hs hn hF hLL; refine ⟨_, rfl, ?_⟩)
    | ((with_reducible refine gate_dst (N := 16) rfl ?_); refine goesL_ (some 16) rfl rfl Try.func16 (by kernel_rfl) rfl #[] rfl (by simp) ?_; refine (awake_is _).mono ?_; rintro e w16 ⟨rfl, hb⟩; have HP := Aside0.mk ((pi_start HN.out HF.out HB.out rfl).bel hb (Nat.le_refl 0)); have HB0 := Aside0.mk HB.out.size; clear hb HN HF HB; refine ⟨_, rfl, ?_⟩))
  obtain ⟨B, hBw⟩ : ∃ B, B = w10.heap.size := ⟨_, rfl⟩
  rw [← hBw] at HP HB0 ⊢
  clear hBw
  go_loopg [7] l.length (fun kq v7 w' => ∃ (i : Nat) (q : List (List Pk)) (L : List Pk) (ap : List Bool) (A : List S52) (A0 : Option Addr) (c0 : Nat) (A1 : Option Addr) (c1 : Nat) (F : Nat → Prop), v7 = .int .i64 i ∧ Aside0 (PI w1 w1.heap.size B i q L ap A A0 c0 A1 c1 F w') ∧ Aside0 (i + kq = l.length) ∧ i ≤ 40)
  case atStart => exact ⟨0, _, _, _, _, _, _, _, _, _, rfl, HP, ⟨by omega⟩, by omega⟩
  case round =>
    clear HP
    obtain ⟨i, q, L, ap, A, A0, c0, A1, c1, F, rfl, HP, HK, hi60⟩ := hrel
    cases gk with
    | zero =>
      have e : i = l.length := by have := HK.out; omega
      subst e
      have d1 : decide ((l.length : Int) < (l.length : Int)) = false := decide_eq_false (by omega)
      have H3r := Aside0.mk (keep_box H3.out HP.out.below)
      obtain ⟨w13, hw13⟩ : ∃ w13, w13 = wr.alloc (.cells #[.int .i64 h.f0, .int .i64 h.f1] 52 (0, 0)) := ⟨_, rfl⟩
      have hB13 : Below wr.heap.size wr w13 := by rw [hw13]; exact below_alloc (Below.refl _ _) _
      have H10 := Aside0.mk (show w13.heap[wr.heap.size]? = some (.cells #[.int .i64 h.f0, .int .i64 h.f1] 52 (0, 0)) by rw [hw13]; exact blk_new wr _)
      have H3a := Aside0.mk (keep_box H3r.out hB13)
      have HPa := Aside0.mk (HP.out.bel hB13 (Nat.le_refl _))
      have HBw := Aside0.mk (HB1.out.trans (Below.mono HPa.out.below HB1.out.size))
      have HW13 := Aside0.mk hw13
      have HCnt := Aside0.mk (show cnt q ≤ 1000 by have h1 := HP.out.rel.cnt; have h2 := HP.out.len; omega)
      have HWB := Aside0.mk (show (wr.alloc (.cells #[.int .i64 h.f0, .int .i64 h.f1] 52 (0, 0))).heap[B]? = some (.cells #[.slice A0 L.length c0, .slice A1 A.length c1] 40 (0, 0)) by rw [← HW13.out]; exact HPa.out.box)
      have HW10 := Aside0.mk (show (wr.alloc (.cells #[.int .i64 h.f0, .int .i64 h.f1] 52 (0, 0))).heap[wr.heap.size]? = some (.cells #[.int .i64 h.f0, .int .i64 h.f1] 52 (0, 0)) by rw [← HW13.out]; exact H10.out)
      clear hw13 hB13
      cases hb : hopB h.f0 h.f1 with
      | false =>
        have hrow : rowAt q h.f0 h.f1 = [] := by unfold rowAt; rw [if_neg (by rw [hb]; exact Bool.false_ne_true)]
        have hcut : cutB ap h.f0 h.f1 = false := by unfold cutB; rw [hb]; rfl
        have HRow := Aside0.mk hrow
        have HCut := Aside0.mk hcut
        have HHop := Aside0.mk hb
        clear hrow hcut hb
        go_wp2_with (first
          | ((with_reducible refine gate_dst (N := 53) rfl ?_); refine wpList_load_row rfl 32 (.tmp 3) rfl w.heap.size rfl 32 _ (0, 0) _ H3r.out Try.underlying32 rfl info32s ?_)
          | ((with_reducible refine gate_dst (N := 54) rfl ?_); refine wpList_load_row rfl 40 (.tmp 6) rfl B rfl 40 _ (0, 0) _ HWB.out Try.underlying40 rfl info40s ?_)
          | ((with_reducible refine gate_dst (N := 55) rfl ?_); refine wpList_load_row rfl 52 (.tmp 10) rfl wr.heap.size rfl 52 _ (0, 0) _ HW10.out Try.underlying52 rfl info52s ?_)
          | ((with_reducible refine gate_dst (N := 56) rfl ?_); refine goesL_ (some 56) rfl rfl Try.func26 (by kernel_rfl) rfl #[.agg #[.slice A0 L.length c0, .slice A1 A.length c1], .agg #[.int .i64 h.f0, .int .i64 h.f1]] rfl (by first | (simp only [List.map_toArray, List.map_cons, List.map_nil]; rfl) | rfl) ?_; refine (places_calls L A h.f0 h.f1 A0 c0 A1 c1 _ (by rw [← HW13.out]; exact Kd.F_now HPa.out.r0) HP.out.c0 (by rw [← HW13.out]; exact Kd.F_now HPa.out.r1) HP.out.c1 (by have := HP.out.len; omega)).mono ?_; rintro e w56 ⟨A11, c11, rfl, hR, hb⟩; rw [← HW13.out] at hR hb; have HB := Aside0.mk hb; have HV11 := Aside0.mk hR; clear hR hb; refine ⟨_, rfl, ?_⟩)
          | ((with_reducible refine gate_dst (N := 58) rfl ?_); refine wpList_load_row rfl 32 (.tmp 3) rfl w.heap.size rfl 32 _ (0, 0) _ (keep_box H3a.out HB.out) Try.underlying32 rfl info32s ?_)
          | ((with_reducible refine gate_dst (N := 59) rfl ?_); refine goesL_ (some 59) rfl rfl Try.func25 (by kernel_rfl) rfl #[.pointer (some ⟨w1.heap.size, 0, none⟩), .agg #[.int .i64 h.f0, .int .i64 h.f1]] rfl (by first | (simp only [List.map_toArray, List.map_cons, List.map_nil]; rfl) | rfl) ?_; refine (row_is (HPa.out.net.below HB.out) h.f0 h.f1 (rowAt_short HCnt.out _ _)).mono ?_; rintro e w59 ⟨v12, rfl, hR, hb⟩; rw [HRow.out] at hR; obtain ⟨A12, c12, rfl⟩ := Kd.R_slice hR; have HV12 := Aside0.mk hR; have HB59 := Aside0.mk hb; have HB_ := Aside0.mk (HB.out.trans (hb.mono HB.out.size)); clear HB; have HB := HB_; clear HB_ hb hR; refine ⟨_, rfl, ?_⟩)
          | ((with_reducible refine gate_dst (N := 60) rfl ?_); refine wpList_load_row rfl 52 (.tmp 10) rfl wr.heap.size rfl 52 _ (0, 0) _ (keep_box H10.out HB.out) Try.underlying52 rfl info52s ?_)
          | ((with_reducible refine gate_dst (N := 61) rfl ?_); refine goesL_ (some 61) rfl rfl Try.func27 (by kernel_rfl) rfl #[.agg #[.int .i64 h.f0, .int .i64 h.f1]] rfl (by first | (simp only [List.map_toArray, List.map_cons, List.map_nil]; rfl) | rfl) ?_; refine (refIs_is h.f0 h.f1 _).mono ?_; rintro e w61 ⟨rfl, hb⟩; rw [HHop.out]; have HB61 := Aside0.mk hb; have HB_ := Aside0.mk (HB.out.trans (hb.mono HB.out.size)); clear HB; have HB := HB_; clear HB_ hb; refine ⟨_, rfl, ?_⟩)
          | ((with_reducible refine gate_dst (N := 68) rfl ?_); refine gate_guard (by rfl) ?_; dsimp only; refine wpList_load_row rfl 32 (.tmp 3) rfl w.heap.size rfl 32 _ (0, 0) _ (keep_box H3a.out HB.out) Try.underlying32 rfl info32s ?_)
          | ((with_reducible refine gate_dst (N := 69) rfl ?_); refine gate_guard (by rfl) ?_; dsimp only; refine goesL_ (some 69) rfl rfl Try.func28 (by kernel_rfl) rfl #[.pointer (some ⟨w1.heap.size, 0, none⟩), .agg #[.int .i64 h.f0, .int .i64 h.f1]] rfl (by first | (simp only [List.map_toArray, List.map_cons, List.map_nil]; rfl) | rfl) ?_; refine (len_is (HPa.out.net.below HB.out) h.f0 h.f1).mono ?_; rintro e w69 ⟨rfl, hb⟩; rw [HRow.out]; have HB_ := Aside0.mk (HB.out.trans (hb.mono HB.out.size)); clear HB; have HB := HB_; clear HB_ hb; have X0 : w69.cell? ⟨w.heap.size, 0, none⟩ = some (.int .i64 h.f0) := (blk_cell (keep_box H3a.out HB.out) 0).trans rfl; have X1 : w69.cell? ⟨w.heap.size, 1, none⟩ = some (.int .i64 h.f1) := (blk_cell (keep_box H3a.out HB.out) 1).trans rfl; refine ⟨_, rfl, ?_⟩)
          | ((with_reducible refine gate_dst (N := 78) rfl ?_); refine gate_guard (by rfl) ?_; dsimp only; refine goesL_ (some 78) rfl rfl Try.func29 (by kernel_rfl) rfl #[.pointer (some ⟨w1.heap.size, 0, none⟩), .int .i64 h.f0, .int .i64 h.f1] rfl (by first | (simp only [List.map_toArray, List.map_cons, List.map_nil]; rfl) | rfl) ?_; refine (cut_is (HPa.out.net.below HB.out) h.f0 h.f1).mono ?_; rintro e w78 ⟨rfl, hb⟩; rw [HCut.out]; have HB_ := Aside0.mk (HB.out.trans (hb.mono HB.out.size)); clear HB; have HB := HB_; clear HB_ hb; refine ⟨_, rfl, ?_⟩))
        go_ret
        exact ⟨rfl, HBw.out.trans (Below.mono HB.out HBw.out.size)⟩
      | true =>
        obtain ⟨R, hrow⟩ : ∃ R, rowAt q h.f0 h.f1 = R := ⟨_, rfl⟩
        have hRF : L.filter (hopP h.f0 h.f1) = R := (HP.out.rel.rowAt hb).symm.trans hrow
        obtain ⟨PL, hPL⟩ : ∃ PL, places L h.f0 h.f1 = PL := ⟨_, rfl⟩
        have hPR : PL.length = R.length := by rw [← hPL, ← hRF]; exact places_len _ L 0
        have hPat : ∀ i at_ : Nat, PL[i]? = some at_ → ∃ p, L[at_]? = some p ∧ R[i]? = some p := by
          intro i at_ he
          rw [← hPL] at he
          obtain ⟨_, _, p, h1, _, h2, _⟩ := places_at _ L 0 i at_ he
          rw [hRF] at h2
          exact ⟨p, h1, h2⟩
        have hcut : cutB ap h.f0 h.f1 = cutL A h.f0 h.f1 := HP.out.arel.cutB hb
        obtain ⟨bc, hbc⟩ : ∃ bc, cutL A h.f0 h.f1 = bc := ⟨_, rfl⟩
        have hcf := cut_f (L.map to58) A h.f0 h.f1 (by have := HP.out.alen; omega) 1001 (Nat.le_refl _)
        rw [hbc] at hcut hcf
        have hRl : R.length ≤ 400 := by rw [← hRF]; exact Nat.le_trans (List.length_filter_le _ _) HP.out.len
        have HRow := Aside0.mk hrow
        have HCut := Aside0.mk hcut
        have HCf := Aside0.mk hcf
        have HHop := Aside0.mk hb
        have HPR := Aside0.mk hPR
        have HPat := Aside0.mk hPat
        have HPLe := Aside0.mk hPL
        clear hrow hcut hb hRF hPL hPR hPat hbc hcf
        go_wp2_with (first
          | ((with_reducible refine gate_dst (N := 53) rfl ?_); refine wpList_load_row rfl 32 (.tmp 3) rfl w.heap.size rfl 32 _ (0, 0) _ H3r.out Try.underlying32 rfl info32s ?_)
          | ((with_reducible refine gate_dst (N := 54) rfl ?_); refine wpList_load_row rfl 40 (.tmp 6) rfl B rfl 40 _ (0, 0) _ HWB.out Try.underlying40 rfl info40s ?_)
          | ((with_reducible refine gate_dst (N := 55) rfl ?_); refine wpList_load_row rfl 52 (.tmp 10) rfl wr.heap.size rfl 52 _ (0, 0) _ HW10.out Try.underlying52 rfl info52s ?_)
          | ((with_reducible refine gate_dst (N := 56) rfl ?_); refine goesL_ (some 56) rfl rfl Try.func26 (by kernel_rfl) rfl #[.agg #[.slice A0 L.length c0, .slice A1 A.length c1], .agg #[.int .i64 h.f0, .int .i64 h.f1]] rfl (by first | (simp only [List.map_toArray, List.map_cons, List.map_nil]; rfl) | rfl) ?_; refine (places_calls L A h.f0 h.f1 A0 c0 A1 c1 _ (by rw [← HW13.out]; exact Kd.F_now HPa.out.r0) HP.out.c0 (by rw [← HW13.out]; exact Kd.F_now HPa.out.r1) HP.out.c1 (by have := HP.out.len; omega)).mono ?_; rintro e w56 ⟨A11, c11, rfl, hR, hb⟩; rw [← HW13.out] at hR hb; rw [HPLe.out, HPR.out] at hR; rw [HPLe.out, HPR.out]; have HB := Aside0.mk hb; have HV11 := Aside0.mk hR; clear hR hb; refine ⟨_, rfl, ?_⟩)
          | ((with_reducible refine gate_dst (N := 58) rfl ?_); refine wpList_load_row rfl 32 (.tmp 3) rfl w.heap.size rfl 32 _ (0, 0) _ (keep_box H3a.out HB.out) Try.underlying32 rfl info32s ?_)
          | ((with_reducible refine gate_dst (N := 59) rfl ?_); refine goesL_ (some 59) rfl rfl Try.func25 (by kernel_rfl) rfl #[.pointer (some ⟨w1.heap.size, 0, none⟩), .agg #[.int .i64 h.f0, .int .i64 h.f1]] rfl (by first | (simp only [List.map_toArray, List.map_cons, List.map_nil]; rfl) | rfl) ?_; refine (row_is (HPa.out.net.below HB.out) h.f0 h.f1 (rowAt_short HCnt.out _ _)).mono ?_; rintro e w59 ⟨v12, rfl, hR, hb⟩; rw [HRow.out] at hR; obtain ⟨A12, c12, rfl⟩ := Kd.R_slice hR; have HV12 := Aside0.mk hR; have HB59 := Aside0.mk hb; have HB_ := Aside0.mk (HB.out.trans (hb.mono HB.out.size)); clear HB; have HB := HB_; clear HB_ hb hR; refine ⟨_, rfl, ?_⟩)
          | ((with_reducible refine gate_dst (N := 60) rfl ?_); refine wpList_load_row rfl 52 (.tmp 10) rfl wr.heap.size rfl 52 _ (0, 0) _ (keep_box H10.out HB.out) Try.underlying52 rfl info52s ?_)
          | ((with_reducible refine gate_dst (N := 61) rfl ?_); refine goesL_ (some 61) rfl rfl Try.func27 (by kernel_rfl) rfl #[.agg #[.int .i64 h.f0, .int .i64 h.f1]] rfl (by first | (simp only [List.map_toArray, List.map_cons, List.map_nil]; rfl) | rfl) ?_; refine (refIs_is h.f0 h.f1 _).mono ?_; rintro e w61 ⟨rfl, hb⟩; rw [HHop.out]; have HB61 := Aside0.mk hb; have HB_ := Aside0.mk (HB.out.trans (hb.mono HB.out.size)); clear HB; have HB := HB_; clear HB_ hb; refine ⟨_, rfl, ?_⟩))
        have b0 : w61.drew.cell? ⟨B, 0, none⟩ = some (.slice A0 L.length c0) := (blk_cell (keep_box HPa.out.box HB.out) 0).trans rfl
        have b1 : w61.drew.cell? ⟨B, 1, none⟩ = some (.slice A1 A.length c1) := (blk_cell (keep_box HPa.out.box HB.out) 1).trans rfl
        have h0 : w61.drew.cell? ⟨w.heap.size, 0, none⟩ = some (.int .i64 h.f0) := (blk_cell (keep_box H3a.out HB.out) 0).trans rfl
        have h1 : w61.drew.cell? ⟨w.heap.size, 1, none⟩ = some (.int .i64 h.f1) := (blk_cell (keep_box H3a.out HB.out) 1).trans rfl
        have d0 : w61.drew.cell? ⟨wr.heap.size, 0, none⟩ = some (.int .i64 h.f0) := (blk_cell (keep_box H10.out HB.out) 0).trans rfl
        have d1' : w61.drew.cell? ⟨wr.heap.size, 1, none⟩ = some (.int .i64 h.f1) := (blk_cell (keep_box H10.out HB.out) 1).trans rfl
        refine start_ (n := 25) (S := fun w' => w'.cell? ⟨B, 0, none⟩ = some (.slice A0 L.length c0) ∧ w'.cell? ⟨B, 1, none⟩ = some (.slice A1 A.length c1) ∧ w'.cell? ⟨w.heap.size, 0, none⟩ = some (.int .i64 h.f0) ∧ w'.cell? ⟨w.heap.size, 1, none⟩ = some (.int .i64 h.f1) ∧ w'.cell? ⟨wr.heap.size, 0, none⟩ = some (.int .i64 h.f0) ∧ w'.cell? ⟨wr.heap.size, 1, none⟩ = some (.int .i64 h.f1)) (ds := []) #[false, false, false, false, false, false, false, false, false, false, false, false, false, false, false, false, false, false, false, false, false, false, false, false, false] (by kernel_rfl) rfl rfl ⟨b0, b1, h0, h1, d0, d1'⟩ (fun hHeld => ?_)
        refine pure_ (i := 0) (N := some 81) (v := ?_) (a' := ?_) #[true, false, false, false, false, false, false, false, false, false, false, false, false, false, false, false, false, false, false, false, false, false, false, false, false] rfl rfl (by kernel_rfl) (fun _ _ _ h => h) (Or.inl ⟨by rfl, ?_⟩) ?_ ?_
        rotate_left
        · intro w'; go_simp; with_reducible rfl
        rotate_left
        · simp only [Act.put, List.setIfInBounds_toArray, List.set_cons_zero, List.set_cons_succ, i64_w, i32_w]; rfl
        refine pure_ (i := 1) (N := some 82) (v := ?_) (a' := ?_) #[true, true, false, false, false, false, false, false, false, false, false, false, false, false, false, false, false, false, false, false, false, false, false, false, false] rfl rfl (by kernel_rfl) (fun _ _ _ h => h) (Or.inl ⟨by rfl, ?_⟩) ?_ ?_
        rotate_left
        · intro w'; go_simp; with_reducible rfl
        rotate_left
        · simp only [Act.put, List.setIfInBounds_toArray, List.set_cons_zero, List.set_cons_succ, i64_w, i32_w]; rfl
        refine pure_ (i := 2) (N := some 83) (v := ?_) (a' := ?_) #[true, true, true, false, false, false, false, false, false, false, false, false, false, false, false, false, false, false, false, false, false, false, false, false, false] rfl rfl (by kernel_rfl) (fun _ _ _ h => h) (Or.inl ⟨by rfl, ?_⟩) ?_ ?_
        rotate_left
        · intro w'; go_simp; with_reducible rfl
        rotate_left
        · simp only [Act.put, List.setIfInBounds_toArray, List.set_cons_zero, List.set_cons_succ, i64_w, i32_w]; rfl
        refine pure_ (i := 3) (N := some 84) (v := ?_) (a' := ?_) #[true, true, true, true, false, false, false, false, false, false, false, false, false, false, false, false, false, false, false, false, false, false, false, false, false] rfl rfl (by kernel_rfl) (fun _ _ _ h => h) (Or.inl ⟨by rfl, ?_⟩) ?_ ?_
        rotate_left
        · intro w'; go_simp; with_reducible rfl
        rotate_left
        · simp only [Act.put, List.setIfInBounds_toArray, List.set_cons_zero, List.set_cons_succ, i64_w, i32_w]; rfl
        refine pure_ (i := 4) (N := some 85) (v := ?_) (a' := ?_) #[true, true, true, true, true, false, false, false, false, false, false, false, false, false, false, false, false, false, false, false, false, false, false, false, false] rfl rfl (by kernel_rfl) (fun _ _ _ h => h) (Or.inl ⟨by rfl, ?_⟩) ?_ ?_
        rotate_left
        · intro w'; go_simp; with_reducible rfl
        rotate_left
        · simp only [Act.put, List.setIfInBounds_toArray, List.set_cons_zero, List.set_cons_succ, i64_w, i32_w]; rfl
        refine pure_ (i := 5) (N := some 86) (v := ?_) (a' := ?_) #[true, true, true, true, true, true, false, false, false, false, false, false, false, false, false, false, false, false, false, false, false, false, false, false, false] rfl rfl (by kernel_rfl) (fun _ _ _ h => h) (Or.inl ⟨by rfl, ?_⟩) ?_ ?_
        rotate_left
        · intro w'; go_simp; with_reducible rfl
        rotate_left
        · simp only [Act.put, List.setIfInBounds_toArray, List.set_cons_zero, List.set_cons_succ, i64_w, i32_w]; rfl
        refine pure_ (i := 6) (N := some 87) (v := ?_) (a' := ?_) #[true, true, true, true, true, true, true, false, false, false, false, false, false, false, false, false, false, false, false, false, false, false, false, false, false] rfl rfl (by kernel_rfl) (fun _ _ _ h => h) (Or.inl ⟨by rfl, ?_⟩) ?_ ?_
        rotate_left
        · intro w'; go_simp; with_reducible rfl
        rotate_left
        · simp only [Act.put, List.setIfInBounds_toArray, List.set_cons_zero, List.set_cons_succ, i64_w, i32_w]; rfl
        refine take_ (i := 7) (N := some 88) (v := ?_) (a' := ?_) #[true, true, true, true, true, true, true, true, false, false, false, false, false, false, false, false, false, false, false, false, false, false, false, false, false] rfl rfl (by kernel_rfl) (fun _ _ _ h => h) (Or.inl ⟨by rfl, ?_⟩) hHeld ?_ ?_
        rotate_left
        · rintro w' ⟨s0, s1, s2, s3, s4, s5⟩; go_simp; with_reducible rfl
        rotate_left
        · simp only [Act.put, List.setIfInBounds_toArray, List.set_cons_zero, List.set_cons_succ, i64_w, i32_w]; rfl
        refine pure_ (i := 9) (N := some 90) (v := ?_) (a' := ?_) #[true, true, true, true, true, true, true, true, false, true, false, false, false, false, false, false, false, false, false, false, false, false, false, false, false] rfl rfl (by kernel_rfl) (fun _ _ _ h => h) (Or.inl ⟨by rfl, ?_⟩) ?_ ?_
        rotate_left
        · intro w'; go_simp; with_reducible rfl
        rotate_left
        · simp only [Act.put, List.setIfInBounds_toArray, List.set_cons_zero, List.set_cons_succ, i64_w, i32_w]; rfl
        refine pure_ (i := 10) (N := some 91) (v := ?_) (a' := ?_) #[true, true, true, true, true, true, true, true, false, true, true, false, false, false, false, false, false, false, false, false, false, false, false, false, false] rfl rfl (by kernel_rfl) (fun _ _ _ h => h) (Or.inl ⟨by rfl, ?_⟩) ?_ ?_
        rotate_left
        · intro w'; go_simp; with_reducible rfl
        rotate_left
        · simp only [Act.put, List.setIfInBounds_toArray, List.set_cons_zero, List.set_cons_succ, i64_w, i32_w]; rfl
        clear b0 b1 h0 h1 d0 d1'
        have HBd := Aside0.mk (below_drew1 HB.out)
        have HD := Aside0.mk (below_drew1 (Below.refl w61.heap.size w61))
        refine one_ (i := 8) (N := some 89) #[true, true, true, true, true, true, true, true, true, true, true, false, false, false, false, false, false, false, false, false, false, false, false, false, false] rfl rfl (by kernel_rfl) (by decide) (fun K hK => ?_)
        refine goes_ Try.func28 (by kernel_rfl) rfl #[.pointer (some ⟨w1.heap.size, 0, none⟩), .agg #[.int .i64 h.f0, .int .i64 h.f1]] (by rfl) rfl rfl (by first | rfl | (simp only [List.map_toArray, List.map_cons, List.map_nil]; rfl)) ?_
        refine (len_is (HPa.out.net.below HBd.out) h.f0 h.f1).mono ?_
        rintro e w89 ⟨rfl, hb⟩
        rw [HRow.out]
        have HC89 := Aside0.mk (HD.out.trans (hb.mono HD.out.size))
        have HB89 := Aside0.mk (HBd.out.trans (hb.mono HBd.out.size))
        clear hb
        have b0 : w89.cell? ⟨B, 0, none⟩ = some (.slice A0 L.length c0) := (blk_cell (keep_box HPa.out.box HB89.out) 0).trans rfl
        have b1 : w89.cell? ⟨B, 1, none⟩ = some (.slice A1 A.length c1) := (blk_cell (keep_box HPa.out.box HB89.out) 1).trans rfl
        have h0 : w89.cell? ⟨w.heap.size, 0, none⟩ = some (.int .i64 h.f0) := (blk_cell (keep_box H3a.out HB89.out) 0).trans rfl
        have h1 : w89.cell? ⟨w.heap.size, 1, none⟩ = some (.int .i64 h.f1) := (blk_cell (keep_box H3a.out HB89.out) 1).trans rfl
        have d0 : w89.cell? ⟨wr.heap.size, 0, none⟩ = some (.int .i64 h.f0) := (blk_cell (keep_box H10.out HB89.out) 0).trans rfl
        have d1' : w89.cell? ⟨wr.heap.size, 1, none⟩ = some (.int .i64 h.f1) := (blk_cell (keep_box H10.out HB89.out) 1).trans rfl
        refine ⟨_, rfl, hK.out _ _ ⟨b0, b1, h0, h1, d0, d1'⟩ (fun hHeld => ?_)⟩
        clear hK K b0 b1 h0 h1 d0 d1'
        refine norm_ (a' := ?_) ?_ ?_
        rotate_left
        · show Act.put _ (some 89) _ = _
          simp only [Act.put, List.setIfInBounds_toArray, List.set_cons_zero, List.set_cons_succ, i64_w, i32_w]
          rfl
        refine pure_ (i := 11) (N := some 92) (v := ?_) (a' := ?_) #[true, true, true, true, true, true, true, true, true, true, true, true, false, false, false, false, false, false, false, false, false, false, false, false, false] rfl rfl (by kernel_rfl) (fun _ _ _ h => h) (Or.inl ⟨by rfl, ?_⟩) ?_ ?_
        rotate_left
        · intro w'; go_simp; with_reducible rfl
        rotate_left
        · simp only [Act.put, List.setIfInBounds_toArray, List.set_cons_zero, List.set_cons_succ, i64_w, i32_w]; rfl
        refine pure_ (i := 12) (N := some 93) (v := ?_) (a' := ?_) #[true, true, true, true, true, true, true, true, true, true, true, true, true, false, false, false, false, false, false, false, false, false, false, false, false] rfl rfl (by kernel_rfl) (fun _ _ _ h => h) (Or.inl ⟨by rfl, ?_⟩) ?_ ?_
        rotate_left
        · intro w'; go_simp; with_reducible rfl
        rotate_left
        · simp only [Act.put, List.setIfInBounds_toArray, List.set_cons_zero, List.set_cons_succ, i64_w, i32_w]; rfl
        refine pure_ (i := 13) (N := some 94) (v := ?_) (a' := ?_) #[true, true, true, true, true, true, true, true, true, true, true, true, true, true, false, false, false, false, false, false, false, false, false, false, false] rfl rfl (by kernel_rfl) (fun _ _ _ h => h) (Or.inl ⟨by rfl, ?_⟩) ?_ ?_
        rotate_left
        · intro w'; go_simp; with_reducible rfl
        rotate_left
        · simp only [Act.put, List.setIfInBounds_toArray, List.set_cons_zero, List.set_cons_succ, i64_w, i32_w]; rfl
        refine pure_ (i := 14) (N := some 95) (v := ?_) (a' := ?_) #[true, true, true, true, true, true, true, true, true, true, true, true, true, true, true, false, false, false, false, false, false, false, false, false, false] rfl rfl (by kernel_rfl) (fun _ _ _ h => h) (Or.inl ⟨by rfl, ?_⟩) ?_ ?_
        rotate_left
        · intro w'; go_simp; with_reducible rfl
        rotate_left
        · simp only [Act.put, List.setIfInBounds_toArray, List.set_cons_zero, List.set_cons_succ, i64_w, i32_w]; rfl
        refine pure_ (i := 15) (N := some 96) (v := ?_) (a' := ?_) #[true, true, true, true, true, true, true, true, true, true, true, true, true, true, true, true, false, false, false, false, false, false, false, false, false] rfl rfl (by kernel_rfl) (fun _ _ _ h => h) (Or.inl ⟨by rfl, ?_⟩) ?_ ?_
        rotate_left
        · intro w'; go_simp; with_reducible rfl
        rotate_left
        · simp only [Act.put, List.setIfInBounds_toArray, List.set_cons_zero, List.set_cons_succ, i64_w, i32_w]; rfl
        refine take_ (i := 16) (N := some 97) (v := ?_) (a' := ?_) #[true, true, true, true, true, true, true, true, true, true, true, true, true, true, true, true, true, false, false, false, false, false, false, false, false] rfl rfl (by kernel_rfl) (fun _ _ _ h => h) (Or.inl ⟨by rfl, ?_⟩) hHeld ?_ ?_
        rotate_left
        · rintro w' ⟨s0, s1, s2, s3, s4, s5⟩; go_simp; with_reducible rfl
        rotate_left
        · simp only [Act.put, List.setIfInBounds_toArray, List.set_cons_zero, List.set_cons_succ, i64_w, i32_w]; rfl
        refine pure_ (i := 17) (N := some 98) (v := ?_) (a' := ?_) #[true, true, true, true, true, true, true, true, true, true, true, true, true, true, true, true, true, true, false, false, false, false, false, false, false] rfl rfl (by kernel_rfl) (fun _ _ _ h => h) (Or.inl ⟨by rfl, ?_⟩) ?_ ?_
        rotate_left
        · intro w'; go_simp; with_reducible rfl
        rotate_left
        · simp only [Act.put, List.setIfInBounds_toArray, List.set_cons_zero, List.set_cons_succ, i64_w, i32_w]; rfl
        refine take_ (i := 18) (N := some 99) (v := ?_) (a' := ?_) #[true, true, true, true, true, true, true, true, true, true, true, true, true, true, true, true, true, true, true, false, false, false, false, false, false] rfl rfl (by kernel_rfl) (fun _ _ _ h => h) (Or.inl ⟨by rfl, ?_⟩) hHeld ?_ ?_
        rotate_left
        · rintro w' ⟨s0, s1, s2, s3, s4, s5⟩; go_simp; with_reducible rfl
        rotate_left
        · simp only [Act.put, List.setIfInBounds_toArray, List.set_cons_zero, List.set_cons_succ, i64_w, i32_w]; rfl
        refine take_ (i := 20) (N := some 101) (v := ?_) (a' := ?_) #[true, true, true, true, true, true, true, true, true, true, true, true, true, true, true, true, true, true, true, false, true, false, false, false, false] rfl rfl (by kernel_rfl) (fun _ _ _ h => h) (Or.inl ⟨by rfl, ?_⟩) hHeld ?_ ?_
        rotate_left
        · rintro w' ⟨s0, s1, s2, s3, s4, s5⟩; go_simp; with_reducible rfl
        rotate_left
        · simp only [Act.put, List.setIfInBounds_toArray, List.set_cons_zero, List.set_cons_succ, i64_w, i32_w]; rfl
        refine take_ (i := 21) (N := some 102) (v := ?_) (a' := ?_) #[true, true, true, true, true, true, true, true, true, true, true, true, true, true, true, true, true, true, true, false, true, true, false, false, false] rfl rfl (by kernel_rfl) (fun _ _ _ h => h) (Or.inl ⟨by rfl, ?_⟩) hHeld ?_ ?_
        rotate_left
        · rintro w' ⟨s0, s1, s2, s3, s4, s5⟩; go_simp; with_reducible rfl
        rotate_left
        · simp only [Act.put, List.setIfInBounds_toArray, List.set_cons_zero, List.set_cons_succ, i64_w, i32_w]; rfl
        refine one_ (i := 19) (N := some 100) #[true, true, true, true, true, true, true, true, true, true, true, true, true, true, true, true, true, true, true, true, true, true, false, false, false] rfl rfl (by kernel_rfl) (by decide) (fun K hK => ?_)
        refine goes_ Try.func29 (by kernel_rfl) rfl #[.pointer (some ⟨w1.heap.size, 0, none⟩), .int .i64 h.f0, .int .i64 h.f1] (by rfl) rfl rfl (by first | rfl | (simp only [List.map_toArray, List.map_cons, List.map_nil]; rfl)) ?_
        refine (cut_is (HPa.out.net.below HB89.out) h.f0 h.f1).mono ?_
        rintro e w100 ⟨rfl, hb⟩
        rw [HCut.out]
        have HC100 := Aside0.mk (HC89.out.trans (hb.mono HC89.out.size))
        have HB100 := Aside0.mk (HB89.out.trans (hb.mono HB89.out.size))
        clear hb
        have b0 : w100.cell? ⟨B, 0, none⟩ = some (.slice A0 L.length c0) := (blk_cell (keep_box HPa.out.box HB100.out) 0).trans rfl
        have b1 : w100.cell? ⟨B, 1, none⟩ = some (.slice A1 A.length c1) := (blk_cell (keep_box HPa.out.box HB100.out) 1).trans rfl
        have h0 : w100.cell? ⟨w.heap.size, 0, none⟩ = some (.int .i64 h.f0) := (blk_cell (keep_box H3a.out HB100.out) 0).trans rfl
        have h1 : w100.cell? ⟨w.heap.size, 1, none⟩ = some (.int .i64 h.f1) := (blk_cell (keep_box H3a.out HB100.out) 1).trans rfl
        have d0 : w100.cell? ⟨wr.heap.size, 0, none⟩ = some (.int .i64 h.f0) := (blk_cell (keep_box H10.out HB100.out) 0).trans rfl
        have d1' : w100.cell? ⟨wr.heap.size, 1, none⟩ = some (.int .i64 h.f1) := (blk_cell (keep_box H10.out HB100.out) 1).trans rfl
        refine ⟨_, rfl, hK.out _ _ ⟨b0, b1, h0, h1, d0, d1'⟩ (fun hHeld => ?_)⟩
        clear hK K b0 b1 h0 h1 d0 d1'
        refine norm_ (a' := ?_) ?_ ?_
        rotate_left
        · show Act.put _ (some 100) _ = _
          simp only [Act.put, List.setIfInBounds_toArray, List.set_cons_zero, List.set_cons_succ, i64_w, i32_w]
          rfl
        refine one_ (i := 22) (N := some 103) #[true, true, true, true, true, true, true, true, true, true, true, true, true, true, true, true, true, true, true, true, true, true, true, false, false] rfl rfl (by kernel_rfl) (by decide) (fun K hK => ?_)
        refine goes_ Try.func30 (by kernel_rfl) rfl #[.agg #[.slice A0 L.length c0, .slice A1 A.length c1], .agg #[.int .i64 h.f0, .int .i64 h.f1]] (by rfl) rfl rfl (by first | rfl | (simp only [List.map_toArray, List.map_cons, List.map_nil]; rfl)) ?_
        have hcc := caduceusref12_Net_Cut.calls 1001 A0 c0 (L.map to58) A1 c1 A h.f0 h.f1 bc w100 (by rw [List.length_map]; exact Kd.C_below (Kd.F_now HPa.out.r0) HB100.out) (by rw [List.length_map]; exact HP.out.c0) (Kd.C_below (Kd.F_now HPa.out.r1) HB100.out) HP.out.c1 HCf.out
        rw [List.length_map] at hcc
        refine hcc.mono ?_
        rintro e w103 ⟨rfl, hb⟩
        have HC103 := Aside0.mk (HC100.out.trans (hb.mono HC100.out.size))
        have HB103 := Aside0.mk (HB100.out.trans (hb.mono HB100.out.size))
        clear hb hcc
        have b0 : w103.cell? ⟨B, 0, none⟩ = some (.slice A0 L.length c0) := (blk_cell (keep_box HPa.out.box HB103.out) 0).trans rfl
        have b1 : w103.cell? ⟨B, 1, none⟩ = some (.slice A1 A.length c1) := (blk_cell (keep_box HPa.out.box HB103.out) 1).trans rfl
        have h0 : w103.cell? ⟨w.heap.size, 0, none⟩ = some (.int .i64 h.f0) := (blk_cell (keep_box H3a.out HB103.out) 0).trans rfl
        have h1 : w103.cell? ⟨w.heap.size, 1, none⟩ = some (.int .i64 h.f1) := (blk_cell (keep_box H3a.out HB103.out) 1).trans rfl
        have d0 : w103.cell? ⟨wr.heap.size, 0, none⟩ = some (.int .i64 h.f0) := (blk_cell (keep_box H10.out HB103.out) 0).trans rfl
        have d1' : w103.cell? ⟨wr.heap.size, 1, none⟩ = some (.int .i64 h.f1) := (blk_cell (keep_box H10.out HB103.out) 1).trans rfl
        refine ⟨_, rfl, hK.out _ _ ⟨b0, b1, h0, h1, d0, d1'⟩ (fun hHeld => ?_)⟩
        clear hK K b0 b1 h0 h1 d0 d1'
        refine norm_ (a' := ?_) ?_ ?_
        rotate_left
        · show Act.put _ (some 103) _ = _
          simp only [Act.put, List.setIfInBounds_toArray, List.set_cons_zero, List.set_cons_succ, i64_w, i32_w]
          rfl
        refine pure_ (i := 23) (N := some 104) (v := ?_) (a' := ?_) #[true, true, true, true, true, true, true, true, true, true, true, true, true, true, true, true, true, true, true, true, true, true, true, true, false] rfl rfl (by kernel_rfl) (fun _ _ _ h => h) (Or.inl ⟨by rfl, ?_⟩) ?_ ?_
        rotate_left
        · intro w'; go_simp; with_reducible rfl
        rotate_left
        · simp only [Act.put, List.setIfInBounds_toArray, List.set_cons_zero, List.set_cons_succ, i64_w, i32_w]; rfl
        refine pure_ (i := 24) (N := some 105) (v := ?_) (a' := ?_) #[true, true, true, true, true, true, true, true, true, true, true, true, true, true, true, true, true, true, true, true, true, true, true, true, true] rfl rfl (by kernel_rfl) (fun _ _ _ h => h) (Or.inl ⟨by rfl, ?_⟩) ?_ ?_
        rotate_left
        · intro w'; go_simp; with_reducible rfl
        rotate_left
        · simp only [Act.put, List.setIfInBounds_toArray, List.set_cons_zero, List.set_cons_succ, i64_w, i32_w]; rfl
        refine done_ (by kernel_rfl) ?_
        go_wp2
        have HBz := Aside0.mk HB103.out
        have HBr := Aside0.mk (HB61.out.trans (HC103.out.mono HB61.out.size))
        have HBp := Aside0.mk (HB59.out.trans (HBr.out.mono HB59.out.size))
        go_loopg [13] R.length (fun kq v13 w' => ∃ j : Nat, v13 = .int .i64 j ∧ Aside0 (j + kq = R.length) ∧ Aside0 (Below w103.heap.size w103 w'))
        case atStart => exact ⟨0, rfl, ⟨by omega⟩, ⟨Below.refl _ _⟩⟩
        case round =>
          obtain ⟨j, rfl, HK2, HB2⟩ := hrel
          cases gk with
          | zero =>
            have e : j = R.length := by have := HK2.out; omega
            subst e
            have d3 : decide ((R.length : Int) < (R.length : Int)) = false := decide_eq_false (by omega)
            go_wp2
            go_ret
            exact ⟨rfl, (HBw.out.trans (Below.mono HBz.out HBw.out.size)).trans (HB2.out.mono (Nat.le_trans HBw.out.size HBz.out.size))⟩
          | succ k2 =>
            have hj : j < R.length := by have := HK2.out; omega
            have d3 : decide ((j : Int) < (R.length : Int)) = true := decide_eq_true (by omega)
            obtain ⟨at_, hat⟩ : ∃ at_, PL[j]? = some at_ := ⟨_, List.getElem?_eq_getElem (by rw [HPR.out]; exact hj)⟩
            obtain ⟨p, hLp, hRp⟩ := HPat.out j at_ hat
            have hal : at_ < L.length := (List.getElem?_eq_some_iff.1 hLp).1
            have j0 : (0 : Int) ≤ (j : Int) := by omega
            have j1 : (j : Int) < (R.length : Int) := by omega
            have a0 : (0 : Int) ≤ (at_ : Int) := by omega
            have a1 : (at_ : Int) < (L.length : Int) := by omega
            obtain ⟨hx1, hx2, hx3⟩ := Kd.R_reads' HV12.out
            obtain ⟨ad2, hA2, e0, e1, e2, e3, e4, e5, e6⟩ := at_T28 (Kd.C_below (Kd.C_below hx3 HBr.out) HB2.out) (j : Int) j0 j1
            subst hA2
            clear hx1
            obtain ⟨hy1, hy2, hy3⟩ := Kd.R_reads' HV11.out
            obtain ⟨ad1, hA1, f0⟩ := Kd.at_int (xs := PL.map (fun n : Nat => (n : Int))) (Kd.C_below (Kd.C_below hy3 HBp.out) HB2.out) (j : Int) j0 (by rw [List.length_map, HPR.out]; exact j1)
            subst hA1
            clear hy1
            obtain ⟨ad3, hA3, g0, g1, g2, g3, g4, g5, g6⟩ := at_T58 (Kd.C_below (Kd.C_below (Kd.F_now HPa.out.r0) HBz.out) HB2.out) (at_ : Int) a0 a1
            subst hA3
            rw [rd_places hat] at f0
            have r28 : rd_T28 R (j : Int) = p := by unfold rd_T28; rw [Int.toNat_natCast, List.getD_eq_getElem?_getD, hRp]; rfl
            have r58 : rd_T58 (L.map to58) (at_ : Int) = to58 p := by unfold rd_T58; rw [Int.toNat_natCast, List.getD_eq_getElem?_getD, List.getElem?_map, hLp]; rfl
            rw [r28] at e0 e1 e2 e3 e4 e5 e6
            rw [r58] at g0 g1 g2 g3 g4 g5 g6
            dsimp only [to58] at g0 g1 g2 g3 g4 g5 g6
            simp only [Int.toNat_natCast] at e0 e1 e2 e3 e4 e5 e6 f0 g0 g1 g2 g3 g4 g5 g6
            have b0 : wr.cell? ⟨B, 0, none⟩ = some (.slice (some ad3) L.length c0) := (blk_cell (keep_box (keep_box HPa.out.box HBz.out) HB2.out) 0).trans rfl
            go_wp2
            go_quiet (fail)
            go_wp2
            go_roundg k2
            case measure => omega
            case rel => exact ⟨j + 1, by first | rfl | (simp; done) | (simp; unfold wrap64; omega), ⟨by have := HK2.out; omega⟩, ⟨pw_below_drewN HB2.out _⟩⟩
    | succ k1 =>
      have hi : i < l.length := by have := HK.out; omega
      have d1 : decide ((i : Int) < (l.length : Int)) = true := decide_eq_true (by omega)
      by_cases h6 : i < 40
      · have d2 : decide ((i : Int) < 40) = true := decide_eq_true (by omega)
        have i0 : (0 : Int) ≤ (i : Int) := by omega
        have i1 : (i : Int) < (l.length : Int) := by omega
        obtain ⟨x, hx⟩ : ∃ x, rd_T42 l (i : Int) = x := ⟨_, rfl⟩
        obtain ⟨ad, hA, _⟩ := at_T42 HL.out (i : Int) i0 i1
        have HX := Aside0.mk hx
        have HAl := Aside0.mk hA
        clear hx
        subst hA
        obtain ⟨e0, e1, e2, e3, e4, e5, e6, e7, e8, e9, e10, e11⟩ := cells42 HL.out HP.out.below hi HX.out rfl
        by_cases hbig : 2000 < x.f1.f6.size
        · have d3 : decide ((2000 : Int) < (x.f1.f6.size : Int)) = true := decide_eq_true (by omega)
          go_wp2
          go_roundg k1
          case measure => omega
          case rel => exact ⟨i + 1, q, L, ap, A, A0, c0, A1, c1, F, by first | rfl | (simp; done) | (simp; unfold wrap64; omega), ⟨HP.out.bel (Below.refl _ _) (Nat.le_succ i)⟩, ⟨by have := HK.out; omega⟩, by omega⟩
        · have d3 : decide ((2000 : Int) < (x.f1.f6.size : Int)) = false := decide_eq_false (by omega)
          go_wp2
          have b0 : wr.drew.cell? ⟨B, 0, none⟩ = some (.slice A0 L.length c0) := (blk_cell HP.out.box 0).trans rfl
          have b1 : wr.drew.cell? ⟨B, 1, none⟩ = some (.slice A1 A.length c1) := (blk_cell HP.out.box 1).trans rfl
          refine start_ (n := 13) (S := fun w' => w'.cell? ⟨B, 0, none⟩ = some (.slice A0 L.length c0) ∧ w'.cell? ⟨B, 1, none⟩ = some (.slice A1 A.length c1) ∧ w'.cell? (ad.add (i * 12)) = some (.int .i64 x.f0) ∧ w'.cell? ⟨(ad.add (i * 12)).block, (ad.add (i * 12)).off + 1, none⟩ = some (.int .i64 x.f1.f0) ∧ w'.cell? ⟨(ad.add (i * 12)).block, (ad.add (i * 12)).off + 2, none⟩ = some (.int .i64 x.f1.f1) ∧ w'.cell? ⟨(ad.add (i * 12)).block, (ad.add (i * 12)).off + 3, none⟩ = some (.int .i64 x.f1.f2) ∧ w'.cell? ⟨(ad.add (i * 12)).block, (ad.add (i * 12)).off + 4, none⟩ = some (.int .i64 x.f1.f3) ∧ w'.cell? ⟨(ad.add (i * 12)).block, (ad.add (i * 12)).off + 5, none⟩ = some (.int .i64 x.f1.f4) ∧ w'.cell? ⟨(ad.add (i * 12)).block, (ad.add (i * 12)).off + 6, none⟩ = some (.int .i64 x.f1.f5) ∧ w'.cell? ⟨(ad.add (i * 12)).block, (ad.add (i * 12)).off + 7, none⟩ = some (.string x.f1.f6) ∧ w'.cell? ⟨(ad.add (i * 12)).block, (ad.add (i * 12)).off + 8, none⟩ = some (.int .i64 x.f2.f0) ∧ w'.cell? ⟨(ad.add (i * 12)).block, (ad.add (i * 12)).off + 9, none⟩ = some (.int .i64 x.f2.f1) ∧ w'.cell? ⟨(ad.add (i * 12)).block, (ad.add (i * 12)).off + 10, none⟩ = some (.int .i64 x.f3) ∧ w'.cell? ⟨(ad.add (i * 12)).block, (ad.add (i * 12)).off + 11, none⟩ = some (.bool x.f4)) (ds := [11]) #[false, false, false, false, false, false, false, false, false, false, false, false, false] (by kernel_rfl) rfl rfl ⟨b0, b1, e0, e1, e2, e3, e4, e5, e6, e7, e8, e9, e10, e11⟩ (fun hHeld => ?_)
          refine pure_ (i := 0) (N := some 41) (v := ?_) (a' := ?_) #[true, false, false, false, false, false, false, false, false, false, false, false, false] rfl rfl (by kernel_rfl) (fun _ _ _ h => h) (Or.inl ⟨by rfl, ?_⟩) ?_ ?_
          rotate_left
          · intro w'; go_simp; with_reducible rfl
          rotate_left
          · simp only [Act.put, List.setIfInBounds_toArray, List.set_cons_zero, List.set_cons_succ, i64_w, i32_w]; rfl
          refine take_ (i := 1) (N := some 42) (v := ?_) (a' := ?_) #[true, true, false, false, false, false, false, false, false, false, false, false, false] rfl rfl (by kernel_rfl) (fun _ _ _ h => h) (Or.inl ⟨by rfl, ?_⟩) hHeld ?_ ?_
          rotate_left
          · rintro w' ⟨s0, s1, s2, s3, s4, s5, s6, s7, s8, s9, s10, s11, s12, s13⟩; go_simp; with_reducible rfl
          rotate_left
          · simp only [Act.put, List.setIfInBounds_toArray, List.set_cons_zero, List.set_cons_succ, i64_w, i32_w]; rfl
          refine pure_ (i := 2) (N := some 43) (v := ?_) (a' := ?_) #[true, true, true, false, false, false, false, false, false, false, false, false, false] rfl rfl (by kernel_rfl) (fun _ _ _ h => h) (Or.inl ⟨by rfl, ?_⟩) ?_ ?_
          rotate_left
          · intro w'; go_simp; with_reducible rfl
          rotate_left
          · simp only [Act.put, List.setIfInBounds_toArray, List.set_cons_zero, List.set_cons_succ, i64_w, i32_w]; rfl
          refine pure_ (i := 3) (N := some 44) (v := ?_) (a' := ?_) #[true, true, true, true, false, false, false, false, false, false, false, false, false] rfl rfl (by kernel_rfl) (fun _ _ _ h => h) (Or.inl ⟨by rfl, ?_⟩) ?_ ?_
          rotate_left
          · intro w'; go_simp; with_reducible rfl
          rotate_left
          · simp only [Act.put, List.setIfInBounds_toArray, List.set_cons_zero, List.set_cons_succ, i64_w, i32_w]; rfl
          refine pure_ (i := 4) (N := some 45) (v := ?_) (a' := ?_) #[true, true, true, true, true, false, false, false, false, false, false, false, false] rfl rfl (by kernel_rfl) (fun _ _ _ h => h) (Or.inl ⟨by rfl, ?_⟩) ?_ ?_
          rotate_left
          · intro w'; go_simp; with_reducible rfl
          rotate_left
          · simp only [Act.put, List.setIfInBounds_toArray, List.set_cons_zero, List.set_cons_succ, i64_w, i32_w]; rfl
          refine take_ (i := 5) (N := some 46) (v := ?_) (a' := ?_) #[true, true, true, true, true, true, false, false, false, false, false, false, false] rfl rfl (by kernel_rfl) (fun _ _ _ h => h) (Or.inl ⟨by rfl, ?_⟩) hHeld ?_ ?_
          rotate_left
          · rintro w' ⟨s0, s1, s2, s3, s4, s5, s6, s7, s8, s9, s10, s11, s12, s13⟩; go_simp; with_reducible rfl
          rotate_left
          · simp only [Act.put, List.setIfInBounds_toArray, List.set_cons_zero, List.set_cons_succ, i64_w, i32_w]; rfl
          clear b0 b1 e0 e1 e2 e3 e4 e5 e6 e7 e8 e9 e10 e11
          have HQ := Aside0.mk (HP.out.bel (below_drew1 (Below.refl _ _)) (Nat.le_refl i))
          obtain ⟨hr2, ha2, hl2, hal2⟩ := act_rel (x := x) HP.out.rel HP.out.arel HP.out.len
          have HR2 := Aside0.mk hr2
          have HA2 := Aside0.mk ha2
          have HL2 := Aside0.mk hl2
          have HAL := Aside0.mk (show (actC x A).length ≤ i + 1 by have := HP.out.alen; omega)
          clear hr2 ha2 hl2 hal2
          refine join_ (σ := Option Addr × Nat × Option Addr × Nat × Nat) 2 #[true, true, true, true, true, true, true, true, true, true, true, false, false] (fun s => [(47, .tuple #[.agg #[.slice s.1 (actL x L A).length s.2.1, .slice s.2.2.1 (actC x A).length s.2.2.2.1], .bool true]), (40, .tuple #[.agg #[.slice s.1 (actL x L A).length s.2.1, .slice s.2.2.1 (actC x A).length s.2.2.2.1], .bool true]), (48, .agg #[.slice s.1 (actL x L A).length s.2.1, .slice s.2.2.1 (actC x A).length s.2.2.2.1]), (49, .bool true), (8, .pointer (some ⟨s.2.2.2.2, 0, none⟩))]) (fun s w' => PJ w1 wr.drew w1.heap.size B s.2.2.2.2 F (actQ x q ap) (actA x ap) (actL x L A) (actC x A) s.1 s.2.1 s.2.2.1 s.2.2.2.1 w') ?_ ?_
          rotate_left
          · intro hcont
            have HC := Aside0.mk hcont
            clear hcont
            refine two_ (i := 6) (j := 10) (Ni := some 47) (Nj := some 8) #[true, true, true, true, true, true, true, false, false, false, false, false, false] #[true, true, true, true, true, true, false, false, false, false, true, false, false] rfl rfl rfl rfl (by kernel_rfl) (by decide) (by decide) (fun K hK => ?_) (fun K hK => ?_)
            · skip
              skip
              refine goes_ Try.func22 (by kernel_rfl) rfl #[.pointer (some ⟨w1.heap.size, 0, none⟩), .agg #[.slice A0 L.length c0, .slice A1 A.length c1], .agg #[.int .i64 x.f0, .int .i64 x.f1.f0, .int .i64 x.f1.f1, .int .i64 x.f1.f2, .int .i64 x.f1.f3, .int .i64 x.f1.f4, .int .i64 x.f1.f5, .string x.f1.f6, .int .i64 x.f2.f0, .int .i64 x.f2.f1, .int .i64 x.f3, .bool x.f4]] (by rfl) rfl rfl (by first | rfl | (simp only [List.map_toArray, List.map_cons, List.map_nil]; rfl)) ?_
              refine (do_is x HQ.out.net HP.out.rel HP.out.arel HP.out.len (by have := HP.out.alen; omega) (Kd.F_mono HQ.out.r0 (fun k hk => hk.1)) HP.out.c0 (Kd.F_mono HQ.out.r1 (fun k hk => hk.1)) HP.out.c1).mono ?_
              rintro e w22 ⟨v0, v1, rfl, F', hn', hF', hr0, hr1, hm⟩
              obtain ⟨A0', c0', rfl, hr0b, hr0c⟩ := hr0
              obtain ⟨A1', c1', rfl, hr1b, hr1c⟩ := hr1
              rw [List.length_map] at hr0b hr0c
              have hR0 : RF k58 w22 (fun k => ¬ F' k) (.slice A0' (actL x L A).length c0') ((actL x L A).map to58) := ⟨A0', c0', by rw [List.length_map], by rw [List.length_map]; exact hr0b, by rw [List.length_map]; exact hr0c⟩
              have hR1 : RF k52 w22 (fun k => ¬ F' k) (.slice A1' (actC x A).length c1') (actC x A) := ⟨A1', c1', rfl, hr1b, hr1c⟩
              have HJ := Aside0.mk (pj_one (w := w1) (B := B) hn' hF' hR0 hR1 hm)
              have HBx := Aside0.mk (mods_box HQ.out.box hm HQ.out.out)
              have HBb := Aside0.mk (HQ.out.below.trans (hm.below HQ.out.below.size HQ.out.young))
              clear hn' hF' hr0b hr0c hr1b hr1c hm hR0 hR1
              have b0 : w22.cell? ⟨B, 0, none⟩ = some (.slice A0 L.length c0) := (blk_cell HBx.out 0).trans rfl
              have b1 : w22.cell? ⟨B, 1, none⟩ = some (.slice A1 A.length c1) := (blk_cell HBx.out 1).trans rfl
              have hcs := cells42 (W := w22) HL.out HBb.out hi HX.out rfl
              obtain ⟨e0, e1, e2, e3, e4, e5, e6, e7, e8, e9, e10, e11⟩ := hcs
              rw [List.length_map]
              refine ⟨_, rfl, hK.out _ _ ⟨b0, b1, e0, e1, e2, e3, e4, e5, e6, e7, e8, e9, e10, e11⟩ (fun hHeld => ?_)⟩
              clear hK K b0 b1 e0 e1 e2 e3 e4 e5 e6 e7 e8 e9 e10 e11
              refine norm_ (a' := ?_) ?_ ?_
              rotate_left
              · show Act.put _ (some 47) _ = _
                simp only [Act.put, List.setIfInBounds_toArray, List.set_cons_zero, List.set_cons_succ, i64_w, i32_w]
                rfl
              refine pure_ (i := 7) (N := some 40) (v := ?_) (a' := ?_) #[true, true, true, true, true, true, true, true, false, false, false, false, false] rfl rfl (by kernel_rfl) (fun _ _ _ h => h) (Or.inl ⟨by rfl, ?_⟩) ?_ ?_
              rotate_left
              · intro w'; go_simp; with_reducible rfl
              rotate_left
              · simp only [Act.put, List.setIfInBounds_toArray, List.set_cons_zero, List.set_cons_succ, i64_w, i32_w]; rfl
              refine pure_ (i := 8) (N := some 48) (v := ?_) (a' := ?_) #[true, true, true, true, true, true, true, true, true, false, false, false, false] rfl rfl (by kernel_rfl) (fun _ _ _ h => h) (Or.inl ⟨by rfl, ?_⟩) ?_ ?_
              rotate_left
              · intro w'; go_simp; with_reducible rfl
              rotate_left
              · simp only [Act.put, List.setIfInBounds_toArray, List.set_cons_zero, List.set_cons_succ, i64_w, i32_w]; rfl
              refine pure_ (i := 9) (N := some 49) (v := ?_) (a' := ?_) #[true, true, true, true, true, true, true, true, true, true, false, false, false] rfl rfl (by kernel_rfl) (fun _ _ _ h => h) (Or.inl ⟨by rfl, ?_⟩) ?_ ?_
              rotate_left
              · intro w'; go_simp; with_reducible rfl
              rotate_left
              · simp only [Act.put, List.setIfInBounds_toArray, List.set_cons_zero, List.set_cons_succ, i64_w, i32_w]; rfl
              refine one_ (i := 10) (N := some 8) #[true, true, true, true, true, true, true, true, true, true, true, false, false] rfl rfl (by kernel_rfl) (by decide) (fun K hK => ?_)
              refine event_step (v := .pointer (some ⟨w22.heap.size, 0, none⟩)) (w1 := w22.alloc (.cells #[.slice none 0 0, .slice none 0 0] 40 (0, 0))) (by rfl) (by first | (go_simp; done) | (go_simp; rfl)) ?_
              have b0 : (w22.alloc (.cells #[.slice none 0 0, .slice none 0 0] 40 (0, 0))).cell? ⟨B, 0, none⟩ = some (.slice A0 L.length c0) := (blk_cell (blk_alloc HBx.out _) 0).trans rfl
              have b1 : (w22.alloc (.cells #[.slice none 0 0, .slice none 0 0] 40 (0, 0))).cell? ⟨B, 1, none⟩ = some (.slice A1 A.length c1) := (blk_cell (blk_alloc HBx.out _) 1).trans rfl
              have hcs := cells42 (W := w22.alloc (.cells #[.slice none 0 0, .slice none 0 0] 40 (0, 0))) HL.out (below_alloc HBb.out _) hi HX.out rfl
              obtain ⟨e0, e1, e2, e3, e4, e5, e6, e7, e8, e9, e10, e11⟩ := hcs
              refine hK.out _ _ ⟨b0, b1, e0, e1, e2, e3, e4, e5, e6, e7, e8, e9, e10, e11⟩ (fun hHeld => ?_)
              clear hK K b0 b1 e0 e1 e2 e3 e4 e5 e6 e7 e8 e9 e10 e11
              refine norm_ ?_ (HC.out ⟨A0', c0', A1', c1', w22.heap.size⟩ _ HJ.out)
              simp only [putAll, Act.put, List.setIfInBounds_toArray, List.set_cons_zero, List.set_cons_succ, i64_w, i32_w]
              rfl
            · refine event_step (v := .pointer (some ⟨wr.drew.heap.size, 0, none⟩)) (w1 := wr.drew.alloc (.cells #[.slice none 0 0, .slice none 0 0] 40 (0, 0))) (by rfl) (by first | (go_simp; done) | (go_simp; rfl)) ?_
              have HY := Aside0.mk (HQ.out.bel (below_alloc (Below.refl wr.drew.heap.size wr.drew) (.cells #[.slice none 0 0, .slice none 0 0] 40 (0, 0))) (Nat.le_refl i))
              have HN2 : NetW (wr.drew.alloc (.cells #[.slice none 0 0, .slice none 0 0] 40 (0, 0))) (fun k => F k ∧ k < wr.drew.heap.size) w1.heap.size q ap := (HQ.out.net.mono (fun k hk hF => ⟨hF, hk⟩)).below (below_alloc (Below.refl wr.drew.heap.size wr.drew) (.cells #[.slice none 0 0, .slice none 0 0] 40 (0, 0)))
              have HNa := Aside0.mk HN2
              clear HN2
              have b0 : (wr.drew.alloc (.cells #[.slice none 0 0, .slice none 0 0] 40 (0, 0))).cell? ⟨B, 0, none⟩ = some (.slice A0 L.length c0) := (blk_cell HY.out.box 0).trans rfl
              have b1 : (wr.drew.alloc (.cells #[.slice none 0 0, .slice none 0 0] 40 (0, 0))).cell? ⟨B, 1, none⟩ = some (.slice A1 A.length c1) := (blk_cell HY.out.box 1).trans rfl
              have hcs := cells42 (W := (wr.drew.alloc (.cells #[.slice none 0 0, .slice none 0 0] 40 (0, 0)))) HL.out HY.out.below hi HX.out rfl
              obtain ⟨e0, e1, e2, e3, e4, e5, e6, e7, e8, e9, e10, e11⟩ := hcs
              refine hK.out _ _ ⟨b0, b1, e0, e1, e2, e3, e4, e5, e6, e7, e8, e9, e10, e11⟩ (fun hHeld => ?_)
              clear hK K b0 b1 e0 e1 e2 e3 e4 e5 e6 e7 e8 e9 e10 e11
              skip
              refine norm_ (a' := ?_) ?_ ?_
              rotate_left
              · show Act.put _ (some 8) _ = _
                simp only [Act.put, List.setIfInBounds_toArray, List.set_cons_zero, List.set_cons_succ, i64_w, i32_w]
                rfl
              refine one_ (i := 6) (N := some 47) #[true, true, true, true, true, true, true, false, false, false, true, false, false] rfl rfl (by kernel_rfl) (by decide) (fun K hK => ?_)
              refine goes_ Try.func22 (by kernel_rfl) rfl #[.pointer (some ⟨w1.heap.size, 0, none⟩), .agg #[.slice A0 L.length c0, .slice A1 A.length c1], .agg #[.int .i64 x.f0, .int .i64 x.f1.f0, .int .i64 x.f1.f1, .int .i64 x.f1.f2, .int .i64 x.f1.f3, .int .i64 x.f1.f4, .int .i64 x.f1.f5, .string x.f1.f6, .int .i64 x.f2.f0, .int .i64 x.f2.f1, .int .i64 x.f3, .bool x.f4]] (by rfl) rfl rfl (by first | rfl | (simp only [List.map_toArray, List.map_cons, List.map_nil]; rfl)) ?_
              refine (do_is x HNa.out HP.out.rel HP.out.arel HP.out.len (by have := HP.out.alen; omega) (Kd.F_mono (Kd.F_bound HY.out.r0) (fun k hk => fun e => hk.1.1 e.1)) HP.out.c0 (Kd.F_mono (Kd.F_bound HY.out.r1) (fun k hk => fun e => hk.1.1 e.1)) HP.out.c1).mono ?_
              rintro e w22 ⟨v0, v1, rfl, F', hn', hF', hr0, hr1, hm⟩
              obtain ⟨A0', c0', rfl, hr0b, hr0c⟩ := hr0
              obtain ⟨A1', c1', rfl, hr1b, hr1c⟩ := hr1
              rw [List.length_map] at hr0b hr0c
              have hR0 : RF k58 w22 (fun k => ¬ F' k) (.slice A0' (actL x L A).length c0') ((actL x L A).map to58) := ⟨A0', c0', by rw [List.length_map], by rw [List.length_map]; exact hr0b, by rw [List.length_map]; exact hr0c⟩
              have hR1 : RF k52 w22 (fun k => ¬ F' k) (.slice A1' (actC x A).length c1') (actC x A) := ⟨A1', c1', rfl, hr1b, hr1c⟩
              have HJ := Aside0.mk (pj_two (w := w1) (B := B) hn' hF' hR0 hR1 hm)
              have HBx := Aside0.mk (mods_box HY.out.box hm (fun e => HY.out.out e.1))
              have HBb := Aside0.mk (HY.out.below.trans (hm.below HY.out.below.size (fun k hk => HY.out.young k hk.1)))
              clear hn' hF' hr0b hr0c hr1b hr1c hm hR0 hR1
              have b0 : w22.cell? ⟨B, 0, none⟩ = some (.slice A0 L.length c0) := (blk_cell HBx.out 0).trans rfl
              have b1 : w22.cell? ⟨B, 1, none⟩ = some (.slice A1 A.length c1) := (blk_cell HBx.out 1).trans rfl
              have hcs := cells42 (W := w22) HL.out HBb.out hi HX.out rfl
              obtain ⟨e0, e1, e2, e3, e4, e5, e6, e7, e8, e9, e10, e11⟩ := hcs
              rw [List.length_map]
              refine ⟨_, rfl, hK.out _ _ ⟨b0, b1, e0, e1, e2, e3, e4, e5, e6, e7, e8, e9, e10, e11⟩ (fun hHeld => ?_)⟩
              clear hK K b0 b1 e0 e1 e2 e3 e4 e5 e6 e7 e8 e9 e10 e11
              refine norm_ (a' := ?_) ?_ ?_
              rotate_left
              · show Act.put _ (some 47) _ = _
                simp only [Act.put, List.setIfInBounds_toArray, List.set_cons_zero, List.set_cons_succ, i64_w, i32_w]
                rfl
              refine pure_ (i := 7) (N := some 40) (v := ?_) (a' := ?_) #[true, true, true, true, true, true, true, true, false, false, true, false, false] rfl rfl (by kernel_rfl) (fun _ _ _ h => h) (Or.inl ⟨by rfl, ?_⟩) ?_ ?_
              rotate_left
              · intro w'; go_simp; with_reducible rfl
              rotate_left
              · simp only [Act.put, List.setIfInBounds_toArray, List.set_cons_zero, List.set_cons_succ, i64_w, i32_w]; rfl
              refine pure_ (i := 8) (N := some 48) (v := ?_) (a' := ?_) #[true, true, true, true, true, true, true, true, true, false, true, false, false] rfl rfl (by kernel_rfl) (fun _ _ _ h => h) (Or.inl ⟨by rfl, ?_⟩) ?_ ?_
              rotate_left
              · intro w'; go_simp; with_reducible rfl
              rotate_left
              · simp only [Act.put, List.setIfInBounds_toArray, List.set_cons_zero, List.set_cons_succ, i64_w, i32_w]; rfl
              refine pure_ (i := 9) (N := some 49) (v := ?_) (a' := ?_) #[true, true, true, true, true, true, true, true, true, true, true, false, false] rfl rfl (by kernel_rfl) (fun _ _ _ h => h) (Or.inl ⟨by rfl, ?_⟩) ?_ ?_
              rotate_left
              · intro w'; go_simp; with_reducible rfl
              rotate_left
              · simp only [Act.put, List.setIfInBounds_toArray, List.set_cons_zero, List.set_cons_succ, i64_w, i32_w]; rfl
              refine norm_ ?_ (HC.out ⟨A0', c0', A1', c1', wr.drew.heap.size⟩ _ HJ.out)
              simp only [putAll, Act.put, List.setIfInBounds_toArray, List.set_cons_zero, List.set_cons_succ, i64_w, i32_w]
              try rfl
          rintro ⟨A0', c0', A1', c1', b6⟩ w22 hj
          dsimp only at hj ⊢
          refine norm_ (a' := ?_) ?_ ?_
          rotate_left
          · simp only [putAll, Act.put, List.setIfInBounds_toArray, List.set_cons_zero, List.set_cons_succ, i64_w, i32_w]
            rfl
          have HJ := Aside0.mk hj
          have hb6 := hj.2.1
          clear hj
          refine last_ (i := 11) (N := none) #[true, true, true, true, true, true, true, true, true, true, true, true, false] rfl rfl (by kernel_rfl) (by decide) (fun K hK => ?_)
          refine storeRow_ (by rfl) 40 (.tmp 8) (.tmp 48) rfl rfl b6 #[.slice A0' (actL x L A).length c0', .slice A1' (actC x A).length c1'] rfl rfl 40 _ hb6 info40s rfl (by rw [List.all_toArray]; rfl) ?_
          refine hK.out _ _ ?_
          clear hK K
          refine pure_ (i := 12) (N := some 9) (v := ?_) (a' := ?_) #[true, true, true, true, true, true, true, true, true, true, true, true, true] rfl rfl (by kernel_rfl) (fun _ _ _ h => h) (Or.inl ⟨by rfl, ?_⟩) ?_ ?_
          rotate_left
          · intro w'; go_simp; with_reducible rfl
          rotate_left
          · simp only [Act.put, List.setIfInBounds_toArray, List.set_cons_zero, List.set_cons_succ, i64_w, i32_w]; rfl
          refine done_ (by kernel_rfl) ?_
          have h6B : B < b6 := Nat.lt_of_lt_of_le (blk_lt HQ.out.box) HJ.out.1
          have HZ6 := Aside0.mk (setRow_heap _ _ _ #[.slice A0' (actL x L A).length c0', .slice A1' (actC x A).length c1'] _ _ hb6)
          have HZB := Aside0.mk ((setRow_other w22 b6 B #[.slice A0' (actL x L A).length c0', .slice A1' (actC x A).length c1'] (by omega)).trans (mods_box HQ.out.box HJ.out.2.2.choose_spec.2.2.2.2.2 HQ.out.out))
          clear hb6
          go_wp2_with (first
            | ((with_reducible refine gate_dst (N := 50) rfl ?_); refine wpList_load_row rfl 40 (.tmp 8) rfl b6 rfl 40 _ (0, 0) _ HZ6.out Try.underlying40 rfl info40s ?_)
            | (((with_reducible refine gate_store (t := 40) (p := 6) rfl ?_); refine wpList_store_row rfl 40 (.tmp 6) (.tmp 50) rfl B #[.slice A0' (actL x L A).length c0', .slice A1' (actC x A).length c1'] rfl rfl 40 _ HZB.out info40s rfl (by rw [List.all_toArray]; rfl) ?_); obtain ⟨F3, hPI⟩ := pj_fin HQ.out HB0.out HR2.out HA2.out HL2.out HAL.out HJ.out (Below.refl _ _); have HPI := Aside0.mk hPI; clear hPI))
          go_roundg k1
          case measure => omega
          case rel => exact ⟨i + 1, _, _, _, _, _, _, _, _, _, by first | rfl | (simp; done) | (simp; unfold wrap64; omega), HPI, ⟨by have := HK.out; omega⟩, by omega⟩
      · have d2 : decide ((i : Int) < 40) = false := decide_eq_false (by omega)
        have H3r := Aside0.mk (keep_box H3.out HP.out.below)
        obtain ⟨w13, hw13⟩ : ∃ w13, w13 = wr.alloc (.cells #[.int .i64 h.f0, .int .i64 h.f1] 52 (0, 0)) := ⟨_, rfl⟩
        have hB13 : Below wr.heap.size wr w13 := by rw [hw13]; exact below_alloc (Below.refl _ _) _
        have H10 := Aside0.mk (show w13.heap[wr.heap.size]? = some (.cells #[.int .i64 h.f0, .int .i64 h.f1] 52 (0, 0)) by rw [hw13]; exact blk_new wr _)
        have H3a := Aside0.mk (keep_box H3r.out hB13)
        have HPa := Aside0.mk (HP.out.bel hB13 (Nat.le_refl _))
        have HBw := Aside0.mk (HB1.out.trans (Below.mono HPa.out.below HB1.out.size))
        have HW13 := Aside0.mk hw13
        have HCnt := Aside0.mk (show cnt q ≤ 1000 by have h1 := HP.out.rel.cnt; have h2 := HP.out.len; omega)
        have HWB := Aside0.mk (show (wr.alloc (.cells #[.int .i64 h.f0, .int .i64 h.f1] 52 (0, 0))).heap[B]? = some (.cells #[.slice A0 L.length c0, .slice A1 A.length c1] 40 (0, 0)) by rw [← HW13.out]; exact HPa.out.box)
        have HW10 := Aside0.mk (show (wr.alloc (.cells #[.int .i64 h.f0, .int .i64 h.f1] 52 (0, 0))).heap[wr.heap.size]? = some (.cells #[.int .i64 h.f0, .int .i64 h.f1] 52 (0, 0)) by rw [← HW13.out]; exact H10.out)
        clear hw13 hB13
        cases hb : hopB h.f0 h.f1 with
        | false =>
          have hrow : rowAt q h.f0 h.f1 = [] := by unfold rowAt; rw [if_neg (by rw [hb]; exact Bool.false_ne_true)]
          have hcut : cutB ap h.f0 h.f1 = false := by unfold cutB; rw [hb]; rfl
          have HRow := Aside0.mk hrow
          have HCut := Aside0.mk hcut
          have HHop := Aside0.mk hb
          clear hrow hcut hb
          go_wp2_with (first
            | ((with_reducible refine gate_dst (N := 53) rfl ?_); refine wpList_load_row rfl 32 (.tmp 3) rfl w.heap.size rfl 32 _ (0, 0) _ H3r.out Try.underlying32 rfl info32s ?_)
            | ((with_reducible refine gate_dst (N := 54) rfl ?_); refine wpList_load_row rfl 40 (.tmp 6) rfl B rfl 40 _ (0, 0) _ HWB.out Try.underlying40 rfl info40s ?_)
            | ((with_reducible refine gate_dst (N := 55) rfl ?_); refine wpList_load_row rfl 52 (.tmp 10) rfl wr.heap.size rfl 52 _ (0, 0) _ HW10.out Try.underlying52 rfl info52s ?_)
            | ((with_reducible refine gate_dst (N := 56) rfl ?_); refine goesL_ (some 56) rfl rfl Try.func26 (by kernel_rfl) rfl #[.agg #[.slice A0 L.length c0, .slice A1 A.length c1], .agg #[.int .i64 h.f0, .int .i64 h.f1]] rfl (by first | (simp only [List.map_toArray, List.map_cons, List.map_nil]; rfl) | rfl) ?_; refine (places_calls L A h.f0 h.f1 A0 c0 A1 c1 _ (by rw [← HW13.out]; exact Kd.F_now HPa.out.r0) HP.out.c0 (by rw [← HW13.out]; exact Kd.F_now HPa.out.r1) HP.out.c1 (by have := HP.out.len; omega)).mono ?_; rintro e w56 ⟨A11, c11, rfl, hR, hb⟩; rw [← HW13.out] at hR hb; have HB := Aside0.mk hb; have HV11 := Aside0.mk hR; clear hR hb; refine ⟨_, rfl, ?_⟩)
            | ((with_reducible refine gate_dst (N := 58) rfl ?_); refine wpList_load_row rfl 32 (.tmp 3) rfl w.heap.size rfl 32 _ (0, 0) _ (keep_box H3a.out HB.out) Try.underlying32 rfl info32s ?_)
            | ((with_reducible refine gate_dst (N := 59) rfl ?_); refine goesL_ (some 59) rfl rfl Try.func25 (by kernel_rfl) rfl #[.pointer (some ⟨w1.heap.size, 0, none⟩), .agg #[.int .i64 h.f0, .int .i64 h.f1]] rfl (by first | (simp only [List.map_toArray, List.map_cons, List.map_nil]; rfl) | rfl) ?_; refine (row_is (HPa.out.net.below HB.out) h.f0 h.f1 (rowAt_short HCnt.out _ _)).mono ?_; rintro e w59 ⟨v12, rfl, hR, hb⟩; rw [HRow.out] at hR; obtain ⟨A12, c12, rfl⟩ := Kd.R_slice hR; have HV12 := Aside0.mk hR; have HB59 := Aside0.mk hb; have HB_ := Aside0.mk (HB.out.trans (hb.mono HB.out.size)); clear HB; have HB := HB_; clear HB_ hb hR; refine ⟨_, rfl, ?_⟩)
            | ((with_reducible refine gate_dst (N := 60) rfl ?_); refine wpList_load_row rfl 52 (.tmp 10) rfl wr.heap.size rfl 52 _ (0, 0) _ (keep_box H10.out HB.out) Try.underlying52 rfl info52s ?_)
            | ((with_reducible refine gate_dst (N := 61) rfl ?_); refine goesL_ (some 61) rfl rfl Try.func27 (by kernel_rfl) rfl #[.agg #[.int .i64 h.f0, .int .i64 h.f1]] rfl (by first | (simp only [List.map_toArray, List.map_cons, List.map_nil]; rfl) | rfl) ?_; refine (refIs_is h.f0 h.f1 _).mono ?_; rintro e w61 ⟨rfl, hb⟩; rw [HHop.out]; have HB61 := Aside0.mk hb; have HB_ := Aside0.mk (HB.out.trans (hb.mono HB.out.size)); clear HB; have HB := HB_; clear HB_ hb; refine ⟨_, rfl, ?_⟩)
            | ((with_reducible refine gate_dst (N := 68) rfl ?_); refine gate_guard (by rfl) ?_; dsimp only; refine wpList_load_row rfl 32 (.tmp 3) rfl w.heap.size rfl 32 _ (0, 0) _ (keep_box H3a.out HB.out) Try.underlying32 rfl info32s ?_)
            | ((with_reducible refine gate_dst (N := 69) rfl ?_); refine gate_guard (by rfl) ?_; dsimp only; refine goesL_ (some 69) rfl rfl Try.func28 (by kernel_rfl) rfl #[.pointer (some ⟨w1.heap.size, 0, none⟩), .agg #[.int .i64 h.f0, .int .i64 h.f1]] rfl (by first | (simp only [List.map_toArray, List.map_cons, List.map_nil]; rfl) | rfl) ?_; refine (len_is (HPa.out.net.below HB.out) h.f0 h.f1).mono ?_; rintro e w69 ⟨rfl, hb⟩; rw [HRow.out]; have HB_ := Aside0.mk (HB.out.trans (hb.mono HB.out.size)); clear HB; have HB := HB_; clear HB_ hb; have X0 : w69.cell? ⟨w.heap.size, 0, none⟩ = some (.int .i64 h.f0) := (blk_cell (keep_box H3a.out HB.out) 0).trans rfl; have X1 : w69.cell? ⟨w.heap.size, 1, none⟩ = some (.int .i64 h.f1) := (blk_cell (keep_box H3a.out HB.out) 1).trans rfl; refine ⟨_, rfl, ?_⟩)
            | ((with_reducible refine gate_dst (N := 78) rfl ?_); refine gate_guard (by rfl) ?_; dsimp only; refine goesL_ (some 78) rfl rfl Try.func29 (by kernel_rfl) rfl #[.pointer (some ⟨w1.heap.size, 0, none⟩), .int .i64 h.f0, .int .i64 h.f1] rfl (by first | (simp only [List.map_toArray, List.map_cons, List.map_nil]; rfl) | rfl) ?_; refine (cut_is (HPa.out.net.below HB.out) h.f0 h.f1).mono ?_; rintro e w78 ⟨rfl, hb⟩; rw [HCut.out]; have HB_ := Aside0.mk (HB.out.trans (hb.mono HB.out.size)); clear HB; have HB := HB_; clear HB_ hb; refine ⟨_, rfl, ?_⟩))
          go_ret
          exact ⟨rfl, HBw.out.trans (Below.mono HB.out HBw.out.size)⟩
        | true =>
          obtain ⟨R, hrow⟩ : ∃ R, rowAt q h.f0 h.f1 = R := ⟨_, rfl⟩
          have hRF : L.filter (hopP h.f0 h.f1) = R := (HP.out.rel.rowAt hb).symm.trans hrow
          obtain ⟨PL, hPL⟩ : ∃ PL, places L h.f0 h.f1 = PL := ⟨_, rfl⟩
          have hPR : PL.length = R.length := by rw [← hPL, ← hRF]; exact places_len _ L 0
          have hPat : ∀ i at_ : Nat, PL[i]? = some at_ → ∃ p, L[at_]? = some p ∧ R[i]? = some p := by
            intro i at_ he
            rw [← hPL] at he
            obtain ⟨_, _, p, h1, _, h2, _⟩ := places_at _ L 0 i at_ he
            rw [hRF] at h2
            exact ⟨p, h1, h2⟩
          have hcut : cutB ap h.f0 h.f1 = cutL A h.f0 h.f1 := HP.out.arel.cutB hb
          obtain ⟨bc, hbc⟩ : ∃ bc, cutL A h.f0 h.f1 = bc := ⟨_, rfl⟩
          have hcf := cut_f (L.map to58) A h.f0 h.f1 (by have := HP.out.alen; omega) 1001 (Nat.le_refl _)
          rw [hbc] at hcut hcf
          have hRl : R.length ≤ 400 := by rw [← hRF]; exact Nat.le_trans (List.length_filter_le _ _) HP.out.len
          have HRow := Aside0.mk hrow
          have HCut := Aside0.mk hcut
          have HCf := Aside0.mk hcf
          have HHop := Aside0.mk hb
          have HPR := Aside0.mk hPR
          have HPat := Aside0.mk hPat
          have HPLe := Aside0.mk hPL
          clear hrow hcut hb hRF hPL hPR hPat hbc hcf
          go_wp2_with (first
            | ((with_reducible refine gate_dst (N := 53) rfl ?_); refine wpList_load_row rfl 32 (.tmp 3) rfl w.heap.size rfl 32 _ (0, 0) _ H3r.out Try.underlying32 rfl info32s ?_)
            | ((with_reducible refine gate_dst (N := 54) rfl ?_); refine wpList_load_row rfl 40 (.tmp 6) rfl B rfl 40 _ (0, 0) _ HWB.out Try.underlying40 rfl info40s ?_)
            | ((with_reducible refine gate_dst (N := 55) rfl ?_); refine wpList_load_row rfl 52 (.tmp 10) rfl wr.heap.size rfl 52 _ (0, 0) _ HW10.out Try.underlying52 rfl info52s ?_)
            | ((with_reducible refine gate_dst (N := 56) rfl ?_); refine goesL_ (some 56) rfl rfl Try.func26 (by kernel_rfl) rfl #[.agg #[.slice A0 L.length c0, .slice A1 A.length c1], .agg #[.int .i64 h.f0, .int .i64 h.f1]] rfl (by first | (simp only [List.map_toArray, List.map_cons, List.map_nil]; rfl) | rfl) ?_; refine (places_calls L A h.f0 h.f1 A0 c0 A1 c1 _ (by rw [← HW13.out]; exact Kd.F_now HPa.out.r0) HP.out.c0 (by rw [← HW13.out]; exact Kd.F_now HPa.out.r1) HP.out.c1 (by have := HP.out.len; omega)).mono ?_; rintro e w56 ⟨A11, c11, rfl, hR, hb⟩; rw [← HW13.out] at hR hb; rw [HPLe.out, HPR.out] at hR; rw [HPLe.out, HPR.out]; have HB := Aside0.mk hb; have HV11 := Aside0.mk hR; clear hR hb; refine ⟨_, rfl, ?_⟩)
            | ((with_reducible refine gate_dst (N := 58) rfl ?_); refine wpList_load_row rfl 32 (.tmp 3) rfl w.heap.size rfl 32 _ (0, 0) _ (keep_box H3a.out HB.out) Try.underlying32 rfl info32s ?_)
            | ((with_reducible refine gate_dst (N := 59) rfl ?_); refine goesL_ (some 59) rfl rfl Try.func25 (by kernel_rfl) rfl #[.pointer (some ⟨w1.heap.size, 0, none⟩), .agg #[.int .i64 h.f0, .int .i64 h.f1]] rfl (by first | (simp only [List.map_toArray, List.map_cons, List.map_nil]; rfl) | rfl) ?_; refine (row_is (HPa.out.net.below HB.out) h.f0 h.f1 (rowAt_short HCnt.out _ _)).mono ?_; rintro e w59 ⟨v12, rfl, hR, hb⟩; rw [HRow.out] at hR; obtain ⟨A12, c12, rfl⟩ := Kd.R_slice hR; have HV12 := Aside0.mk hR; have HB59 := Aside0.mk hb; have HB_ := Aside0.mk (HB.out.trans (hb.mono HB.out.size)); clear HB; have HB := HB_; clear HB_ hb hR; refine ⟨_, rfl, ?_⟩)
            | ((with_reducible refine gate_dst (N := 60) rfl ?_); refine wpList_load_row rfl 52 (.tmp 10) rfl wr.heap.size rfl 52 _ (0, 0) _ (keep_box H10.out HB.out) Try.underlying52 rfl info52s ?_)
            | ((with_reducible refine gate_dst (N := 61) rfl ?_); refine goesL_ (some 61) rfl rfl Try.func27 (by kernel_rfl) rfl #[.agg #[.int .i64 h.f0, .int .i64 h.f1]] rfl (by first | (simp only [List.map_toArray, List.map_cons, List.map_nil]; rfl) | rfl) ?_; refine (refIs_is h.f0 h.f1 _).mono ?_; rintro e w61 ⟨rfl, hb⟩; rw [HHop.out]; have HB61 := Aside0.mk hb; have HB_ := Aside0.mk (HB.out.trans (hb.mono HB.out.size)); clear HB; have HB := HB_; clear HB_ hb; refine ⟨_, rfl, ?_⟩))
          have b0 : w61.drew.cell? ⟨B, 0, none⟩ = some (.slice A0 L.length c0) := (blk_cell (keep_box HPa.out.box HB.out) 0).trans rfl
          have b1 : w61.drew.cell? ⟨B, 1, none⟩ = some (.slice A1 A.length c1) := (blk_cell (keep_box HPa.out.box HB.out) 1).trans rfl
          have h0 : w61.drew.cell? ⟨w.heap.size, 0, none⟩ = some (.int .i64 h.f0) := (blk_cell (keep_box H3a.out HB.out) 0).trans rfl
          have h1 : w61.drew.cell? ⟨w.heap.size, 1, none⟩ = some (.int .i64 h.f1) := (blk_cell (keep_box H3a.out HB.out) 1).trans rfl
          have d0 : w61.drew.cell? ⟨wr.heap.size, 0, none⟩ = some (.int .i64 h.f0) := (blk_cell (keep_box H10.out HB.out) 0).trans rfl
          have d1' : w61.drew.cell? ⟨wr.heap.size, 1, none⟩ = some (.int .i64 h.f1) := (blk_cell (keep_box H10.out HB.out) 1).trans rfl
          refine start_ (n := 25) (S := fun w' => w'.cell? ⟨B, 0, none⟩ = some (.slice A0 L.length c0) ∧ w'.cell? ⟨B, 1, none⟩ = some (.slice A1 A.length c1) ∧ w'.cell? ⟨w.heap.size, 0, none⟩ = some (.int .i64 h.f0) ∧ w'.cell? ⟨w.heap.size, 1, none⟩ = some (.int .i64 h.f1) ∧ w'.cell? ⟨wr.heap.size, 0, none⟩ = some (.int .i64 h.f0) ∧ w'.cell? ⟨wr.heap.size, 1, none⟩ = some (.int .i64 h.f1)) (ds := []) #[false, false, false, false, false, false, false, false, false, false, false, false, false, false, false, false, false, false, false, false, false, false, false, false, false] (by kernel_rfl) rfl rfl ⟨b0, b1, h0, h1, d0, d1'⟩ (fun hHeld => ?_)
          refine pure_ (i := 0) (N := some 81) (v := ?_) (a' := ?_) #[true, false, false, false, false, false, false, false, false, false, false, false, false, false, false, false, false, false, false, false, false, false, false, false, false] rfl rfl (by kernel_rfl) (fun _ _ _ h => h) (Or.inl ⟨by rfl, ?_⟩) ?_ ?_
          rotate_left
          · intro w'; go_simp; with_reducible rfl
          rotate_left
          · simp only [Act.put, List.setIfInBounds_toArray, List.set_cons_zero, List.set_cons_succ, i64_w, i32_w]; rfl
          refine pure_ (i := 1) (N := some 82) (v := ?_) (a' := ?_) #[true, true, false, false, false, false, false, false, false, false, false, false, false, false, false, false, false, false, false, false, false, false, false, false, false] rfl rfl (by kernel_rfl) (fun _ _ _ h => h) (Or.inl ⟨by rfl, ?_⟩) ?_ ?_
          rotate_left
          · intro w'; go_simp; with_reducible rfl
          rotate_left
          · simp only [Act.put, List.setIfInBounds_toArray, List.set_cons_zero, List.set_cons_succ, i64_w, i32_w]; rfl
          refine pure_ (i := 2) (N := some 83) (v := ?_) (a' := ?_) #[true, true, true, false, false, false, false, false, false, false, false, false, false, false, false, false, false, false, false, false, false, false, false, false, false] rfl rfl (by kernel_rfl) (fun _ _ _ h => h) (Or.inl ⟨by rfl, ?_⟩) ?_ ?_
          rotate_left
          · intro w'; go_simp; with_reducible rfl
          rotate_left
          · simp only [Act.put, List.setIfInBounds_toArray, List.set_cons_zero, List.set_cons_succ, i64_w, i32_w]; rfl
          refine pure_ (i := 3) (N := some 84) (v := ?_) (a' := ?_) #[true, true, true, true, false, false, false, false, false, false, false, false, false, false, false, false, false, false, false, false, false, false, false, false, false] rfl rfl (by kernel_rfl) (fun _ _ _ h => h) (Or.inl ⟨by rfl, ?_⟩) ?_ ?_
          rotate_left
          · intro w'; go_simp; with_reducible rfl
          rotate_left
          · simp only [Act.put, List.setIfInBounds_toArray, List.set_cons_zero, List.set_cons_succ, i64_w, i32_w]; rfl
          refine pure_ (i := 4) (N := some 85) (v := ?_) (a' := ?_) #[true, true, true, true, true, false, false, false, false, false, false, false, false, false, false, false, false, false, false, false, false, false, false, false, false] rfl rfl (by kernel_rfl) (fun _ _ _ h => h) (Or.inl ⟨by rfl, ?_⟩) ?_ ?_
          rotate_left
          · intro w'; go_simp; with_reducible rfl
          rotate_left
          · simp only [Act.put, List.setIfInBounds_toArray, List.set_cons_zero, List.set_cons_succ, i64_w, i32_w]; rfl
          refine pure_ (i := 5) (N := some 86) (v := ?_) (a' := ?_) #[true, true, true, true, true, true, false, false, false, false, false, false, false, false, false, false, false, false, false, false, false, false, false, false, false] rfl rfl (by kernel_rfl) (fun _ _ _ h => h) (Or.inl ⟨by rfl, ?_⟩) ?_ ?_
          rotate_left
          · intro w'; go_simp; with_reducible rfl
          rotate_left
          · simp only [Act.put, List.setIfInBounds_toArray, List.set_cons_zero, List.set_cons_succ, i64_w, i32_w]; rfl
          refine pure_ (i := 6) (N := some 87) (v := ?_) (a' := ?_) #[true, true, true, true, true, true, true, false, false, false, false, false, false, false, false, false, false, false, false, false, false, false, false, false, false] rfl rfl (by kernel_rfl) (fun _ _ _ h => h) (Or.inl ⟨by rfl, ?_⟩) ?_ ?_
          rotate_left
          · intro w'; go_simp; with_reducible rfl
          rotate_left
          · simp only [Act.put, List.setIfInBounds_toArray, List.set_cons_zero, List.set_cons_succ, i64_w, i32_w]; rfl
          refine take_ (i := 7) (N := some 88) (v := ?_) (a' := ?_) #[true, true, true, true, true, true, true, true, false, false, false, false, false, false, false, false, false, false, false, false, false, false, false, false, false] rfl rfl (by kernel_rfl) (fun _ _ _ h => h) (Or.inl ⟨by rfl, ?_⟩) hHeld ?_ ?_
          rotate_left
          · rintro w' ⟨s0, s1, s2, s3, s4, s5⟩; go_simp; with_reducible rfl
          rotate_left
          · simp only [Act.put, List.setIfInBounds_toArray, List.set_cons_zero, List.set_cons_succ, i64_w, i32_w]; rfl
          refine pure_ (i := 9) (N := some 90) (v := ?_) (a' := ?_) #[true, true, true, true, true, true, true, true, false, true, false, false, false, false, false, false, false, false, false, false, false, false, false, false, false] rfl rfl (by kernel_rfl) (fun _ _ _ h => h) (Or.inl ⟨by rfl, ?_⟩) ?_ ?_
          rotate_left
          · intro w'; go_simp; with_reducible rfl
          rotate_left
          · simp only [Act.put, List.setIfInBounds_toArray, List.set_cons_zero, List.set_cons_succ, i64_w, i32_w]; rfl
          refine pure_ (i := 10) (N := some 91) (v := ?_) (a' := ?_) #[true, true, true, true, true, true, true, true, false, true, true, false, false, false, false, false, false, false, false, false, false, false, false, false, false] rfl rfl (by kernel_rfl) (fun _ _ _ h => h) (Or.inl ⟨by rfl, ?_⟩) ?_ ?_
          rotate_left
          · intro w'; go_simp; with_reducible rfl
          rotate_left
          · simp only [Act.put, List.setIfInBounds_toArray, List.set_cons_zero, List.set_cons_succ, i64_w, i32_w]; rfl
          clear b0 b1 h0 h1 d0 d1'
          have HBd := Aside0.mk (below_drew1 HB.out)
          have HD := Aside0.mk (below_drew1 (Below.refl w61.heap.size w61))
          refine one_ (i := 8) (N := some 89) #[true, true, true, true, true, true, true, true, true, true, true, false, false, false, false, false, false, false, false, false, false, false, false, false, false] rfl rfl (by kernel_rfl) (by decide) (fun K hK => ?_)
          refine goes_ Try.func28 (by kernel_rfl) rfl #[.pointer (some ⟨w1.heap.size, 0, none⟩), .agg #[.int .i64 h.f0, .int .i64 h.f1]] (by rfl) rfl rfl (by first | rfl | (simp only [List.map_toArray, List.map_cons, List.map_nil]; rfl)) ?_
          refine (len_is (HPa.out.net.below HBd.out) h.f0 h.f1).mono ?_
          rintro e w89 ⟨rfl, hb⟩
          rw [HRow.out]
          have HC89 := Aside0.mk (HD.out.trans (hb.mono HD.out.size))
          have HB89 := Aside0.mk (HBd.out.trans (hb.mono HBd.out.size))
          clear hb
          have b0 : w89.cell? ⟨B, 0, none⟩ = some (.slice A0 L.length c0) := (blk_cell (keep_box HPa.out.box HB89.out) 0).trans rfl
          have b1 : w89.cell? ⟨B, 1, none⟩ = some (.slice A1 A.length c1) := (blk_cell (keep_box HPa.out.box HB89.out) 1).trans rfl
          have h0 : w89.cell? ⟨w.heap.size, 0, none⟩ = some (.int .i64 h.f0) := (blk_cell (keep_box H3a.out HB89.out) 0).trans rfl
          have h1 : w89.cell? ⟨w.heap.size, 1, none⟩ = some (.int .i64 h.f1) := (blk_cell (keep_box H3a.out HB89.out) 1).trans rfl
          have d0 : w89.cell? ⟨wr.heap.size, 0, none⟩ = some (.int .i64 h.f0) := (blk_cell (keep_box H10.out HB89.out) 0).trans rfl
          have d1' : w89.cell? ⟨wr.heap.size, 1, none⟩ = some (.int .i64 h.f1) := (blk_cell (keep_box H10.out HB89.out) 1).trans rfl
          refine ⟨_, rfl, hK.out _ _ ⟨b0, b1, h0, h1, d0, d1'⟩ (fun hHeld => ?_)⟩
          clear hK K b0 b1 h0 h1 d0 d1'
          refine norm_ (a' := ?_) ?_ ?_
          rotate_left
          · show Act.put _ (some 89) _ = _
            simp only [Act.put, List.setIfInBounds_toArray, List.set_cons_zero, List.set_cons_succ, i64_w, i32_w]
            rfl
          refine pure_ (i := 11) (N := some 92) (v := ?_) (a' := ?_) #[true, true, true, true, true, true, true, true, true, true, true, true, false, false, false, false, false, false, false, false, false, false, false, false, false] rfl rfl (by kernel_rfl) (fun _ _ _ h => h) (Or.inl ⟨by rfl, ?_⟩) ?_ ?_
          rotate_left
          · intro w'; go_simp; with_reducible rfl
          rotate_left
          · simp only [Act.put, List.setIfInBounds_toArray, List.set_cons_zero, List.set_cons_succ, i64_w, i32_w]; rfl
          refine pure_ (i := 12) (N := some 93) (v := ?_) (a' := ?_) #[true, true, true, true, true, true, true, true, true, true, true, true, true, false, false, false, false, false, false, false, false, false, false, false, false] rfl rfl (by kernel_rfl) (fun _ _ _ h => h) (Or.inl ⟨by rfl, ?_⟩) ?_ ?_
          rotate_left
          · intro w'; go_simp; with_reducible rfl
          rotate_left
          · simp only [Act.put, List.setIfInBounds_toArray, List.set_cons_zero, List.set_cons_succ, i64_w, i32_w]; rfl
          refine pure_ (i := 13) (N := some 94) (v := ?_) (a' := ?_) #[true, true, true, true, true, true, true, true, true, true, true, true, true, true, false, false, false, false, false, false, false, false, false, false, false] rfl rfl (by kernel_rfl) (fun _ _ _ h => h) (Or.inl ⟨by rfl, ?_⟩) ?_ ?_
          rotate_left
          · intro w'; go_simp; with_reducible rfl
          rotate_left
          · simp only [Act.put, List.setIfInBounds_toArray, List.set_cons_zero, List.set_cons_succ, i64_w, i32_w]; rfl
          refine pure_ (i := 14) (N := some 95) (v := ?_) (a' := ?_) #[true, true, true, true, true, true, true, true, true, true, true, true, true, true, true, false, false, false, false, false, false, false, false, false, false] rfl rfl (by kernel_rfl) (fun _ _ _ h => h) (Or.inl ⟨by rfl, ?_⟩) ?_ ?_
          rotate_left
          · intro w'; go_simp; with_reducible rfl
          rotate_left
          · simp only [Act.put, List.setIfInBounds_toArray, List.set_cons_zero, List.set_cons_succ, i64_w, i32_w]; rfl
          refine pure_ (i := 15) (N := some 96) (v := ?_) (a' := ?_) #[true, true, true, true, true, true, true, true, true, true, true, true, true, true, true, true, false, false, false, false, false, false, false, false, false] rfl rfl (by kernel_rfl) (fun _ _ _ h => h) (Or.inl ⟨by rfl, ?_⟩) ?_ ?_
          rotate_left
          · intro w'; go_simp; with_reducible rfl
          rotate_left
          · simp only [Act.put, List.setIfInBounds_toArray, List.set_cons_zero, List.set_cons_succ, i64_w, i32_w]; rfl
          refine take_ (i := 16) (N := some 97) (v := ?_) (a' := ?_) #[true, true, true, true, true, true, true, true, true, true, true, true, true, true, true, true, true, false, false, false, false, false, false, false, false] rfl rfl (by kernel_rfl) (fun _ _ _ h => h) (Or.inl ⟨by rfl, ?_⟩) hHeld ?_ ?_
          rotate_left
          · rintro w' ⟨s0, s1, s2, s3, s4, s5⟩; go_simp; with_reducible rfl
          rotate_left
          · simp only [Act.put, List.setIfInBounds_toArray, List.set_cons_zero, List.set_cons_succ, i64_w, i32_w]; rfl
          refine pure_ (i := 17) (N := some 98) (v := ?_) (a' := ?_) #[true, true, true, true, true, true, true, true, true, true, true, true, true, true, true, true, true, true, false, false, false, false, false, false, false] rfl rfl (by kernel_rfl) (fun _ _ _ h => h) (Or.inl ⟨by rfl, ?_⟩) ?_ ?_
          rotate_left
          · intro w'; go_simp; with_reducible rfl
          rotate_left
          · simp only [Act.put, List.setIfInBounds_toArray, List.set_cons_zero, List.set_cons_succ, i64_w, i32_w]; rfl
          refine take_ (i := 18) (N := some 99) (v := ?_) (a' := ?_) #[true, true, true, true, true, true, true, true, true, true, true, true, true, true, true, true, true, true, true, false, false, false, false, false, false] rfl rfl (by kernel_rfl) (fun _ _ _ h => h) (Or.inl ⟨by rfl, ?_⟩) hHeld ?_ ?_
          rotate_left
          · rintro w' ⟨s0, s1, s2, s3, s4, s5⟩; go_simp; with_reducible rfl
          rotate_left
          · simp only [Act.put, List.setIfInBounds_toArray, List.set_cons_zero, List.set_cons_succ, i64_w, i32_w]; rfl
          refine take_ (i := 20) (N := some 101) (v := ?_) (a' := ?_) #[true, true, true, true, true, true, true, true, true, true, true, true, true, true, true, true, true, true, true, false, true, false, false, false, false] rfl rfl (by kernel_rfl) (fun _ _ _ h => h) (Or.inl ⟨by rfl, ?_⟩) hHeld ?_ ?_
          rotate_left
          · rintro w' ⟨s0, s1, s2, s3, s4, s5⟩; go_simp; with_reducible rfl
          rotate_left
          · simp only [Act.put, List.setIfInBounds_toArray, List.set_cons_zero, List.set_cons_succ, i64_w, i32_w]; rfl
          refine take_ (i := 21) (N := some 102) (v := ?_) (a' := ?_) #[true, true, true, true, true, true, true, true, true, true, true, true, true, true, true, true, true, true, true, false, true, true, false, false, false] rfl rfl (by kernel_rfl) (fun _ _ _ h => h) (Or.inl ⟨by rfl, ?_⟩) hHeld ?_ ?_
          rotate_left
          · rintro w' ⟨s0, s1, s2, s3, s4, s5⟩; go_simp; with_reducible rfl
          rotate_left
          · simp only [Act.put, List.setIfInBounds_toArray, List.set_cons_zero, List.set_cons_succ, i64_w, i32_w]; rfl
          refine one_ (i := 19) (N := some 100) #[true, true, true, true, true, true, true, true, true, true, true, true, true, true, true, true, true, true, true, true, true, true, false, false, false] rfl rfl (by kernel_rfl) (by decide) (fun K hK => ?_)
          refine goes_ Try.func29 (by kernel_rfl) rfl #[.pointer (some ⟨w1.heap.size, 0, none⟩), .int .i64 h.f0, .int .i64 h.f1] (by rfl) rfl rfl (by first | rfl | (simp only [List.map_toArray, List.map_cons, List.map_nil]; rfl)) ?_
          refine (cut_is (HPa.out.net.below HB89.out) h.f0 h.f1).mono ?_
          rintro e w100 ⟨rfl, hb⟩
          rw [HCut.out]
          have HC100 := Aside0.mk (HC89.out.trans (hb.mono HC89.out.size))
          have HB100 := Aside0.mk (HB89.out.trans (hb.mono HB89.out.size))
          clear hb
          have b0 : w100.cell? ⟨B, 0, none⟩ = some (.slice A0 L.length c0) := (blk_cell (keep_box HPa.out.box HB100.out) 0).trans rfl
          have b1 : w100.cell? ⟨B, 1, none⟩ = some (.slice A1 A.length c1) := (blk_cell (keep_box HPa.out.box HB100.out) 1).trans rfl
          have h0 : w100.cell? ⟨w.heap.size, 0, none⟩ = some (.int .i64 h.f0) := (blk_cell (keep_box H3a.out HB100.out) 0).trans rfl
          have h1 : w100.cell? ⟨w.heap.size, 1, none⟩ = some (.int .i64 h.f1) := (blk_cell (keep_box H3a.out HB100.out) 1).trans rfl
          have d0 : w100.cell? ⟨wr.heap.size, 0, none⟩ = some (.int .i64 h.f0) := (blk_cell (keep_box H10.out HB100.out) 0).trans rfl
          have d1' : w100.cell? ⟨wr.heap.size, 1, none⟩ = some (.int .i64 h.f1) := (blk_cell (keep_box H10.out HB100.out) 1).trans rfl
          refine ⟨_, rfl, hK.out _ _ ⟨b0, b1, h0, h1, d0, d1'⟩ (fun hHeld => ?_)⟩
          clear hK K b0 b1 h0 h1 d0 d1'
          refine norm_ (a' := ?_) ?_ ?_
          rotate_left
          · show Act.put _ (some 100) _ = _
            simp only [Act.put, List.setIfInBounds_toArray, List.set_cons_zero, List.set_cons_succ, i64_w, i32_w]
            rfl
          refine one_ (i := 22) (N := some 103) #[true, true, true, true, true, true, true, true, true, true, true, true, true, true, true, true, true, true, true, true, true, true, true, false, false] rfl rfl (by kernel_rfl) (by decide) (fun K hK => ?_)
          refine goes_ Try.func30 (by kernel_rfl) rfl #[.agg #[.slice A0 L.length c0, .slice A1 A.length c1], .agg #[.int .i64 h.f0, .int .i64 h.f1]] (by rfl) rfl rfl (by first | rfl | (simp only [List.map_toArray, List.map_cons, List.map_nil]; rfl)) ?_
          have hcc := caduceusref12_Net_Cut.calls 1001 A0 c0 (L.map to58) A1 c1 A h.f0 h.f1 bc w100 (by rw [List.length_map]; exact Kd.C_below (Kd.F_now HPa.out.r0) HB100.out) (by rw [List.length_map]; exact HP.out.c0) (Kd.C_below (Kd.F_now HPa.out.r1) HB100.out) HP.out.c1 HCf.out
          rw [List.length_map] at hcc
          refine hcc.mono ?_
          rintro e w103 ⟨rfl, hb⟩
          have HC103 := Aside0.mk (HC100.out.trans (hb.mono HC100.out.size))
          have HB103 := Aside0.mk (HB100.out.trans (hb.mono HB100.out.size))
          clear hb hcc
          have b0 : w103.cell? ⟨B, 0, none⟩ = some (.slice A0 L.length c0) := (blk_cell (keep_box HPa.out.box HB103.out) 0).trans rfl
          have b1 : w103.cell? ⟨B, 1, none⟩ = some (.slice A1 A.length c1) := (blk_cell (keep_box HPa.out.box HB103.out) 1).trans rfl
          have h0 : w103.cell? ⟨w.heap.size, 0, none⟩ = some (.int .i64 h.f0) := (blk_cell (keep_box H3a.out HB103.out) 0).trans rfl
          have h1 : w103.cell? ⟨w.heap.size, 1, none⟩ = some (.int .i64 h.f1) := (blk_cell (keep_box H3a.out HB103.out) 1).trans rfl
          have d0 : w103.cell? ⟨wr.heap.size, 0, none⟩ = some (.int .i64 h.f0) := (blk_cell (keep_box H10.out HB103.out) 0).trans rfl
          have d1' : w103.cell? ⟨wr.heap.size, 1, none⟩ = some (.int .i64 h.f1) := (blk_cell (keep_box H10.out HB103.out) 1).trans rfl
          refine ⟨_, rfl, hK.out _ _ ⟨b0, b1, h0, h1, d0, d1'⟩ (fun hHeld => ?_)⟩
          clear hK K b0 b1 h0 h1 d0 d1'
          refine norm_ (a' := ?_) ?_ ?_
          rotate_left
          · show Act.put _ (some 103) _ = _
            simp only [Act.put, List.setIfInBounds_toArray, List.set_cons_zero, List.set_cons_succ, i64_w, i32_w]
            rfl
          refine pure_ (i := 23) (N := some 104) (v := ?_) (a' := ?_) #[true, true, true, true, true, true, true, true, true, true, true, true, true, true, true, true, true, true, true, true, true, true, true, true, false] rfl rfl (by kernel_rfl) (fun _ _ _ h => h) (Or.inl ⟨by rfl, ?_⟩) ?_ ?_
          rotate_left
          · intro w'; go_simp; with_reducible rfl
          rotate_left
          · simp only [Act.put, List.setIfInBounds_toArray, List.set_cons_zero, List.set_cons_succ, i64_w, i32_w]; rfl
          refine pure_ (i := 24) (N := some 105) (v := ?_) (a' := ?_) #[true, true, true, true, true, true, true, true, true, true, true, true, true, true, true, true, true, true, true, true, true, true, true, true, true] rfl rfl (by kernel_rfl) (fun _ _ _ h => h) (Or.inl ⟨by rfl, ?_⟩) ?_ ?_
          rotate_left
          · intro w'; go_simp; with_reducible rfl
          rotate_left
          · simp only [Act.put, List.setIfInBounds_toArray, List.set_cons_zero, List.set_cons_succ, i64_w, i32_w]; rfl
          refine done_ (by kernel_rfl) ?_
          go_wp2
          have HBz := Aside0.mk HB103.out
          have HBr := Aside0.mk (HB61.out.trans (HC103.out.mono HB61.out.size))
          have HBp := Aside0.mk (HB59.out.trans (HBr.out.mono HB59.out.size))
          go_loopg [13] R.length (fun kq v13 w' => ∃ j : Nat, v13 = .int .i64 j ∧ Aside0 (j + kq = R.length) ∧ Aside0 (Below w103.heap.size w103 w'))
          case atStart => exact ⟨0, rfl, ⟨by omega⟩, ⟨Below.refl _ _⟩⟩
          case round =>
            obtain ⟨j, rfl, HK2, HB2⟩ := hrel
            cases gk with
            | zero =>
              have e : j = R.length := by have := HK2.out; omega
              subst e
              have d3 : decide ((R.length : Int) < (R.length : Int)) = false := decide_eq_false (by omega)
              go_wp2
              go_ret
              exact ⟨rfl, (HBw.out.trans (Below.mono HBz.out HBw.out.size)).trans (HB2.out.mono (Nat.le_trans HBw.out.size HBz.out.size))⟩
            | succ k2 =>
              have hj : j < R.length := by have := HK2.out; omega
              have d3 : decide ((j : Int) < (R.length : Int)) = true := decide_eq_true (by omega)
              obtain ⟨at_, hat⟩ : ∃ at_, PL[j]? = some at_ := ⟨_, List.getElem?_eq_getElem (by rw [HPR.out]; exact hj)⟩
              obtain ⟨p, hLp, hRp⟩ := HPat.out j at_ hat
              have hal : at_ < L.length := (List.getElem?_eq_some_iff.1 hLp).1
              have j0 : (0 : Int) ≤ (j : Int) := by omega
              have j1 : (j : Int) < (R.length : Int) := by omega
              have a0 : (0 : Int) ≤ (at_ : Int) := by omega
              have a1 : (at_ : Int) < (L.length : Int) := by omega
              obtain ⟨hx1, hx2, hx3⟩ := Kd.R_reads' HV12.out
              obtain ⟨ad2, hA2, e0, e1, e2, e3, e4, e5, e6⟩ := at_T28 (Kd.C_below (Kd.C_below hx3 HBr.out) HB2.out) (j : Int) j0 j1
              subst hA2
              clear hx1
              obtain ⟨hy1, hy2, hy3⟩ := Kd.R_reads' HV11.out
              obtain ⟨ad1, hA1, f0⟩ := Kd.at_int (xs := PL.map (fun n : Nat => (n : Int))) (Kd.C_below (Kd.C_below hy3 HBp.out) HB2.out) (j : Int) j0 (by rw [List.length_map, HPR.out]; exact j1)
              subst hA1
              clear hy1
              obtain ⟨ad3, hA3, g0, g1, g2, g3, g4, g5, g6⟩ := at_T58 (Kd.C_below (Kd.C_below (Kd.F_now HPa.out.r0) HBz.out) HB2.out) (at_ : Int) a0 a1
              subst hA3
              rw [rd_places hat] at f0
              have r28 : rd_T28 R (j : Int) = p := by unfold rd_T28; rw [Int.toNat_natCast, List.getD_eq_getElem?_getD, hRp]; rfl
              have r58 : rd_T58 (L.map to58) (at_ : Int) = to58 p := by unfold rd_T58; rw [Int.toNat_natCast, List.getD_eq_getElem?_getD, List.getElem?_map, hLp]; rfl
              rw [r28] at e0 e1 e2 e3 e4 e5 e6
              rw [r58] at g0 g1 g2 g3 g4 g5 g6
              dsimp only [to58] at g0 g1 g2 g3 g4 g5 g6
              simp only [Int.toNat_natCast] at e0 e1 e2 e3 e4 e5 e6 f0 g0 g1 g2 g3 g4 g5 g6
              have b0 : wr.cell? ⟨B, 0, none⟩ = some (.slice (some ad3) L.length c0) := (blk_cell (keep_box (keep_box HPa.out.box HBz.out) HB2.out) 0).trans rfl
              go_wp2
              go_quiet (fail)
              go_wp2
              go_roundg k2
              case measure => omega
              case rel => exact ⟨j + 1, by first | rfl | (simp; done) | (simp; unfold wrap64; omega), ⟨by have := HK2.out; omega⟩, ⟨pw_below_drewN HB2.out _⟩⟩
end
end Go.Proofs.Ytdibaeomepallaa.NW
