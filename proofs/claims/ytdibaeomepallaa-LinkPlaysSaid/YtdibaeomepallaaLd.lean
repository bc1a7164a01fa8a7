/- What an end of a link sends once more: Tick. By hand. -/
import Derived.Test.YtdibaeomepallaaLc
namespace Go.Proofs.Ytdibaeomepallaa.LK
open Go.RowKit Go.Proofs.YtdibaeomepallaaW.PrintWords Go.Proofs.YtdibaeomepallaaW.PrintLast Go.Proofs.YtdibaeomepallaaW.PrintMore Go.Proofs.Ytdibaeomepallaa.PAll Go.Proofs.Ytdibaeomepallaa.NW
set_option linter.unusedVariables false
set_option linter.unusedSimpArgs false
set_option maxRecDepth 100000
set_option maxHeartbeats 4000000 in
theorem tick_is {w : World} {g m : Nat} {l : Lk} {v : Value} (h : LkAt w g l v m) (hb : Bd l) :
    Calls Try.prog 50 #[.pointer (some ⟨g, 0, none⟩)] w fun e w' => ∃ o, e = .returned o ∧ k28.R 28 w' w.heap.size (fun _ => True) o (outs l 0 l.out) ∧ Below w.heap.size w w' := by
  have hu28 := Try.underlying28
  obtain ⟨b1, b2, o8, oq, q64, w1, w2, _⟩ := hb
  have HL := Aside0.mk h
  have hglt := h.lt
  have HM0 := Aside0.mk (Below.refl w.heap.size w)
  have HR0 := Aside0.mk (Kd.R_nil k28 28 w w.heap.size (fun _ => True))
  have HG0 := Aside0.mk h.blk
  have c7 := (blk_cell HG0.out 7).trans (show (lkc l v m)[7]? = some (.int .i64 l.out) from rfl)
  obtain ⟨A, c, rfl, hcl, _⟩ := Kd.R_reads h.row
  clear h
  go_enter Try.func50, Try.ntmps50
  go_wp2
  clear c7
  go_loopg [3, 11] l.out (fun kq v3 v11 w' => ∃ o : Nat, v11 = .int .i64 o ∧ Aside0 (o + kq = l.out) ∧ Aside0 (k28.R 28 w' w.heap.size (fun _ => True) v3 (outs l 0 o)) ∧ Aside0 (Below w.heap.size w w'))
  case atStart => exact ⟨0, rfl, ⟨by omega⟩, HR0, HM0⟩
  case round =>
    clear HM0 HR0 HG0
    obtain ⟨o, rfl, HO, HR, HM⟩ := hrel
    have ho2 := HO.out
    cases gk with
    | zero =>
      have e : o = l.out := by omega
      have d1 : decide (o < l.out) = false := decide_eq_false (by omega)
      have HE := Aside0.mk e
      clear e
      go_wp2
      go_ret
      exact ⟨u3, rfl, by rw [← HE.out]; exact HR.out, HM.out⟩
    | succ k1 =>
      have hl : o < l.out := by omega
      have hq : o < l.q.length := by omega
      have d1 : decide (o < l.out) = true := decide_eq_true hl
      go_wp2
      have hs1 : w.heap.size ≤ wr.heap.size := HM.out.size
      obtain ⟨W, hW⟩ : ∃ W, W = wr := ⟨_, rfl⟩
      rw [← hW]
      have HRW := Aside0.mk (show k28.R 28 W.drew w.heap.size (fun _ => True) u3 (outs l 0 o) by rw [hW]; exact Kd.R_drew HR.out)
      have HMW := Aside0.mk (show Below w.heap.size w W.drew by rw [hW]; exact below_drew1 HM.out)
      clear hW HR HM
      obtain ⟨s, hs⟩ : ∃ s, s = l.q.getD o e0 := ⟨_, rfl⟩
      have HS := Aside0.mk hs
      clear hs
      have hrow := (HL.out.below HMW.out).row
      obtain ⟨ad, hA, xt⟩ := text_of hrow hq
      subst hA
      rw [← HS.out] at xt
      have HGW := Aside0.mk (HL.out.below HMW.out).blk
      have x5 : World.cell? W.drew ⟨g, 5, none⟩ = some (.slice (some ad) l.q.length c) := (blk_cell HGW.out 5).trans rfl
      have x6 : World.cell? W.drew ⟨g, 6, none⟩ = some (.int .i64 l.base) := (blk_cell HGW.out 6).trans rfl
      have i1 : (0 : Int) ≤ (o : Int) := by omega
      have i2 : (o : Int) < (l.q.length : Int) := by omega
      refine start_ (n := 19) (S := fun w' => w'.cell? ⟨g, 5, none⟩ = some (.slice (some ad) l.q.length c) ∧ w'.cell? ⟨g, 6, none⟩ = some (.int .i64 l.base) ∧ w'.cell? (ad.add o) = some (.string s)) (ds := []) #[false, false, false, false, false, false, false, false, false, false, false, false, false, false, false, false, false, false, false] (by kernel_rfl) rfl rfl ⟨x5, x6, xt⟩ (fun hHeld => ?_)
      refine pure_ (i := 0) (N := some 14) (v := ?_) (a' := ?_) #[true, false, false, false, false, false, false, false, false, false, false, false, false, false, false, false, false, false, false] rfl rfl (by kernel_rfl) (fun _ _ _ h => h) (Or.inl ⟨by rfl, ?_⟩) ?_ ?_
      rotate_left
      · intro w'; go_simp; with_reducible rfl
      rotate_left
      · simp only [Act.put, List.setIfInBounds_toArray, List.set_cons_zero, List.set_cons_succ, i64_w, i32_w]; rfl
      refine pure_ (i := 1) (N := some 15) (v := ?_) (a' := ?_) #[true, true, false, false, false, false, false, false, false, false, false, false, false, false, false, false, false, false, false] rfl rfl (by kernel_rfl) (fun _ _ _ h => h) (Or.inl ⟨by rfl, ?_⟩) ?_ ?_
      rotate_left
      · intro w'; go_simp; with_reducible rfl
      rotate_left
      · simp only [Act.put, List.setIfInBounds_toArray, List.set_cons_zero, List.set_cons_succ, i64_w, i32_w]; rfl
      refine pure_ (i := 2) (N := some 16) (v := ?_) (a' := ?_) #[true, true, true, false, false, false, false, false, false, false, false, false, false, false, false, false, false, false, false] rfl rfl (by kernel_rfl) (fun _ _ _ h => h) (Or.inl ⟨by rfl, ?_⟩) ?_ ?_
      rotate_left
      · intro w'; go_simp; with_reducible rfl
      rotate_left
      · simp only [Act.put, List.setIfInBounds_toArray, List.set_cons_zero, List.set_cons_succ, i64_w, i32_w]; rfl
      refine pure_ (i := 3) (N := some 17) (v := ?_) (a' := ?_) #[true, true, true, true, false, false, false, false, false, false, false, false, false, false, false, false, false, false, false] rfl rfl (by kernel_rfl) (fun _ _ _ h => h) (Or.inl ⟨by rfl, ?_⟩) ?_ ?_
      rotate_left
      · intro w'; go_simp; with_reducible rfl
      rotate_left
      · simp only [Act.put, List.setIfInBounds_toArray, List.set_cons_zero, List.set_cons_succ, i64_w, i32_w]; rfl
      refine pure_ (i := 4) (N := some 18) (v := ?_) (a' := ?_) #[true, true, true, true, true, false, false, false, false, false, false, false, false, false, false, false, false, false, false] rfl rfl (by kernel_rfl) (fun _ _ _ h => h) (Or.inl ⟨by rfl, ?_⟩) ?_ ?_
      rotate_left
      · intro w'; go_simp; with_reducible rfl
      rotate_left
      · simp only [Act.put, List.setIfInBounds_toArray, List.set_cons_zero, List.set_cons_succ, i64_w, i32_w]; rfl
      refine take_ (i := 5) (N := some 19) (v := ?_) (a' := ?_) #[true, true, true, true, true, true, false, false, false, false, false, false, false, false, false, false, false, false, false] rfl rfl (by kernel_rfl) (fun _ _ _ h => h) (Or.inl ⟨by rfl, ?_⟩) hHeld ?_ ?_
      rotate_left
      · rintro w' ⟨s0, s1, s2⟩; go_simp; with_reducible rfl
      rotate_left
      · simp only [Act.put, List.setIfInBounds_toArray, List.set_cons_zero, List.set_cons_succ, i64_w, i32_w]; rfl
      refine pure_ (i := 6) (N := some 20) (v := ?_) (a' := ?_) #[true, true, true, true, true, true, true, false, false, false, false, false, false, false, false, false, false, false, false] rfl rfl (by kernel_rfl) (fun _ _ _ h => h) (Or.inl ⟨by rfl, ?_⟩) ?_ ?_
      rotate_left
      · intro w'; go_simp; with_reducible rfl
      rotate_left
      · simp only [Act.put, List.setIfInBounds_toArray, List.set_cons_zero, List.set_cons_succ, i64_w, i32_w]; rfl
      refine pure_ (i := 7) (N := some 21) (v := ?_) (a' := ?_) #[true, true, true, true, true, true, true, true, false, false, false, false, false, false, false, false, false, false, false] rfl rfl (by kernel_rfl) (fun _ _ _ h => h) (Or.inl ⟨by rfl, ?_⟩) ?_ ?_
      rotate_left
      · intro w'; go_simp; with_reducible rfl
      rotate_left
      · simp only [Act.put, List.setIfInBounds_toArray, List.set_cons_zero, List.set_cons_succ, i64_w, i32_w]; rfl
      refine pure_ (i := 8) (N := some 22) (v := ?_) (a' := ?_) #[true, true, true, true, true, true, true, true, true, false, false, false, false, false, false, false, false, false, false] rfl rfl (by kernel_rfl) (fun _ _ _ h => h) (Or.inl ⟨by rfl, ?_⟩) ?_ ?_
      rotate_left
      · intro w'; go_simp; with_reducible rfl
      rotate_left
      · simp only [Act.put, List.setIfInBounds_toArray, List.set_cons_zero, List.set_cons_succ, i64_w, i32_w]; rfl
      refine pure_ (i := 9) (N := some 23) (v := ?_) (a' := ?_) #[true, true, true, true, true, true, true, true, true, true, false, false, false, false, false, false, false, false, false] rfl rfl (by kernel_rfl) (fun _ _ _ h => h) (Or.inl ⟨by rfl, ?_⟩) ?_ ?_
      rotate_left
      · intro w'; go_simp; with_reducible rfl
      rotate_left
      · simp only [Act.put, List.setIfInBounds_toArray, List.set_cons_zero, List.set_cons_succ, i64_w, i32_w]; rfl
      refine pure_ (i := 10) (N := some 24) (v := ?_) (a' := ?_) #[true, true, true, true, true, true, true, true, true, true, true, false, false, false, false, false, false, false, false] rfl rfl (by kernel_rfl) (fun _ _ _ h => h) (Or.inl ⟨by rfl, ?_⟩) ?_ ?_
      rotate_left
      · intro w'; go_simp; with_reducible rfl
      rotate_left
      · simp only [Act.put, List.setIfInBounds_toArray, List.set_cons_zero, List.set_cons_succ, i64_w, i32_w]; rfl
      refine take_ (i := 11) (N := some 25) (v := ?_) (a' := ?_) #[true, true, true, true, true, true, true, true, true, true, true, true, false, false, false, false, false, false, false] rfl rfl (by kernel_rfl) (fun _ _ _ h => h) (Or.inl ⟨by rfl, ?_⟩) hHeld ?_ ?_
      rotate_left
      · rintro w' ⟨s0, s1, s2⟩; go_simp; with_reducible rfl
      rotate_left
      · simp only [Act.put, List.setIfInBounds_toArray, List.set_cons_zero, List.set_cons_succ, i64_w, i32_w]; rfl
      refine pure_ (i := 12) (N := some 26) (v := ?_) (a' := ?_) #[true, true, true, true, true, true, true, true, true, true, true, true, true, false, false, false, false, false, false] rfl rfl (by kernel_rfl) (fun _ _ _ h => h) (Or.inl ⟨by rfl, ?_⟩) ?_ ?_
      rotate_left
      · intro w'; go_simp; with_reducible rfl
      rotate_left
      · simp only [Act.put, List.setIfInBounds_toArray, List.set_cons_zero, List.set_cons_succ, i64_w, i32_w]; rfl
      refine pure_ (i := 13) (N := some 27) (v := ?_) (a' := ?_) #[true, true, true, true, true, true, true, true, true, true, true, true, true, true, false, false, false, false, false] rfl rfl (by kernel_rfl) (fun _ _ _ h => h) (Or.inl ⟨by rfl, ?_⟩) ?_ ?_
      rotate_left
      · intro w'; go_simp; with_reducible rfl
      rotate_left
      · simp only [Act.put, List.setIfInBounds_toArray, List.set_cons_zero, List.set_cons_succ, i64_w, i32_w]; rfl
      refine take_ (i := 14) (N := some 28) (v := ?_) (a' := ?_) #[true, true, true, true, true, true, true, true, true, true, true, true, true, true, true, false, false, false, false] rfl rfl (by kernel_rfl) (fun _ _ _ h => h) (Or.inl ⟨by rfl, ?_⟩) hHeld ?_ ?_
      rotate_left
      · rintro w' ⟨s0, s1, s2⟩; go_simp; with_reducible rfl
      rotate_left
      · simp only [Act.put, List.setIfInBounds_toArray, List.set_cons_zero, List.set_cons_succ, i64_w, i32_w]; rfl
      clear x5 x6 xt
      rw [wrapId (x := l.base + (o : Int)) (by omega) (by omega)]
      obtain ⟨p, hp⟩ : ∃ p, p = nth l o := ⟨_, rfl⟩
      have HP := Aside0.mk hp
      clear hp
      refine one_ (i := 15) (N := some 29) #[true, true, true, true, true, true, true, true, true, true, true, true, true, true, true, true, false, false, false] rfl rfl (by kernel_rfl) (by decide) (fun K hK => ?_)
      refine goes_ Try.func77 (by kernel_rfl) rfl #[.pointer (some ⟨g, 0, none⟩), .int .i64 (l.base + (o : Int)), .string s] (by rfl) rfl rfl (by first | rfl | (simp only [List.map_toArray, List.map_cons, List.map_nil]; rfl)) ?_
      refine (packet_o l.out HGW.out (by omega) w2 (l.base + (o : Int)) s p (by rw [HP.out, HS.out]; rfl)).mono ?_
      rintro e W2 ⟨rfl, hb2⟩
      have HR2 := Aside0.mk (Kd.R_below HRW.out hb2)
      have HM2 := Aside0.mk (HMW.out.trans (hb2.mono HMW.out.size))
      clear hb2 HGW HRW HMW
      have hrow := (HL.out.below HM2.out).row
      obtain ⟨ad', hA', xt⟩ := text_of hrow hq
      cases hA'
      rw [← HS.out] at xt
      have x5 : World.cell? W2 ⟨g, 5, none⟩ = some (.slice (some ad) l.q.length c) := (blk_cell (HL.out.below HM2.out).blk 5).trans rfl
      have x6 : World.cell? W2 ⟨g, 6, none⟩ = some (.int .i64 l.base) := (blk_cell (HL.out.below HM2.out).blk 6).trans rfl
      refine ⟨_, rfl, hK.out _ _ ⟨x5, x6, xt⟩ (fun hHeld => ?_)⟩
      clear hK K x5 x6 xt hrow
      refine norm_ (a' := ?_) ?_ ?_
      rotate_left
      · show Act.put _ (some 29) _ = _
        simp only [Act.put, List.setIfInBounds_toArray, List.set_cons_zero, List.set_cons_succ, i64_w, i32_w]
        rfl
      refine one_ (i := 16) (N := some 30) #[true, true, true, true, true, true, true, true, true, true, true, true, true, true, true, true, true, false, false] rfl rfl (by kernel_rfl) (by decide) (fun K hK => ?_)
      refine event_step (v := .slice (some ⟨W2.heap.size, 0, none⟩) 1 1) (w1 := W2.alloc (.cells (pk p).toArray 28 (0, 0))) (by rfl) (by go_simp; rfl) ?_
      have HM3 := Aside0.mk (below_alloc HM2.out (.cells (pk p).toArray 28 (0, 0)))
      have hrow := (HL.out.below HM3.out).row
      obtain ⟨ad', hA', xt⟩ := text_of hrow hq
      cases hA'
      rw [← HS.out] at xt
      have x5 : World.cell? (W2.alloc (.cells (pk p).toArray 28 (0, 0))) ⟨g, 5, none⟩ = some (.slice (some ad) l.q.length c) := (blk_cell (HL.out.below HM3.out).blk 5).trans rfl
      have x6 : World.cell? (W2.alloc (.cells (pk p).toArray 28 (0, 0))) ⟨g, 6, none⟩ = some (.int .i64 l.base) := (blk_cell (HL.out.below HM3.out).blk 6).trans rfl
      refine hK.out _ _ ⟨x5, x6, xt⟩ (fun hHeld => ?_)
      clear hK K x5 x6 xt hrow HM3
      refine norm_ (a' := ?_) ?_ ?_
      rotate_left
      · show Act.put _ (some 30) _ = _
        simp only [Act.put, List.setIfInBounds_toArray, List.set_cons_zero, List.set_cons_succ, i64_w, i32_w]
        rfl
      refine one_ (i := 17) (N := some 31) #[true, true, true, true, true, true, true, true, true, true, true, true, true, true, true, true, true, true, false] rfl rfl (by kernel_rfl) (by decide) (fun K hK => ?_)
      refine Kd.R_append_step k28 (w0 := w) w.heap.size (by rfl) (.tmp 14) (.tmp 30) 50 28 (.agg #[.int .i64 0, .int .i64 0, .int .i64 0, .int .i64 0, .int .i64 0, .int .i64 0, .string ⟨#[]⟩]) 64 rfl Try.underlying50 info28p rfl (by decide) (by omega) u3 (outs l 0 o) p (pk p) (fun _ => True) (fun _ => False) rfl rfl (pk_M _ _ _ p) (fun _ hk => hk.elim) (fun _ _ => trivial) HR2.out HM2.out HM2.out.size (by rw [outs_len]; omega) ?_
      intro v4 W4 ho4 hb4 hg4 hat4
      have HM4 := Aside0.mk hb4
      have HR4 := Aside0.mk (show k28.R 28 W4 w.heap.size (fun _ => True) v4 (outs l 0 (o + 1)) by
        rw [outs_succ, Nat.zero_add, ← HP.out]
        exact ho4)
      clear ho4 hb4 hg4 hat4 HR2 HM2
      have hrow := (HL.out.below HM4.out).row
      obtain ⟨ad', hA', xt⟩ := text_of hrow hq
      cases hA'
      rw [← HS.out] at xt
      have x5 : World.cell? W4 ⟨g, 5, none⟩ = some (.slice (some ad) l.q.length c) := (blk_cell (HL.out.below HM4.out).blk 5).trans rfl
      have x6 : World.cell? W4 ⟨g, 6, none⟩ = some (.int .i64 l.base) := (blk_cell (HL.out.below HM4.out).blk 6).trans rfl
      refine hK.out _ _ ⟨x5, x6, xt⟩ (fun hHeld => ?_)
      clear hK K x5 x6 xt hrow
      refine norm_ (a' := ?_) ?_ ?_
      rotate_left
      · show Act.put _ (some 31) _ = _
        simp only [Act.put, List.setIfInBounds_toArray, List.set_cons_zero, List.set_cons_succ, i64_w, i32_w]
        rfl
      refine pure_ (i := 18) (N := some 3) (v := ?_) (a' := ?_) #[true, true, true, true, true, true, true, true, true, true, true, true, true, true, true, true, true, true, true] rfl rfl (by kernel_rfl) (fun _ _ _ h => h) (Or.inl ⟨by rfl, ?_⟩) ?_ ?_
      rotate_left
      · intro w'; go_simp; with_reducible rfl
      rotate_left
      · simp only [Act.put, List.setIfInBounds_toArray, List.set_cons_zero, List.set_cons_succ, i64_w, i32_w]; rfl
      refine done_ (by kernel_rfl) ?_
      go_wp2
      go_roundg k1
      case measure => omega
      case rel => exact ⟨o + 1, by first | rfl | simp, ⟨by omega⟩, HR4, HM4⟩
end Go.Proofs.Ytdibaeomepallaa.LK
