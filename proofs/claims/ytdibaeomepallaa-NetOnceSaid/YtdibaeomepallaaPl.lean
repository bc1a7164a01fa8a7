/- The law's act on the program's net, whatever the document's: Lose, Apart, Clear, nothing. Written by a program of this session. -/
import Derived.Test.YtdibaeomepallaaPi
namespace Go.Proofs.Ytdibaeomepallaa.NW
open Go.RowKit Go.Proofs.YtdibaeomepallaaW.PrintWords Go.Proofs.YtdibaeomepallaaW.PrintLast Go.Proofs.YtdibaeomepallaaW.PrintMore Go.Proofs.Ytdibaeomepallaa.PAll
set_option linter.unusedVariables false
set_option linter.unusedSimpArgs false
set_option maxRecDepth 100000
attribute [local go_sem high] eqA52 eqA58
/-- What an act leaves of the program's net. -/
def DoAny (w : World) (F : Nat → Prop) (g : Nat) (q : List (List Pk)) (ap : List Bool) (e : Ending) (w' : World) : Prop :=
  ∃ v0 v1 bb, e = .returned (.tuple #[.agg #[v0, v1], .bool bb]) ∧ ∃ F', NetW w' F' g q ap ∧ (∀ k, F' k → F k ∨ w.heap.size ≤ k) ∧ Mods F w w'
theorem doAny_fin {w W w' : World} {F : Nat → Prop} {g : Nat} {q' : List (List Pk)} {ap' : List Bool} {v0 v1 : Value} {bb : Bool} {b6 : Nat} {cs : Array Value}
    (hw : Below w.heap.size w W) (hn : NetW w' (grow (fun k => F k ∧ k < w.heap.size) W w') g q' ap') (hm : Mods (fun k => F k ∧ k < w.heap.size) W w') (h6 : w.heap.size ≤ b6) (h6W : b6 < W.heap.size) :
    DoAny w F g q' ap' (.returned (.tuple #[.agg #[v0, v1], .bool bb])) (w'.setRow b6 cs) := by
  have hs : Mods (fun k => k = b6) w' (w'.setRow b6 cs) := Mods.setRow (Mods.refl (fun k => k = b6) w') (.inl rfl) cs
  refine ⟨v0, v1, bb, rfl, grow (fun k => F k ∧ k < w.heap.size) W w', hn.mods hs (fun k _ hk e => by subst e; rcases hk with hk | hk <;> omega), fun k hk => hk.elim (fun e => .inl e.1) (fun e => .inr (Nat.le_trans hw.size e.1)), ?_⟩
  exact (Mods.after_below hw (hm.mono (fun k _ hk => hk.1))).trans hs (fun k hk e => by omega)
section
variable (p : Pk) (a b i : Int) (on : Bool) {w : World} {F : Nat → Prop} {g : Nat} {q : List (List Pk)} {ap : List Bool} {L : List Pk} {A : List S52} {A0 : Option Addr} {c0 : Nat} {A1 : Option Addr} {c1 : Nat}
set_option maxHeartbeats 4000000 in
theorem doAny_lose (hn : NetW w F g q ap) (hcq : cnt q ≤ 1000) (hL : L.length ≤ 400) (hA : A.length ≤ 1000) (h0 : Kd.F k58 w (fun k => ¬ F k) A0 L.length (L.map to58)) (hc0 : L.length ≤ c0) (h1 : Kd.F k52 w (fun k => ¬ F k) A1 A.length A) (hc1 : A.length ≤ c1) :
    Calls Try.prog 22 #[.pointer (some ⟨g, 0, none⟩), .agg #[.slice A0 L.length c0, .slice A1 A.length c1], .agg #[.int .i64 2, .int .i64 p.f0, .int .i64 p.f1, .int .i64 p.f2, .int .i64 p.f3, .int .i64 p.f4, .int .i64 p.f5, .string p.f6, .int .i64 a, .int .i64 b, .int .i64 i, .bool on]] w (DoAny w F g (loseQ q a b i) ap) := by
  have hu28 := Try.underlying28
  have hu32 := Try.underlying32
  have hu40 := Try.underlying40
  have hu42 := Try.underlying42
  have hu52 := Try.underlying52
  have hu58 := Try.underlying58
  obtain ⟨w4, hw4, hB4, hb4, hb5, hb6, hb8⟩ := boxes4 w (.cells #[.slice A0 L.length c0, .slice A1 A.length c1] 40 (0, 0)) (.cells #[.int .i64 2, .int .i64 p.f0, .int .i64 p.f1, .int .i64 p.f2, .int .i64 p.f3, .int .i64 p.f4, .int .i64 p.f5, .string p.f6, .int .i64 a, .int .i64 b, .int .i64 i, .bool on] 42 (0, 0)) (.cells #[.slice none 0 0, .slice none 0 0] 40 (0, 0)) (.cells #[.int .i64 a, .int .i64 b] 52 (0, 0))
  have HW := Aside0.mk hw4
  have HB4 := Aside0.mk hB4
  have H4 := Aside0.mk hb4
  have H5 := Aside0.mk hb5
  have H6 := Aside0.mk hb6
  have HN := Aside0.mk hn
  have H0 := Aside0.mk h0
  have H1 := Aside0.mk h1
  have hB4w : w.heap.size ≤ w4.heap.size := hB4.size
  clear hw4 hB4 hb4 hb5 hb6 hb8 hn h0 h1
  go_enter Try.func22, Try.ntmps22
  go_wp2_with (first
    | ((with_reducible refine gate_dst (N := 76) rfl ?_); refine goesL_ (some 76) rfl rfl Try.func64 (by kernel_rfl) rfl #[.agg #[.slice A0 L.length c0, .slice A1 A.length c1], .agg #[.int .i64 a, .int .i64 b], .int .i64 i] rfl (by first | (simp only [List.map_toArray, List.map_cons, List.map_nil]; rfl) | rfl) ?_; refine (refLose_is L A a b i A0 c0 A1 c1 _ (fun k => ¬ F k ∧ k < w.heap.size) (by rw [← HW.out]; exact Kd.F_below (Kd.F_bound H0.out) HB4.out) hc0 (by rw [← HW.out]; exact Kd.C_below (Kd.F_now H1.out) HB4.out) hc1 (by omega)).mono ?_; rintro e w31 ⟨v0, rfl, hv, hb⟩; rw [← HW.out] at hv hb; obtain ⟨A6, c6, hv0, hRc, hRf⟩ := hv; rw [List.length_map] at hv0 hRc hRf; subst hv0; have HB := Aside0.mk hb; have HV := Aside0.mk hRf; clear hb hRf; refine ⟨_, rfl, ?_⟩))
  have hBa := below_alloc HB.out (.cells #[.slice A6 (loseL L a b i).length c6, .slice A1 A.length c1] 40 (0, 0))
  have HBd := Aside0.mk (below_drew1 hBa)
  have H9 := Aside0.mk (blk_drew (blk_new w31 (.cells #[.slice A6 (loseL L a b i).length c6, .slice A1 A.length c1] 40 (0, 0))))
  have h31 : w4.heap.size ≤ w31.heap.size := HB.out.size
  have h41 : w.heap.size + 1 + 1 < w4.heap.size := blk_lt H6.out
  clear hBa
  have x0 : (w31.alloc (.cells #[.slice A6 (loseL L a b i).length c6, .slice A1 A.length c1] 40 (0, 0))).drew.cell? ⟨w31.heap.size, 0, none⟩ = some (.slice A6 (loseL L a b i).length c6) := (blk_cell H9.out 0).trans rfl
  have x1 : (w31.alloc (.cells #[.slice A6 (loseL L a b i).length c6, .slice A1 A.length c1] 40 (0, 0))).drew.cell? ⟨w31.heap.size, 1, none⟩ = some (.slice A1 A.length c1) := (blk_cell H9.out 1).trans rfl
  have y8 : (w31.alloc (.cells #[.slice A6 (loseL L a b i).length c6, .slice A1 A.length c1] 40 (0, 0))).drew.cell? ⟨w.heap.size + 1, 8, none⟩ = some (.int .i64 a) := (blk_cell (keep_box H5.out HBd.out) 8).trans rfl
  have y9 : (w31.alloc (.cells #[.slice A6 (loseL L a b i).length c6, .slice A1 A.length c1] 40 (0, 0))).drew.cell? ⟨w.heap.size + 1, 9, none⟩ = some (.int .i64 b) := (blk_cell (keep_box H5.out HBd.out) 9).trans rfl
  have y10 : (w31.alloc (.cells #[.slice A6 (loseL L a b i).length c6, .slice A1 A.length c1] 40 (0, 0))).drew.cell? ⟨w.heap.size + 1, 10, none⟩ = some (.int .i64 i) := (blk_cell (keep_box H5.out HBd.out) 10).trans rfl
  refine start_ (n := 11) (S := fun w' => w'.cell? ⟨w31.heap.size, 0, none⟩ = some (.slice A6 (loseL L a b i).length c6) ∧ w'.cell? ⟨w31.heap.size, 1, none⟩ = some (.slice A1 A.length c1) ∧ w'.cell? ⟨w.heap.size + 1, 8, none⟩ = some (.int .i64 a) ∧ w'.cell? ⟨w.heap.size + 1, 9, none⟩ = some (.int .i64 b) ∧ w'.cell? ⟨w.heap.size + 1, 10, none⟩ = some (.int .i64 i)) (ds := [9]) #[false, false, false, false, false, false, false, false, false, false, false] (by kernel_rfl) rfl rfl ⟨x0, x1, y8, y9, y10⟩ (fun hHeld => ?_)
  refine take_ (i := 0) (N := some 79) (v := ?_) (a' := ?_) #[true, false, false, false, false, false, false, false, false, false, false] rfl rfl (by kernel_rfl) (fun _ _ _ h => h) (Or.inl ⟨by rfl, ?_⟩) hHeld ?_ ?_
  rotate_left
  · rintro w' ⟨s0, s1, s2, s3, s4⟩; go_simp; with_reducible rfl
  rotate_left
  · simp only [Act.put, List.setIfInBounds_toArray, List.set_cons_zero, List.set_cons_succ, i64_w, i32_w]; rfl
  refine pure_ (i := 1) (N := some 80) (v := ?_) (a' := ?_) #[true, true, false, false, false, false, false, false, false, false, false] rfl rfl (by kernel_rfl) (fun _ _ _ h => h) (Or.inl ⟨by rfl, ?_⟩) ?_ ?_
  rotate_left
  · intro w'; go_simp; with_reducible rfl
  rotate_left
  · simp only [Act.put, List.setIfInBounds_toArray, List.set_cons_zero, List.set_cons_succ, i64_w, i32_w]; rfl
  refine pure_ (i := 2) (N := some 81) (v := ?_) (a' := ?_) #[true, true, true, false, false, false, false, false, false, false, false] rfl rfl (by kernel_rfl) (fun _ _ _ h => h) (Or.inl ⟨by rfl, ?_⟩) ?_ ?_
  rotate_left
  · intro w'; go_simp; with_reducible rfl
  rotate_left
  · simp only [Act.put, List.setIfInBounds_toArray, List.set_cons_zero, List.set_cons_succ, i64_w, i32_w]; rfl
  refine take_ (i := 3) (N := some 82) (v := ?_) (a' := ?_) #[true, true, true, true, false, false, false, false, false, false, false] rfl rfl (by kernel_rfl) (fun _ _ _ h => h) (Or.inl ⟨by rfl, ?_⟩) hHeld ?_ ?_
  rotate_left
  · rintro w' ⟨s0, s1, s2, s3, s4⟩; go_simp; with_reducible rfl
  rotate_left
  · simp only [Act.put, List.setIfInBounds_toArray, List.set_cons_zero, List.set_cons_succ, i64_w, i32_w]; rfl
  refine pure_ (i := 4) (N := some 83) (v := ?_) (a' := ?_) #[true, true, true, true, true, false, false, false, false, false, false] rfl rfl (by kernel_rfl) (fun _ _ _ h => h) (Or.inl ⟨by rfl, ?_⟩) ?_ ?_
  rotate_left
  · intro w'; go_simp; with_reducible rfl
  rotate_left
  · simp only [Act.put, List.setIfInBounds_toArray, List.set_cons_zero, List.set_cons_succ, i64_w, i32_w]; rfl
  refine take_ (i := 5) (N := some 84) (v := ?_) (a' := ?_) #[true, true, true, true, true, true, false, false, false, false, false] rfl rfl (by kernel_rfl) (fun _ _ _ h => h) (Or.inl ⟨by rfl, ?_⟩) hHeld ?_ ?_
  rotate_left
  · rintro w' ⟨s0, s1, s2, s3, s4⟩; go_simp; with_reducible rfl
  rotate_left
  · simp only [Act.put, List.setIfInBounds_toArray, List.set_cons_zero, List.set_cons_succ, i64_w, i32_w]; rfl
  refine pure_ (i := 7) (N := some 86) (v := ?_) (a' := ?_) #[true, true, true, true, true, true, false, true, false, false, false] rfl rfl (by kernel_rfl) (fun _ _ _ h => h) (Or.inl ⟨by rfl, ?_⟩) ?_ ?_
  rotate_left
  · intro w'; go_simp; with_reducible rfl
  rotate_left
  · simp only [Act.put, List.setIfInBounds_toArray, List.set_cons_zero, List.set_cons_succ, i64_w, i32_w]; rfl
  clear x0 x1 y8 y9 y10
  have hwD : Below w.heap.size w (w31.alloc (.cells #[.slice A6 (loseL L a b i).length c6, .slice A1 A.length c1] 40 (0, 0))).drew := HB4.out.trans (HBd.out.mono HB4.out.size)
  have hsz : w31.heap.size < (w31.alloc (.cells #[.slice A6 (loseL L a b i).length c6, .slice A1 A.length c1] 40 (0, 0))).drew.heap.size := blk_lt H9.out
  have hn0 : NetW (w31.alloc (.cells #[.slice A6 (loseL L a b i).length c6, .slice A1 A.length c1] 40 (0, 0))).drew (fun k => F k ∧ k < w.heap.size) g q ap := (HN.out.mono (fun k hk hF => ⟨hF, hk⟩)).below hwD
  refine one_ (i := 6) (N := some 85) #[true, true, true, true, true, true, true, true, false, false, false] rfl rfl (by kernel_rfl) (by decide) (fun K hK => ?_)
  refine goes_ Try.func31 (by kernel_rfl) rfl #[.pointer (some ⟨g, 0, none⟩), .agg #[.int .i64 a, .int .i64 b], .int .i64 i] (by rfl) rfl rfl (by first | rfl | (simp only [List.map_toArray, List.map_cons, List.map_nil]; rfl)) ?_
  refine (lose_is hn0 hcq a b i).mono ?_
  rintro e w38 ⟨rfl, hn38, hm38⟩
  skip
  have G9 := mods_box H9.out hm38 (by rintro ⟨_, h⟩; omega)
  have G4 := mods_box (keep_box H4.out HBd.out) hm38 (by rintro ⟨_, h⟩; omega)
  have G5 := mods_box (keep_box H5.out HBd.out) hm38 (by rintro ⟨_, h⟩; omega)
  have G6 := mods_box (keep_box H6.out HBd.out) hm38 (by rintro ⟨_, h⟩; omega)
  have x0 : w38.cell? ⟨w31.heap.size, 0, none⟩ = some (.slice A6 (loseL L a b i).length c6) := (blk_cell G9 0).trans rfl
  have x1 : w38.cell? ⟨w31.heap.size, 1, none⟩ = some (.slice A1 A.length c1) := (blk_cell G9 1).trans rfl
  have y8 : w38.cell? ⟨w.heap.size + 1, 8, none⟩ = some (.int .i64 a) := (blk_cell G5 8).trans rfl
  have y9 : w38.cell? ⟨w.heap.size + 1, 9, none⟩ = some (.int .i64 b) := (blk_cell G5 9).trans rfl
  have y10 : w38.cell? ⟨w.heap.size + 1, 10, none⟩ = some (.int .i64 i) := (blk_cell G5 10).trans rfl
  refine ⟨_, rfl, hK.out _ _ ⟨x0, x1, y8, y9, y10⟩ (fun hHeld => ?_)⟩
  clear hK K x0 x1 y8 y9 y10
  refine norm_ (a' := ?_) ?_ ?_
  rotate_left
  · show Act.put _ (some 85) _ = _
    simp only [Act.put, List.setIfInBounds_toArray, List.set_cons_zero, List.set_cons_succ, i64_w, i32_w]
    rfl
  refine pure_ (i := 8) (N := some 87) (v := ?_) (a' := ?_) #[true, true, true, true, true, true, true, true, true, false, false] rfl rfl (by kernel_rfl) (fun _ _ _ h => h) (Or.inl ⟨by rfl, ?_⟩) ?_ ?_
  rotate_left
  · intro w'; go_simp; with_reducible rfl
  rotate_left
  · simp only [Act.put, List.setIfInBounds_toArray, List.set_cons_zero, List.set_cons_succ, i64_w, i32_w]; rfl
  refine last_ (i := 9) (N := none) #[true, true, true, true, true, true, true, true, true, true, false] rfl rfl (by kernel_rfl) (by decide) (fun K hK => ?_)
  refine storeRow_ (by rfl) 40 (.tmp 6) (.tmp 79) rfl rfl (w.heap.size + 1 + 1) #[.slice A6 (loseL L a b i).length c6, .slice A1 A.length c1] rfl rfl 40 _ G6 info40s rfl (by rw [List.all_toArray]; rfl) ?_
  refine hK.out _ _ ?_
  clear hK K
  refine pure_ (i := 10) (N := some 7) (v := ?_) (a' := ?_) #[true, true, true, true, true, true, true, true, true, true, true] rfl rfl (by kernel_rfl) (fun _ _ _ h => h) (Or.inl ⟨by rfl, ?_⟩) ?_ ?_
  rotate_left
  · intro w'; go_simp; with_reducible rfl
  rotate_left
  · simp only [Act.put, List.setIfInBounds_toArray, List.set_cons_zero, List.set_cons_succ, i64_w, i32_w]; rfl
  refine done_ (by kernel_rfl) ?_
  go_wp2
  refine bodyPost_ret (results_ct rfl _ _ (w.heap.size + 1 + 1) 40 #[.slice A6 (loseL L a b i).length c6, .slice A1 A.length c1] (0, 0) _ rfl (setRow_heap _ _ _ _ _ _ G6) hu40 rfl info40s) rfl ?_
  have hB9 : Below w31.heap.size w31 (w31.alloc (.cells #[.slice A6 (loseL L a b i).length c6, .slice A1 A.length c1] 40 (0, 0))).drew := below_drew1 (below_alloc (Below.refl _ _) _)
  exact doAny_fin hwD hn38 hm38 (by omega) (by omega)
set_option maxHeartbeats 4000000 in
theorem doAny_apart (hn : NetW w F g q ap) (hcq : cnt q ≤ 1000) (hL : L.length ≤ 400) (hA : A.length ≤ 1000) (h0 : Kd.F k58 w (fun k => ¬ F k) A0 L.length (L.map to58)) (hc0 : L.length ≤ c0) (h1 : Kd.F k52 w (fun k => ¬ F k) A1 A.length A) (hc1 : A.length ≤ c1) :
    Calls Try.prog 22 #[.pointer (some ⟨g, 0, none⟩), .agg #[.slice A0 L.length c0, .slice A1 A.length c1], .agg #[.int .i64 4, .int .i64 p.f0, .int .i64 p.f1, .int .i64 p.f2, .int .i64 p.f3, .int .i64 p.f4, .int .i64 p.f5, .string p.f6, .int .i64 a, .int .i64 b, .int .i64 i, .bool on]] w (DoAny w F g q (apartA ap a b on)) := by
  have hu28 := Try.underlying28
  have hu32 := Try.underlying32
  have hu40 := Try.underlying40
  have hu42 := Try.underlying42
  have hu52 := Try.underlying52
  have hu58 := Try.underlying58
  obtain ⟨w4, hw4, hB4, hb4, hb5, hb6, hb8⟩ := boxes4 w (.cells #[.slice A0 L.length c0, .slice A1 A.length c1] 40 (0, 0)) (.cells #[.int .i64 4, .int .i64 p.f0, .int .i64 p.f1, .int .i64 p.f2, .int .i64 p.f3, .int .i64 p.f4, .int .i64 p.f5, .string p.f6, .int .i64 a, .int .i64 b, .int .i64 i, .bool on] 42 (0, 0)) (.cells #[.slice none 0 0, .slice none 0 0] 40 (0, 0)) (.cells #[.int .i64 a, .int .i64 b] 52 (0, 0))
  have HW := Aside0.mk hw4
  have HB4 := Aside0.mk hB4
  have H4 := Aside0.mk hb4
  have H5 := Aside0.mk hb5
  have H6 := Aside0.mk hb6
  have HN := Aside0.mk hn
  have H0 := Aside0.mk h0
  have H1 := Aside0.mk h1
  have hB4w : w.heap.size ≤ w4.heap.size := hB4.size
  clear hw4 hB4 hb4 hb5 hb6 hb8 hn h0 h1
  go_enter Try.func22, Try.ntmps22
  go_wp2_with (first
    | ((with_reducible refine gate_dst (N := 114) rfl ?_); refine goesL_ (some 114) rfl rfl Try.func66 (by kernel_rfl) rfl #[.agg #[.slice A0 L.length c0, .slice A1 A.length c1], .agg #[.int .i64 a, .int .i64 b], .bool on] rfl (by first | (simp only [List.map_toArray, List.map_cons, List.map_nil]; rfl) | rfl) ?_; refine (refPart_is A a b on A0 c0 A1 c1 _ (fun k => ¬ F k ∧ k < w.heap.size) L.length (by rw [← HW.out]; exact Kd.F_below (Kd.F_bound H1.out) HB4.out) hc1 hA).mono ?_; rintro e w31 ⟨v0, rfl, hv, hb⟩; rw [← HW.out] at hv hb; obtain ⟨A6, c6, hv0, hRc, hRf⟩ := hv; subst hv0; have HB := Aside0.mk hb; have HV := Aside0.mk hRf; clear hb hRf; refine ⟨_, rfl, ?_⟩))
  have hBa := below_alloc HB.out (.cells #[.slice A0 L.length c0, .slice A6 (partL A a b on).length c6] 40 (0, 0))
  have HBd := Aside0.mk (below_drew1 hBa)
  have H9 := Aside0.mk (blk_drew (blk_new w31 (.cells #[.slice A0 L.length c0, .slice A6 (partL A a b on).length c6] 40 (0, 0))))
  have h31 : w4.heap.size ≤ w31.heap.size := HB.out.size
  have h41 : w.heap.size + 1 + 1 < w4.heap.size := blk_lt H6.out
  clear hBa
  have x0 : (w31.alloc (.cells #[.slice A0 L.length c0, .slice A6 (partL A a b on).length c6] 40 (0, 0))).drew.cell? ⟨w31.heap.size, 0, none⟩ = some (.slice A0 L.length c0) := (blk_cell H9.out 0).trans rfl
  have x1 : (w31.alloc (.cells #[.slice A0 L.length c0, .slice A6 (partL A a b on).length c6] 40 (0, 0))).drew.cell? ⟨w31.heap.size, 1, none⟩ = some (.slice A6 (partL A a b on).length c6) := (blk_cell H9.out 1).trans rfl
  have y8 : (w31.alloc (.cells #[.slice A0 L.length c0, .slice A6 (partL A a b on).length c6] 40 (0, 0))).drew.cell? ⟨w.heap.size + 1, 8, none⟩ = some (.int .i64 a) := (blk_cell (keep_box H5.out HBd.out) 8).trans rfl
  have y9 : (w31.alloc (.cells #[.slice A0 L.length c0, .slice A6 (partL A a b on).length c6] 40 (0, 0))).drew.cell? ⟨w.heap.size + 1, 9, none⟩ = some (.int .i64 b) := (blk_cell (keep_box H5.out HBd.out) 9).trans rfl
  have y11 : (w31.alloc (.cells #[.slice A0 L.length c0, .slice A6 (partL A a b on).length c6] 40 (0, 0))).drew.cell? ⟨w.heap.size + 1, 11, none⟩ = some (.bool on) := (blk_cell (keep_box H5.out HBd.out) 11).trans rfl
  refine start_ (n := 15) (S := fun w' => w'.cell? ⟨w31.heap.size, 0, none⟩ = some (.slice A0 L.length c0) ∧ w'.cell? ⟨w31.heap.size, 1, none⟩ = some (.slice A6 (partL A a b on).length c6) ∧ w'.cell? ⟨w.heap.size + 1, 8, none⟩ = some (.int .i64 a) ∧ w'.cell? ⟨w.heap.size + 1, 9, none⟩ = some (.int .i64 b) ∧ w'.cell? ⟨w.heap.size + 1, 11, none⟩ = some (.bool on)) (ds := [13]) #[false, false, false, false, false, false, false, false, false, false, false, false, false, false, false] (by kernel_rfl) rfl rfl ⟨x0, x1, y8, y9, y11⟩ (fun hHeld => ?_)
  refine take_ (i := 0) (N := some 117) (v := ?_) (a' := ?_) #[true, false, false, false, false, false, false, false, false, false, false, false, false, false, false] rfl rfl (by kernel_rfl) (fun _ _ _ h => h) (Or.inl ⟨by rfl, ?_⟩) hHeld ?_ ?_
  rotate_left
  · rintro w' ⟨s0, s1, s2, s3, s4⟩; go_simp; with_reducible rfl
  rotate_left
  · simp only [Act.put, List.setIfInBounds_toArray, List.set_cons_zero, List.set_cons_succ, i64_w, i32_w]; rfl
  refine pure_ (i := 1) (N := some 118) (v := ?_) (a' := ?_) #[true, true, false, false, false, false, false, false, false, false, false, false, false, false, false] rfl rfl (by kernel_rfl) (fun _ _ _ h => h) (Or.inl ⟨by rfl, ?_⟩) ?_ ?_
  rotate_left
  · intro w'; go_simp; with_reducible rfl
  rotate_left
  · simp only [Act.put, List.setIfInBounds_toArray, List.set_cons_zero, List.set_cons_succ, i64_w, i32_w]; rfl
  refine pure_ (i := 2) (N := some 119) (v := ?_) (a' := ?_) #[true, true, true, false, false, false, false, false, false, false, false, false, false, false, false] rfl rfl (by kernel_rfl) (fun _ _ _ h => h) (Or.inl ⟨by rfl, ?_⟩) ?_ ?_
  rotate_left
  · intro w'; go_simp; with_reducible rfl
  rotate_left
  · simp only [Act.put, List.setIfInBounds_toArray, List.set_cons_zero, List.set_cons_succ, i64_w, i32_w]; rfl
  refine pure_ (i := 3) (N := some 120) (v := ?_) (a' := ?_) #[true, true, true, true, false, false, false, false, false, false, false, false, false, false, false] rfl rfl (by kernel_rfl) (fun _ _ _ h => h) (Or.inl ⟨by rfl, ?_⟩) ?_ ?_
  rotate_left
  · intro w'; go_simp; with_reducible rfl
  rotate_left
  · simp only [Act.put, List.setIfInBounds_toArray, List.set_cons_zero, List.set_cons_succ, i64_w, i32_w]; rfl
  refine take_ (i := 4) (N := some 121) (v := ?_) (a' := ?_) #[true, true, true, true, true, false, false, false, false, false, false, false, false, false, false] rfl rfl (by kernel_rfl) (fun _ _ _ h => h) (Or.inl ⟨by rfl, ?_⟩) hHeld ?_ ?_
  rotate_left
  · rintro w' ⟨s0, s1, s2, s3, s4⟩; go_simp; with_reducible rfl
  rotate_left
  · simp only [Act.put, List.setIfInBounds_toArray, List.set_cons_zero, List.set_cons_succ, i64_w, i32_w]; rfl
  refine pure_ (i := 5) (N := some 122) (v := ?_) (a' := ?_) #[true, true, true, true, true, true, false, false, false, false, false, false, false, false, false] rfl rfl (by kernel_rfl) (fun _ _ _ h => h) (Or.inl ⟨by rfl, ?_⟩) ?_ ?_
  rotate_left
  · intro w'; go_simp; with_reducible rfl
  rotate_left
  · simp only [Act.put, List.setIfInBounds_toArray, List.set_cons_zero, List.set_cons_succ, i64_w, i32_w]; rfl
  refine pure_ (i := 6) (N := some 123) (v := ?_) (a' := ?_) #[true, true, true, true, true, true, true, false, false, false, false, false, false, false, false] rfl rfl (by kernel_rfl) (fun _ _ _ h => h) (Or.inl ⟨by rfl, ?_⟩) ?_ ?_
  rotate_left
  · intro w'; go_simp; with_reducible rfl
  rotate_left
  · simp only [Act.put, List.setIfInBounds_toArray, List.set_cons_zero, List.set_cons_succ, i64_w, i32_w]; rfl
  refine take_ (i := 7) (N := some 124) (v := ?_) (a' := ?_) #[true, true, true, true, true, true, true, true, false, false, false, false, false, false, false] rfl rfl (by kernel_rfl) (fun _ _ _ h => h) (Or.inl ⟨by rfl, ?_⟩) hHeld ?_ ?_
  rotate_left
  · rintro w' ⟨s0, s1, s2, s3, s4⟩; go_simp; with_reducible rfl
  rotate_left
  · simp only [Act.put, List.setIfInBounds_toArray, List.set_cons_zero, List.set_cons_succ, i64_w, i32_w]; rfl
  refine pure_ (i := 8) (N := some 125) (v := ?_) (a' := ?_) #[true, true, true, true, true, true, true, true, true, false, false, false, false, false, false] rfl rfl (by kernel_rfl) (fun _ _ _ h => h) (Or.inl ⟨by rfl, ?_⟩) ?_ ?_
  rotate_left
  · intro w'; go_simp; with_reducible rfl
  rotate_left
  · simp only [Act.put, List.setIfInBounds_toArray, List.set_cons_zero, List.set_cons_succ, i64_w, i32_w]; rfl
  refine take_ (i := 9) (N := some 126) (v := ?_) (a' := ?_) #[true, true, true, true, true, true, true, true, true, true, false, false, false, false, false] rfl rfl (by kernel_rfl) (fun _ _ _ h => h) (Or.inl ⟨by rfl, ?_⟩) hHeld ?_ ?_
  rotate_left
  · rintro w' ⟨s0, s1, s2, s3, s4⟩; go_simp; with_reducible rfl
  rotate_left
  · simp only [Act.put, List.setIfInBounds_toArray, List.set_cons_zero, List.set_cons_succ, i64_w, i32_w]; rfl
  refine pure_ (i := 11) (N := some 128) (v := ?_) (a' := ?_) #[true, true, true, true, true, true, true, true, true, true, false, true, false, false, false] rfl rfl (by kernel_rfl) (fun _ _ _ h => h) (Or.inl ⟨by rfl, ?_⟩) ?_ ?_
  rotate_left
  · intro w'; go_simp; with_reducible rfl
  rotate_left
  · simp only [Act.put, List.setIfInBounds_toArray, List.set_cons_zero, List.set_cons_succ, i64_w, i32_w]; rfl
  clear x0 x1 y8 y9 y11
  have hwD : Below w.heap.size w (w31.alloc (.cells #[.slice A0 L.length c0, .slice A6 (partL A a b on).length c6] 40 (0, 0))).drew := HB4.out.trans (HBd.out.mono HB4.out.size)
  have hsz : w31.heap.size < (w31.alloc (.cells #[.slice A0 L.length c0, .slice A6 (partL A a b on).length c6] 40 (0, 0))).drew.heap.size := blk_lt H9.out
  have hn0 : NetW (w31.alloc (.cells #[.slice A0 L.length c0, .slice A6 (partL A a b on).length c6] 40 (0, 0))).drew (fun k => F k ∧ k < w.heap.size) g q ap := (HN.out.mono (fun k hk hF => ⟨hF, hk⟩)).below hwD
  refine one_ (i := 10) (N := some 127) #[true, true, true, true, true, true, true, true, true, true, true, true, false, false, false] rfl rfl (by kernel_rfl) (by decide) (fun K hK => ?_)
  refine goes_ Try.func32 (by kernel_rfl) rfl #[.pointer (some ⟨g, 0, none⟩), .int .i64 a, .int .i64 b, .bool on] (by rfl) rfl rfl (by first | rfl | (simp only [List.map_toArray, List.map_cons, List.map_nil]; rfl)) ?_
  refine (apart_is hn0 a b on).mono ?_
  rintro e w38 ⟨rfl, hn38, hm38⟩
  have G9 := mods_box H9.out hm38 (by rintro ⟨_, h⟩; omega)
  have G4 := mods_box (keep_box H4.out HBd.out) hm38 (by rintro ⟨_, h⟩; omega)
  have G5 := mods_box (keep_box H5.out HBd.out) hm38 (by rintro ⟨_, h⟩; omega)
  have G6 := mods_box (keep_box H6.out HBd.out) hm38 (by rintro ⟨_, h⟩; omega)
  have x0 : w38.cell? ⟨w31.heap.size, 0, none⟩ = some (.slice A0 L.length c0) := (blk_cell G9 0).trans rfl
  have x1 : w38.cell? ⟨w31.heap.size, 1, none⟩ = some (.slice A6 (partL A a b on).length c6) := (blk_cell G9 1).trans rfl
  have y8 : w38.cell? ⟨w.heap.size + 1, 8, none⟩ = some (.int .i64 a) := (blk_cell G5 8).trans rfl
  have y9 : w38.cell? ⟨w.heap.size + 1, 9, none⟩ = some (.int .i64 b) := (blk_cell G5 9).trans rfl
  have y11 : w38.cell? ⟨w.heap.size + 1, 11, none⟩ = some (.bool on) := (blk_cell G5 11).trans rfl
  refine ⟨_, rfl, hK.out _ _ ⟨x0, x1, y8, y9, y11⟩ (fun hHeld => ?_)⟩
  clear hK K x0 x1 y8 y9 y11
  refine norm_ (a' := ?_) ?_ ?_
  rotate_left
  · show Act.put _ (some 127) _ = _
    simp only [Act.put, List.setIfInBounds_toArray, List.set_cons_zero, List.set_cons_succ, i64_w, i32_w]
    rfl
  refine pure_ (i := 12) (N := some 129) (v := ?_) (a' := ?_) #[true, true, true, true, true, true, true, true, true, true, true, true, true, false, false] rfl rfl (by kernel_rfl) (fun _ _ _ h => h) (Or.inl ⟨by rfl, ?_⟩) ?_ ?_
  rotate_left
  · intro w'; go_simp; with_reducible rfl
  rotate_left
  · simp only [Act.put, List.setIfInBounds_toArray, List.set_cons_zero, List.set_cons_succ, i64_w, i32_w]; rfl
  refine last_ (i := 13) (N := none) #[true, true, true, true, true, true, true, true, true, true, true, true, true, true, false] rfl rfl (by kernel_rfl) (by decide) (fun K hK => ?_)
  refine storeRow_ (by rfl) 40 (.tmp 6) (.tmp 117) rfl rfl (w.heap.size + 1 + 1) #[.slice A0 L.length c0, .slice A6 (partL A a b on).length c6] rfl rfl 40 _ G6 info40s rfl (by rw [List.all_toArray]; rfl) ?_
  refine hK.out _ _ ?_
  clear hK K
  refine pure_ (i := 14) (N := some 7) (v := ?_) (a' := ?_) #[true, true, true, true, true, true, true, true, true, true, true, true, true, true, true] rfl rfl (by kernel_rfl) (fun _ _ _ h => h) (Or.inl ⟨by rfl, ?_⟩) ?_ ?_
  rotate_left
  · intro w'; go_simp; with_reducible rfl
  rotate_left
  · simp only [Act.put, List.setIfInBounds_toArray, List.set_cons_zero, List.set_cons_succ, i64_w, i32_w]; rfl
  refine done_ (by kernel_rfl) ?_
  go_wp2
  refine bodyPost_ret (results_ct rfl _ _ (w.heap.size + 1 + 1) 40 #[.slice A0 L.length c0, .slice A6 (partL A a b on).length c6] (0, 0) _ rfl (setRow_heap _ _ _ _ _ _ G6) hu40 rfl info40s) rfl ?_
  have hB9 : Below w31.heap.size w31 (w31.alloc (.cells #[.slice A0 L.length c0, .slice A6 (partL A a b on).length c6] 40 (0, 0))).drew := below_drew1 (below_alloc (Below.refl _ _) _)
  exact doAny_fin hwD hn38 hm38 (by omega) (by omega)
set_option maxHeartbeats 4000000 in
theorem doAny_clear (hn : NetW w F g q ap) (hcq : cnt q ≤ 1000) (hL : L.length ≤ 400) (hA : A.length ≤ 1000) (h0 : Kd.F k58 w (fun k => ¬ F k) A0 L.length (L.map to58)) (hc0 : L.length ≤ c0) (h1 : Kd.F k52 w (fun k => ¬ F k) A1 A.length A) (hc1 : A.length ≤ c1) :
    Calls Try.prog 22 #[.pointer (some ⟨g, 0, none⟩), .agg #[.slice A0 L.length c0, .slice A1 A.length c1], .agg #[.int .i64 5, .int .i64 p.f0, .int .i64 p.f1, .int .i64 p.f2, .int .i64 p.f3, .int .i64 p.f4, .int .i64 p.f5, .string p.f6, .int .i64 a, .int .i64 b, .int .i64 i, .bool on]] w (DoAny w F g (clearQ q i) ap) := by
  have hu28 := Try.underlying28
  have hu32 := Try.underlying32
  have hu40 := Try.underlying40
  have hu42 := Try.underlying42
  have hu52 := Try.underlying52
  have hu58 := Try.underlying58
  obtain ⟨w4, hw4, hB4, hb4, hb5, hb6, hb8⟩ := boxes4 w (.cells #[.slice A0 L.length c0, .slice A1 A.length c1] 40 (0, 0)) (.cells #[.int .i64 5, .int .i64 p.f0, .int .i64 p.f1, .int .i64 p.f2, .int .i64 p.f3, .int .i64 p.f4, .int .i64 p.f5, .string p.f6, .int .i64 a, .int .i64 b, .int .i64 i, .bool on] 42 (0, 0)) (.cells #[.slice none 0 0, .slice none 0 0] 40 (0, 0)) (.cells #[.int .i64 a, .int .i64 b] 52 (0, 0))
  have HW := Aside0.mk hw4
  have HB4 := Aside0.mk hB4
  have H4 := Aside0.mk hb4
  have H5 := Aside0.mk hb5
  have H6 := Aside0.mk hb6
  have HN := Aside0.mk hn
  have H0 := Aside0.mk h0
  have H1 := Aside0.mk h1
  have hB4w : w.heap.size ≤ w4.heap.size := hB4.size
  clear hw4 hB4 hb4 hb5 hb6 hb8 hn h0 h1
  go_enter Try.func22, Try.ntmps22
  go_wp2_with (first
    | ((with_reducible refine gate_dst (N := 135) rfl ?_); refine goesL_ (some 135) rfl rfl Try.func67 (by kernel_rfl) rfl #[.agg #[.slice A0 L.length c0, .slice A1 A.length c1], .int .i64 i] rfl (by first | (simp only [List.map_toArray, List.map_cons, List.map_nil]; rfl) | rfl) ?_; refine (refClearL_is L i A0 c0 A1 c1 _ (fun k => ¬ F k ∧ k < w.heap.size) A.length (by rw [← HW.out]; exact Kd.F_below (Kd.F_bound H0.out) HB4.out) hc0 (by omega)).mono ?_; rintro e w31 ⟨v0, rfl, hv, hb⟩; rw [← HW.out] at hv hb; obtain ⟨A6, c6, hv0, hRc, hRf⟩ := hv; rw [List.length_map] at hv0 hRc hRf; subst hv0; have HB := Aside0.mk hb; have HV := Aside0.mk hRf; clear hb hRf; refine ⟨_, rfl, ?_⟩))
  have hBa := below_alloc HB.out (.cells #[.slice A6 (clearL i L).length c6, .slice A1 A.length c1] 40 (0, 0))
  have HBd := Aside0.mk (below_drew1 hBa)
  have H9 := Aside0.mk (blk_drew (blk_new w31 (.cells #[.slice A6 (clearL i L).length c6, .slice A1 A.length c1] 40 (0, 0))))
  have h31 : w4.heap.size ≤ w31.heap.size := HB.out.size
  have h41 : w.heap.size + 1 + 1 < w4.heap.size := blk_lt H6.out
  clear hBa
  have x0 : (w31.alloc (.cells #[.slice A6 (clearL i L).length c6, .slice A1 A.length c1] 40 (0, 0))).drew.cell? ⟨w31.heap.size, 0, none⟩ = some (.slice A6 (clearL i L).length c6) := (blk_cell H9.out 0).trans rfl
  have x1 : (w31.alloc (.cells #[.slice A6 (clearL i L).length c6, .slice A1 A.length c1] 40 (0, 0))).drew.cell? ⟨w31.heap.size, 1, none⟩ = some (.slice A1 A.length c1) := (blk_cell H9.out 1).trans rfl
  have y10 : (w31.alloc (.cells #[.slice A6 (clearL i L).length c6, .slice A1 A.length c1] 40 (0, 0))).drew.cell? ⟨w.heap.size + 1, 10, none⟩ = some (.int .i64 i) := (blk_cell (keep_box H5.out HBd.out) 10).trans rfl
  have z0 : (w31.alloc (.cells #[.slice A6 (clearL i L).length c6, .slice A1 A.length c1] 40 (0, 0))).drew.cell? ⟨w.heap.size, 0, none⟩ = some (.slice A0 L.length c0) := (blk_cell (keep_box H4.out HBd.out) 0).trans rfl
  have z1 : (w31.alloc (.cells #[.slice A6 (clearL i L).length c6, .slice A1 A.length c1] 40 (0, 0))).drew.cell? ⟨w.heap.size, 1, none⟩ = some (.slice A1 A.length c1) := (blk_cell (keep_box H4.out HBd.out) 1).trans rfl
  refine start_ (n := 15) (S := fun w' => w'.cell? ⟨w31.heap.size, 0, none⟩ = some (.slice A6 (clearL i L).length c6) ∧ w'.cell? ⟨w31.heap.size, 1, none⟩ = some (.slice A1 A.length c1) ∧ w'.cell? ⟨w.heap.size + 1, 10, none⟩ = some (.int .i64 i) ∧ w'.cell? ⟨w.heap.size, 0, none⟩ = some (.slice A0 L.length c0) ∧ w'.cell? ⟨w.heap.size, 1, none⟩ = some (.slice A1 A.length c1)) (ds := []) #[false, false, false, false, false, false, false, false, false, false, false, false, false, false, false] (by kernel_rfl) rfl rfl ⟨x0, x1, y10, z0, z1⟩ (fun hHeld => ?_)
  refine take_ (i := 0) (N := some 136) (v := ?_) (a' := ?_) #[true, false, false, false, false, false, false, false, false, false, false, false, false, false, false] rfl rfl (by kernel_rfl) (fun _ _ _ h => h) (Or.inl ⟨by rfl, ?_⟩) hHeld ?_ ?_
  rotate_left
  · rintro w' ⟨s0, s1, s2, s3, s4⟩; go_simp; with_reducible rfl
  rotate_left
  · simp only [Act.put, List.setIfInBounds_toArray, List.set_cons_zero, List.set_cons_succ, i64_w, i32_w]; rfl
  refine pure_ (i := 1) (N := some 137) (v := ?_) (a' := ?_) #[true, true, false, false, false, false, false, false, false, false, false, false, false, false, false] rfl rfl (by kernel_rfl) (fun _ _ _ h => h) (Or.inl ⟨by rfl, ?_⟩) ?_ ?_
  rotate_left
  · intro w'; go_simp; with_reducible rfl
  rotate_left
  · simp only [Act.put, List.setIfInBounds_toArray, List.set_cons_zero, List.set_cons_succ, i64_w, i32_w]; rfl
  refine pure_ (i := 2) (N := some 138) (v := ?_) (a' := ?_) #[true, true, true, false, false, false, false, false, false, false, false, false, false, false, false] rfl rfl (by kernel_rfl) (fun _ _ _ h => h) (Or.inl ⟨by rfl, ?_⟩) ?_ ?_
  rotate_left
  · intro w'; go_simp; with_reducible rfl
  rotate_left
  · simp only [Act.put, List.setIfInBounds_toArray, List.set_cons_zero, List.set_cons_succ, i64_w, i32_w]; rfl
  refine take_ (i := 3) (N := some 139) (v := ?_) (a' := ?_) #[true, true, true, true, false, false, false, false, false, false, false, false, false, false, false] rfl rfl (by kernel_rfl) (fun _ _ _ h => h) (Or.inl ⟨by rfl, ?_⟩) hHeld ?_ ?_
  rotate_left
  · rintro w' ⟨s0, s1, s2, s3, s4⟩; go_simp; with_reducible rfl
  rotate_left
  · simp only [Act.put, List.setIfInBounds_toArray, List.set_cons_zero, List.set_cons_succ, i64_w, i32_w]; rfl
  refine pure_ (i := 5) (N := some 141) (v := ?_) (a' := ?_) #[true, true, true, true, false, true, false, false, false, false, false, false, false, false, false] rfl rfl (by kernel_rfl) (fun _ _ _ h => h) (Or.inl ⟨by rfl, ?_⟩) ?_ ?_
  rotate_left
  · intro w'; go_simp; with_reducible rfl
  rotate_left
  · simp only [Act.put, List.setIfInBounds_toArray, List.set_cons_zero, List.set_cons_succ, i64_w, i32_w]; rfl
  refine take_ (i := 6) (N := some 142) (v := ?_) (a' := ?_) #[true, true, true, true, false, true, true, false, false, false, false, false, false, false, false] rfl rfl (by kernel_rfl) (fun _ _ _ h => h) (Or.inl ⟨by rfl, ?_⟩) hHeld ?_ ?_
  rotate_left
  · rintro w' ⟨s0, s1, s2, s3, s4⟩; go_simp; with_reducible rfl
  rotate_left
  · simp only [Act.put, List.setIfInBounds_toArray, List.set_cons_zero, List.set_cons_succ, i64_w, i32_w]; rfl
  refine pure_ (i := 7) (N := some 143) (v := ?_) (a' := ?_) #[true, true, true, true, false, true, true, true, false, false, false, false, false, false, false] rfl rfl (by kernel_rfl) (fun _ _ _ h => h) (Or.inl ⟨by rfl, ?_⟩) ?_ ?_
  rotate_left
  · intro w'; go_simp; with_reducible rfl
  rotate_left
  · simp only [Act.put, List.setIfInBounds_toArray, List.set_cons_zero, List.set_cons_succ, i64_w, i32_w]; rfl
  refine pure_ (i := 8) (N := some 144) (v := ?_) (a' := ?_) #[true, true, true, true, false, true, true, true, true, false, false, false, false, false, false] rfl rfl (by kernel_rfl) (fun _ _ _ h => h) (Or.inl ⟨by rfl, ?_⟩) ?_ ?_
  rotate_left
  · intro w'; go_simp; with_reducible rfl
  rotate_left
  · simp only [Act.put, List.setIfInBounds_toArray, List.set_cons_zero, List.set_cons_succ, i64_w, i32_w]; rfl
  refine take_ (i := 9) (N := some 145) (v := ?_) (a' := ?_) #[true, true, true, true, false, true, true, true, true, true, false, false, false, false, false] rfl rfl (by kernel_rfl) (fun _ _ _ h => h) (Or.inl ⟨by rfl, ?_⟩) hHeld ?_ ?_
  rotate_left
  · rintro w' ⟨s0, s1, s2, s3, s4⟩; go_simp; with_reducible rfl
  rotate_left
  · simp only [Act.put, List.setIfInBounds_toArray, List.set_cons_zero, List.set_cons_succ, i64_w, i32_w]; rfl
  refine pure_ (i := 10) (N := some 146) (v := ?_) (a' := ?_) #[true, true, true, true, false, true, true, true, true, true, true, false, false, false, false] rfl rfl (by kernel_rfl) (fun _ _ _ h => h) (Or.inl ⟨by rfl, ?_⟩) ?_ ?_
  rotate_left
  · intro w'; go_simp; with_reducible rfl
  rotate_left
  · simp only [Act.put, List.setIfInBounds_toArray, List.set_cons_zero, List.set_cons_succ, i64_w, i32_w]; rfl
  refine pure_ (i := 11) (N := some 147) (v := ?_) (a' := ?_) #[true, true, true, true, false, true, true, true, true, true, true, true, false, false, false] rfl rfl (by kernel_rfl) (fun _ _ _ h => h) (Or.inl ⟨by rfl, ?_⟩) ?_ ?_
  rotate_left
  · intro w'; go_simp; with_reducible rfl
  rotate_left
  · simp only [Act.put, List.setIfInBounds_toArray, List.set_cons_zero, List.set_cons_succ, i64_w, i32_w]; rfl
  clear x0 x1 y10 z0 z1
  have hwD : Below w.heap.size w (w31.alloc (.cells #[.slice A6 (clearL i L).length c6, .slice A1 A.length c1] 40 (0, 0))).drew := HB4.out.trans (HBd.out.mono HB4.out.size)
  have hsz : w31.heap.size < (w31.alloc (.cells #[.slice A6 (clearL i L).length c6, .slice A1 A.length c1] 40 (0, 0))).drew.heap.size := blk_lt H9.out
  have hn0 : NetW (w31.alloc (.cells #[.slice A6 (clearL i L).length c6, .slice A1 A.length c1] 40 (0, 0))).drew (fun k => F k ∧ k < w.heap.size) g q ap := (HN.out.mono (fun k hk hF => ⟨hF, hk⟩)).below hwD
  refine one_ (i := 4) (N := some 140) #[true, true, true, true, true, true, true, true, true, true, true, true, false, false, false] rfl rfl (by kernel_rfl) (by decide) (fun K hK => ?_)
  refine goes_ Try.func20 (by kernel_rfl) rfl #[.pointer (some ⟨g, 0, none⟩), .int .i64 i] (by rfl) rfl rfl (by first | rfl | (simp only [List.map_toArray, List.map_cons, List.map_nil]; rfl)) ?_
  refine (clear_is hn0 hcq i).mono ?_
  rintro e w38 ⟨rfl, hn38, hm38⟩
  have G9 := mods_box H9.out hm38 (by rintro ⟨_, h⟩; omega)
  have G4 := mods_box (keep_box H4.out HBd.out) hm38 (by rintro ⟨_, h⟩; omega)
  have G5 := mods_box (keep_box H5.out HBd.out) hm38 (by rintro ⟨_, h⟩; omega)
  have G6 := mods_box (keep_box H6.out HBd.out) hm38 (by rintro ⟨_, h⟩; omega)
  have x0 : w38.cell? ⟨w31.heap.size, 0, none⟩ = some (.slice A6 (clearL i L).length c6) := (blk_cell G9 0).trans rfl
  have x1 : w38.cell? ⟨w31.heap.size, 1, none⟩ = some (.slice A1 A.length c1) := (blk_cell G9 1).trans rfl
  have y10 : w38.cell? ⟨w.heap.size + 1, 10, none⟩ = some (.int .i64 i) := (blk_cell G5 10).trans rfl
  have z0 : w38.cell? ⟨w.heap.size, 0, none⟩ = some (.slice A0 L.length c0) := (blk_cell G4 0).trans rfl
  have z1 : w38.cell? ⟨w.heap.size, 1, none⟩ = some (.slice A1 A.length c1) := (blk_cell G4 1).trans rfl
  refine ⟨_, rfl, hK.out _ _ ⟨x0, x1, y10, z0, z1⟩ (fun hHeld => ?_)⟩
  clear hK K x0 x1 y10 z0 z1
  refine norm_ (a' := ?_) ?_ ?_
  rotate_left
  · show Act.put _ (some 140) _ = _
    simp only [Act.put, List.setIfInBounds_toArray, List.set_cons_zero, List.set_cons_succ, i64_w, i32_w]
    rfl
  refine pure_ (i := 12) (N := some 148) (v := ?_) (a' := ?_) #[true, true, true, true, true, true, true, true, true, true, true, true, true, false, false] rfl rfl (by kernel_rfl) (fun _ _ _ h => h) (Or.inl ⟨by rfl, ?_⟩) ?_ ?_
  rotate_left
  · intro w'; go_simp; with_reducible rfl
  rotate_left
  · simp only [Act.put, List.setIfInBounds_toArray, List.set_cons_zero, List.set_cons_succ, i64_w, i32_w]; rfl
  refine one_ (i := 13) (N := none) #[true, true, true, true, true, true, true, true, true, true, true, true, true, true, false] rfl rfl (by kernel_rfl) (by decide) (fun K hK => ?_)
  refine storeRow_ (by rfl) 40 (.tmp 6) (.tmp 136) rfl rfl (w.heap.size + 1 + 1) #[.slice A6 (clearL i L).length c6, .slice A1 A.length c1] rfl rfl 40 _ G6 info40s rfl (by rw [List.all_toArray]; rfl) ?_
  have x0 : (w38.setRow (w.heap.size + 1 + 1) #[.slice A6 (clearL i L).length c6, .slice A1 A.length c1]).cell? ⟨w31.heap.size, 0, none⟩ = some (.slice A6 (clearL i L).length c6) := (blk_cell ((setRow_other _ _ _ _ (by omega)).trans G9) 0).trans rfl
  have x1 : (w38.setRow (w.heap.size + 1 + 1) #[.slice A6 (clearL i L).length c6, .slice A1 A.length c1]).cell? ⟨w31.heap.size, 1, none⟩ = some (.slice A1 A.length c1) := (blk_cell ((setRow_other _ _ _ _ (by omega)).trans G9) 1).trans rfl
  have y10 : (w38.setRow (w.heap.size + 1 + 1) #[.slice A6 (clearL i L).length c6, .slice A1 A.length c1]).cell? ⟨w.heap.size + 1, 10, none⟩ = some (.int .i64 i) := (blk_cell ((setRow_other _ _ _ _ (by omega)).trans G5) 10).trans rfl
  have z0 : (w38.setRow (w.heap.size + 1 + 1) #[.slice A6 (clearL i L).length c6, .slice A1 A.length c1]).cell? ⟨w.heap.size, 0, none⟩ = some (.slice A0 L.length c0) := (blk_cell ((setRow_other _ _ _ _ (by omega)).trans G4) 0).trans rfl
  have z1 : (w38.setRow (w.heap.size + 1 + 1) #[.slice A6 (clearL i L).length c6, .slice A1 A.length c1]).cell? ⟨w.heap.size, 1, none⟩ = some (.slice A1 A.length c1) := (blk_cell ((setRow_other _ _ _ _ (by omega)).trans G4) 1).trans rfl
  refine hK.out _ _ ⟨x0, x1, y10, z0, z1⟩ (fun hHeld => ?_)
  clear hK K
  refine pure_ (i := 14) (N := some 7) (v := ?_) (a' := ?_) #[true, true, true, true, true, true, true, true, true, true, true, true, true, true, true] rfl rfl (by kernel_rfl) (fun _ _ _ h => h) (Or.inl ⟨by rfl, ?_⟩) ?_ ?_
  rotate_left
  · intro w'; go_simp; with_reducible rfl
  rotate_left
  · simp only [Act.put, List.setIfInBounds_toArray, List.set_cons_zero, List.set_cons_succ, i64_w, i32_w]; rfl
  refine done_ (by kernel_rfl) ?_
  go_wp2
  refine bodyPost_ret (results_ct rfl _ _ (w.heap.size + 1 + 1) 40 #[.slice A6 (clearL i L).length c6, .slice A1 A.length c1] (0, 0) _ rfl (setRow_heap _ _ _ _ _ _ G6) hu40 rfl info40s) rfl ?_
  have hB9 : Below w31.heap.size w31 (w31.alloc (.cells #[.slice A6 (clearL i L).length c6, .slice A1 A.length c1] 40 (0, 0))).drew := below_drew1 (below_alloc (Below.refl _ _) _)
  exact doAny_fin hwD hn38 hm38 (by omega) (by omega)
end
end Go.Proofs.Ytdibaeomepallaa.NW
