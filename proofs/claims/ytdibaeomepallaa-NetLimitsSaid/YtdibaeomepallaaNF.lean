/- The net, by hand: out. -/
import Derived.Test.YtdibaeomepallaaNE
namespace Go.Proofs.Ytdibaeomepallaa.NW
open Go.RowKit Go.Proofs.YtdibaeomepallaaW.PrintWords Go.Proofs.YtdibaeomepallaaW.PrintLast Go.Proofs.YtdibaeomepallaaW.PrintMore Go.Proofs.Ytdibaeomepallaa.PAll
set_option linter.unusedVariables false
set_option linter.unusedSimpArgs false
set_option maxRecDepth 100000
theorem NetAt.far_row {w : World} {g : Nat} {vs : List Value} {q : List (List Pk)} {ap : List Bool} (h : NetAt w g vs q ap) {k : Nat} (cs : Array Value) (hk : k ≠ g) (hr : ∀ (i : Nat) (v : Value), vs[i]? = some v → v.ownBlock ≠ some k) : NetAt (w.setRow k cs) g vs q ap :=
  ⟨(setRow_other w k g cs (fun e => hk e.symm)).trans h.blk, h.lv, h.la, h.lq, fun i v xs hv hq => row_other (h.row i v xs hv hq) (fun m hm => setRow_other w k m cs (fun e => hr i v hv (by rw [hm, e]))), h.apart⟩
theorem out_ok {w : World} {F : Nat → Prop} {g : Nat} {q : List (List Pk)} {ap : List Bool} (h : NetW w F g q ap) (a b : Int) (i : Nat) {row : List Pk} {p : Pk} (ha : 1 ≤ a) (ha2 : a ≤ 15) (hb : 1 ≤ b) (hb2 : b ≤ 15) (hrow : q[a.toNat * 16 + b.toNat]? = some row) (hp : row[i]? = some p) (hlen : row.length ≤ 1000) :
    Calls Try.prog 69 #[.pointer (some ⟨g, 0, none⟩), .agg #[.int .i64 a, .int .i64 b], .int .i64 i] w fun e w' => e = .returned (pkV p) ∧ NetW w' (grow F w w') g (q.set (a.toNat * 16 + b.toNat) (row.eraseIdx i)) ap ∧ Mods (fun k => k = g) w w' := by
  have hil := (List.getElem?_eq_some_iff.1 hp).1
  obtain ⟨vs, h, hin⟩ := h
  have hidx : a.toNat * 16 + b.toNat < 256 := by omega
  obtain ⟨v, hv⟩ : ∃ v, vs[a.toNat * 16 + b.toNat]? = some v := ⟨_, List.getElem?_eq_getElem (by rw [h.lv]; exact hidx)⟩
  obtain ⟨bb, c, rfl, hpk⟩ := row_pk (h.row _ _ _ hv hrow) hp
  have hu32 := Try.underlying32
  have hu28 := Try.underlying28
  have hu117 := Try.underlying117
  have hu113 := Try.underlying113
  have hu112 := Try.underlying112
  have hu50 := Try.underlying50
  have hi2 : (i : Int) < (row.length : Int) := by omega
  have hi0 : (0 : Int) ≤ (i : Int) := by omega
  have a0 : (0 : Int) ≤ a := by omega
  have a16 : a < 16 := by omega
  have b0 : (0 : Int) ≤ b := by omega
  have b16 : b < 16 := by omega
  have hB := below_alloc (Below.refl w.heap.size w) (Obj.cells #[Value.int IntKind.i64 a, Value.int IntKind.i64 b] 32)
  have hB2 := below_alloc hB (Obj.cells (pk pk0).toArray 28)
  have h2 := h.below hB2
  have hc2 := h2.cell hv
  dsimp only [pk, pk0] at hc2
  go_enter Try.func69, Try.ntmps69
  go_wp2
  go_quiet (fail)
  have hbx : ((w.alloc (Obj.cells #[Value.int IntKind.i64 a, Value.int IntKind.i64 b] 32)).alloc (Obj.cells (pk pk0).toArray 28)).heap[w.heap.size]? = some (.cells #[.int .i64 a, .int .i64 b] 32 (0, 0)) := blk_alloc (blk_new w _) _
  have hb6 : ((w.alloc (Obj.cells #[Value.int IntKind.i64 a, Value.int IntKind.i64 b] 32)).alloc (Obj.cells (pk pk0).toArray 28)).heap[w.heap.size + 1]? = some (.cells (pk pk0).toArray 28 (0, 0)) := by
    have hn := blk_new (w.alloc (Obj.cells #[Value.int IntKind.i64 a, Value.int IntKind.i64 b] 32)) (Obj.cells (pk pk0).toArray 28)
    rwa [show (w.alloc (Obj.cells #[Value.int IntKind.i64 a, Value.int IntKind.i64 b] 32)).heap.size = w.heap.size + 1 from by simp] at hn
  clear hc2
  change Exit.then _ _ Exit.normal _ (((w.alloc (Obj.cells #[Value.int IntKind.i64 a, Value.int IntKind.i64 b] 32)).alloc (Obj.cells (pk pk0).toArray 28)).drewN nq)
  have hD := pw_below_drewN (Below.refl ((w.alloc (Obj.cells #[Value.int IntKind.i64 a, Value.int IntKind.i64 b] 32)).alloc (Obj.cells (pk pk0).toArray 28)).heap.size ((w.alloc (Obj.cells #[Value.int IntKind.i64 a, Value.int IntKind.i64 b] 32)).alloc (Obj.cells (pk pk0).toArray 28))) nq
  have h3 := h2.below hD
  have hBx := (hD.block _ (Array.getElem?_eq_some_iff.1 hbx).1).trans hbx
  have hB6 := (hD.block _ (Array.getElem?_eq_some_iff.1 hb6).1).trans hb6
  have hB3 := hB2.trans (hD.mono hB2.size)
  clear hD hbx hb6 h2 hB hB2
  generalize (((w.alloc (Obj.cells #[Value.int IntKind.i64 a, Value.int IntKind.i64 b] 32)).alloc (Obj.cells (pk pk0).toArray 28)).drewN nq) = w3 at *
  obtain ⟨_, _, he, hpk3⟩ := row_pk (h3.row _ _ _ hv hrow) hp
  cases he
  go_wp2_with (first | ((with_reducible refine gate_dst (N := 22) rfl ?_); refine wpList_load_mid rfl 28 (.tmp 21) rfl bb (i * 7) (by first | rfl | simp) (pk p) _ hpk3 hu28 rfl info28s ?_) | ((with_reducible refine gate_dst (N := 8) rfl ?_); refine box_event ?hg (N := 8) ?hd (cs := (pk pk0).toArray) (t := 28) ?hr ?_; (case hd => rfl); (case hg => rfl); (case hr => go_simp; rfl); intro g8 hg8 w8 hbox8 hb8; have HG8 := Aside0.mk hg8; clear hg8) | ((with_reducible refine gate_store (t := 28) (p := 8) rfl ?_); refine wpList_store_row rfl 28 (.tmp 8) (.tmp 22) rfl g8 (pk p).toArray rfl rfl 28 (pk pk0).toArray hbox8 info28s rfl (pk_one _) ?_))
  simp only [Act.put, List.setIfInBounds_toArray, List.set_cons_zero, List.set_cons_succ]
  have hD := below_setRow hb8 (g := g8) (by have := HG8.out; omega) (pk p).toArray
  have h9 := h3.below hD
  have hx9 := (hD.block _ (Array.getElem?_eq_some_iff.1 hBx).1).trans hBx
  have h69 := (hD.block _ (Array.getElem?_eq_some_iff.1 hB6).1).trans hB6
  have h89 := setRow_heap _ _ _ (pk p).toArray _ _ hbox8
  have hB9 := hB3.trans (hD.mono hB3.size)
  clear hD hBx hB6 hB3 h3 hb8 hbox8 hpk3
  generalize w8.setRow g8 (pk p).toArray = w9 at *
  have h10 := h9.below (w1 := w9.drew) (below_drew1 (Below.refl _ _))
  have c0 : w9.drew.cell? ⟨w.heap.size, 0, none⟩ = some (.int .i64 a) := (blk_cell (blk_drew hx9) 0).trans rfl
  have c1 : w9.drew.cell? ⟨w.heap.size, 1, none⟩ = some (.int .i64 b) := (blk_cell (blk_drew hx9) 1).trans rfl
  have hcap : row.length ≤ c := by
    rcases h9.row _ _ _ hv hrow with ⟨h0, _⟩ | ⟨_, _, _, he, _, h2, _⟩
    · subst h0; cases hil
    · injection he with _ _ he; subst he; exact h2
  have k1 : (i : Int) ≤ (c : Int) := by omega
  have k2 : (i : Int) + 1 ≤ (row.length : Int) := by omega
  have k3 : (row.length : Int) ≤ (c : Int) := by omega
  have k5 : (0 : Int) ≤ (i : Int) + 1 := by omega
  have k6 : wrap64 ((i : Int) + 1) = (i : Int) + 1 := by unfold wrap64; omega
  have k7 : ((i : Int) + 1).toNat = i + 1 := by omega
  refine start_ (n := 19) (S := fun w' => w'.cell? ⟨w.heap.size, 0, none⟩ = some (.int .i64 a) ∧ w'.cell? ⟨w.heap.size, 1, none⟩ = some (.int .i64 b)) (ds := [18]) #[false, false, false, false, false, false, false, false, false, false, false, false, false, false, false, false, false, false, false] (by kernel_rfl) rfl rfl ⟨c0, c1⟩ (fun hHeld => ?_)
  refine pure_ (i := 0) (N := some 23) (v := ?_) (a' := ?_) #[true, false, false, false, false, false, false, false, false, false, false, false, false, false, false, false, false, false, false] rfl rfl (by kernel_rfl) (fun _ _ _ h => h) (Or.inl ⟨by rfl, ?_⟩) ?_ ?_
  rotate_left
  · intro w'; go_simp; with_reducible rfl
  rotate_left
  · simp only [Act.put, List.setIfInBounds_toArray, List.set_cons_zero, List.set_cons_succ, i64_w, i32_w]; rfl
  refine pure_ (i := 1) (N := some 24) (v := ?_) (a' := ?_) #[true, true, false, false, false, false, false, false, false, false, false, false, false, false, false, false, false, false, false] rfl rfl (by kernel_rfl) (fun _ _ _ h => h) (Or.inl ⟨by rfl, ?_⟩) ?_ ?_
  rotate_left
  · intro w'; go_simp; with_reducible rfl
  rotate_left
  · simp only [Act.put, List.setIfInBounds_toArray, List.set_cons_zero, List.set_cons_succ, i64_w, i32_w]; rfl
  refine take_ (i := 2) (N := some 25) (v := ?_) (a' := ?_) #[true, true, true, false, false, false, false, false, false, false, false, false, false, false, false, false, false, false, false] rfl rfl (by kernel_rfl) (fun _ _ _ h => h) (Or.inl ⟨by rfl, ?_⟩) hHeld ?_ ?_
  rotate_left
  · rintro w' ⟨s0, s1⟩; go_simp; with_reducible rfl
  rotate_left
  · simp only [Act.put, List.setIfInBounds_toArray, List.set_cons_zero, List.set_cons_succ, i64_w, i32_w]; rfl
  refine pure_ (i := 3) (N := some 26) (v := ?_) (a' := ?_) #[true, true, true, true, false, false, false, false, false, false, false, false, false, false, false, false, false, false, false] rfl rfl (by kernel_rfl) (fun _ _ _ h => h) (Or.inl ⟨by rfl, ?_⟩) ?_ ?_
  rotate_left
  · intro w'; go_simp; with_reducible rfl
  rotate_left
  · simp only [Act.put, List.setIfInBounds_toArray, List.set_cons_zero, List.set_cons_succ, i64_w, i32_w]; rfl
  refine take_ (i := 4) (N := some 27) (v := ?_) (a' := ?_) #[true, true, true, true, true, false, false, false, false, false, false, false, false, false, false, false, false, false, false] rfl rfl (by kernel_rfl) (fun _ _ _ h => h) (Or.inl ⟨by rfl, ?_⟩) hHeld ?_ ?_
  rotate_left
  · rintro w' ⟨s0, s1⟩; go_simp; with_reducible rfl
  rotate_left
  · simp only [Act.put, List.setIfInBounds_toArray, List.set_cons_zero, List.set_cons_succ, i64_w, i32_w]; rfl
  refine pure_ (i := 5) (N := some 28) (v := ?_) (a' := ?_) #[true, true, true, true, true, true, false, false, false, false, false, false, false, false, false, false, false, false, false] rfl rfl (by kernel_rfl) (fun _ _ _ h => h) (Or.inl ⟨by rfl, ?_⟩) ?_ ?_
  rotate_left
  · intro w'; go_simp; with_reducible rfl
  rotate_left
  · simp only [Act.put, List.setIfInBounds_toArray, List.set_cons_zero, List.set_cons_succ, i64_w, i32_w]; rfl
  refine pure_ (i := 6) (N := some 29) (v := ?_) (a' := ?_) #[true, true, true, true, true, true, true, false, false, false, false, false, false, false, false, false, false, false, false] rfl rfl (by kernel_rfl) (fun _ _ _ h => h) (Or.inl ⟨by rfl, ?_⟩) ?_ ?_
  rotate_left
  · intro w'; go_simp; with_reducible rfl
  rotate_left
  · simp only [Act.put, List.setIfInBounds_toArray, List.set_cons_zero, List.set_cons_succ, i64_w, i32_w]; rfl
  refine pure_ (i := 7) (N := some 30) (v := ?_) (a' := ?_) #[true, true, true, true, true, true, true, true, false, false, false, false, false, false, false, false, false, false, false] rfl rfl (by kernel_rfl) (fun _ _ _ h => h) (Or.inl ⟨by rfl, ?_⟩) ?_ ?_
  rotate_left
  · intro w'; go_simp; with_reducible rfl
  rotate_left
  · simp only [Act.put, List.setIfInBounds_toArray, List.set_cons_zero, List.set_cons_succ, i64_w, i32_w]; rfl
  refine pure_ (i := 8) (N := some 31) (v := ?_) (a' := ?_) #[true, true, true, true, true, true, true, true, true, false, false, false, false, false, false, false, false, false, false] rfl rfl (by kernel_rfl) (fun _ _ _ h => h) (Or.inl ⟨by rfl, ?_⟩) ?_ ?_
  rotate_left
  · intro w'; go_simp; with_reducible rfl
  rotate_left
  · simp only [Act.put, List.setIfInBounds_toArray, List.set_cons_zero, List.set_cons_succ, i64_w, i32_w]; rfl
  refine pure_ (i := 9) (N := some 32) (v := ?_) (a' := ?_) #[true, true, true, true, true, true, true, true, true, true, false, false, false, false, false, false, false, false, false] rfl rfl (by kernel_rfl) (fun _ _ _ h => h) (Or.inl ⟨by rfl, ?_⟩) ?_ ?_
  rotate_left
  · intro w'; go_simp; with_reducible rfl
  rotate_left
  · simp only [Act.put, List.setIfInBounds_toArray, List.set_cons_zero, List.set_cons_succ, i64_w, i32_w]; rfl
  refine pure_ (i := 10) (N := some 33) (v := ?_) (a' := ?_) #[true, true, true, true, true, true, true, true, true, true, true, false, false, false, false, false, false, false, false] rfl rfl (by kernel_rfl) (fun _ _ _ h => h) (Or.inl ⟨by rfl, ?_⟩) ?_ ?_
  rotate_left
  · intro w'; go_simp; with_reducible rfl
  rotate_left
  · simp only [Act.put, List.setIfInBounds_toArray, List.set_cons_zero, List.set_cons_succ, i64_w, i32_w]; rfl
  refine pure_ (i := 11) (N := some 34) (v := ?_) (a' := ?_) #[true, true, true, true, true, true, true, true, true, true, true, true, false, false, false, false, false, false, false] rfl rfl (by kernel_rfl) (fun _ _ _ h => h) (Or.inl ⟨by rfl, ?_⟩) ?_ ?_
  rotate_left
  · intro w'; go_simp; with_reducible rfl
  rotate_left
  · simp only [Act.put, List.setIfInBounds_toArray, List.set_cons_zero, List.set_cons_succ, i64_w, i32_w]; rfl
  refine pure_ (i := 12) (N := some 35) (v := ?_) (a' := ?_) #[true, true, true, true, true, true, true, true, true, true, true, true, true, false, false, false, false, false, false] rfl rfl (by kernel_rfl) (fun _ _ _ h => h) (Or.inl ⟨by rfl, ?_⟩) ?_ ?_
  rotate_left
  · intro w'; go_simp; with_reducible rfl
  rotate_left
  · simp only [Act.put, List.setIfInBounds_toArray, List.set_cons_zero, List.set_cons_succ, i64_w, i32_w]; rfl
  refine pure_ (i := 14) (N := some 37) (v := ?_) (a' := ?_) #[true, true, true, true, true, true, true, true, true, true, true, true, true, false, true, false, false, false, false] rfl rfl (by kernel_rfl) (fun _ _ _ h => h) (Or.inl ⟨by rfl, ?_⟩) ?_ ?_
  rotate_left
  · intro w'; go_simp; with_reducible rfl
  rotate_left
  · simp only [Act.put, List.setIfInBounds_toArray, List.set_cons_zero, List.set_cons_succ, i64_w, i32_w]; rfl
  refine pure_ (i := 15) (N := some 38) (v := ?_) (a' := ?_) #[true, true, true, true, true, true, true, true, true, true, true, true, true, false, true, true, false, false, false] rfl rfl (by kernel_rfl) (fun _ _ _ h => h) (Or.inl ⟨by rfl, ?_⟩) ?_ ?_
  rotate_left
  · intro w'; go_simp; with_reducible rfl
  rotate_left
  · simp only [Act.put, List.setIfInBounds_toArray, List.set_cons_zero, List.set_cons_succ, i64_w, i32_w]; rfl
  refine pure_ (i := 16) (N := some 39) (v := ?_) (a' := ?_) #[true, true, true, true, true, true, true, true, true, true, true, true, true, false, true, true, true, false, false] rfl rfl (by kernel_rfl) (fun _ _ _ h => h) (Or.inl ⟨by rfl, ?_⟩) ?_ ?_
  rotate_left
  · intro w'; go_simp; with_reducible rfl
  rotate_left
  · simp only [Act.put, List.setIfInBounds_toArray, List.set_cons_zero, List.set_cons_succ, i64_w, i32_w]; rfl
  refine one_ (i := 13) (N := some 36) #[true, true, true, true, true, true, true, true, true, true, true, true, true, true, true, true, true, false, false] rfl rfl (by kernel_rfl) (by decide) (fun K hK => ?_)
  have hB10 := below_drew1 hB9
  obtain ⟨v', w20, hr, HR', hg20, hat⟩ := row_out (h10.row _ _ _ hv hrow) hil hlen 50 (if c = i + 1 then some ⟨bb, 0, none⟩ else some ⟨bb, (i + 1) * 7, none⟩) (c - (i + 1)) (fun hm => if_neg (by omega))
  refine event_step (v := v') (w1 := w20) (by rfl) ?_ ?_
  · exact append_run rfl rfl rfl hr
  have hgl := (Array.getElem?_eq_some_iff.1 h10.blk).1
  have hg20' : w9.drew.grownBy w20 (Value.slice (some ⟨bb, 0, none⟩) row.length c).ownBlock := ⟨hg20.os, hg20.tape, hg20.output, hg20.size, fun k hk _ => hg20.block k hk (by simp)⟩
  have hput := h10.put hv hg20' HR' (.inr hat)
  have hblk20 := (hg20.block g hgl (by simp)).trans h10.blk
  have hc20 := (World.cell?_of_block (a := ⟨g, a.toNat * 16 + b.toNat, none⟩) (hg20.block g hgl (by simp))).trans (h10.cell hv)
  have hf20 : w20.frozen? ⟨g, a.toNat * 16 + b.toNat, none⟩ = false := blk_frozen hblk20 _
  have hx20 := (hg20.block _ (Array.getElem?_eq_some_iff.1 (blk_drew hx9)).1 (by simp)).trans (blk_drew hx9)
  have h620 := (hg20.block _ (Array.getElem?_eq_some_iff.1 (blk_drew h69)).1 (by simp)).trans (blk_drew h69)
  have h820 := (hg20.block _ (Array.getElem?_eq_some_iff.1 (blk_drew h89)).1 (by simp)).trans (blk_drew h89)
  have hB20 : Below w.heap.size w w20 := hB10.trans ⟨hg20.os, hg20.tape, hg20.output, hg20.size, fun k hk => hg20.block k (by have := hB10.size; omega) (by simp)⟩
  obtain ⟨A', c', rfl⟩ := row_form HR'
  refine hK.out _ _ ⟨(blk_cell hx20 0).trans rfl, (blk_cell hx20 1).trans rfl⟩ (fun hHeld => ?_)
  clear hK K
  refine norm_ (a' := ?_) ?_ ?_
  rotate_left
  · show Act.put _ (some 36) _ = _
    simp only [Act.put, List.setIfInBounds_toArray, List.set_cons_zero, List.set_cons_succ, i64_w, i32_w]
    rfl
  refine pure_ (i := 17) (N := some 40) (v := ?_) (a' := ?_) #[true, true, true, true, true, true, true, true, true, true, true, true, true, true, true, true, true, true, false] rfl rfl (by kernel_rfl) (fun _ _ _ h => h) (Or.inl ⟨by rfl, ?_⟩) ?_ ?_
  rotate_left
  · intro w'; go_simp; with_reducible rfl
  rotate_left
  · simp only [Act.put, List.setIfInBounds_toArray, List.set_cons_zero, List.set_cons_succ, i64_w, i32_w]; rfl
  refine last_ (i := 18) (N := none) #[true, true, true, true, true, true, true, true, true, true, true, true, true, true, true, true, true, true, true] rfl rfl (by kernel_rfl) (by decide) (fun K hK => ?_)
  refine skip_ (w1 := ?_) (by rfl) rfl ?_ ?_
  rotate_left
  · go_simp
    rfl
  refine hK.out _ _ ?_
  clear hK K
  refine done_ (by kernel_rfl) ?_
  have hne8 : g8 ≠ g := by
    rintro rfl
    rw [hblk20] at h820
    injection h820 with h820
    injection h820 with _ h820
    cases h820
  have hgw : g < w.heap.size := (Array.getElem?_eq_some_iff.1 h.blk).1
  have hne6 : w.heap.size + 1 ≠ g := by omega
  have h821 := (Below.heap_setCell w20 ⟨g, a.toNat * 16 + b.toNat, none⟩ (.slice A' (row.eraseIdx i).length c') g8 hne8).trans h820
  have h621 := (Below.heap_setCell w20 ⟨g, a.toNat * 16 + b.toNat, none⟩ (.slice A' (row.eraseIdx i).length c') (w.heap.size + 1) hne6).trans h620
  have hB21 := (Mods.of_below (F := fun k => k = g) hB20).set (p := ⟨g, a.toNat * 16 + b.toNat, none⟩) (.inl rfl) (.slice A' (row.eraseIdx i).length c')
  have hrow6 : ∀ (j : Nat) (u : Value), (vs.set (a.toNat * 16 + b.toNat) (.slice A' (row.eraseIdx i).length c'))[j]? = some u → u.ownBlock ≠ some (w.heap.size + 1) := by
    intro j u hu e
    by_cases hj : a.toNat * 16 + b.toNat = j
    · subst hj
      rw [List.getElem?_set_self (List.getElem?_eq_some_iff.1 hv).1] at hu
      injection hu with hu
      subst hu
      rcases hat with hat | ⟨m, hat, hm⟩
      · rw [hat] at e
        have := (row_lt (h.row _ _ _ hv hrow) bb rfl).1
        injection e with e
        omega
      · rw [hat] at e
        injection e with e
        have := (Array.getElem?_eq_some_iff.1 (blk_drew h69)).1
        omega
    · rw [List.getElem?_set_ne hj] at hu
      obtain ⟨ys, hq⟩ : ∃ ys, q[j]? = some ys := ⟨_, List.getElem?_eq_getElem (by rw [h.lq, ← h.lv]; exact (List.getElem?_eq_some_iff.1 hu).1)⟩
      have := (row_lt (h.row j u ys hu hq) _ e).1
      omega
  have hfoot : ∀ k, (Value.slice A' (row.eraseIdx i).length c').ownBlock = some k → F k ∨ (w.heap.size ≤ k ∧ k < w20.heap.size) := by
    intro k hk
    rcases hat with hat | ⟨b, hat, hb⟩
    · rw [hat] at hk
      injection hk with hk
      subst hk
      exact .inl (hin.2 _ _ hv bb rfl)
    · rw [hat] at hk
      injection hk with hk
      subst hk
      exact .inr ⟨Nat.le_trans hB10.size hb, (row_lt HR' _ hat).1⟩
  have hnet := hput.far_row (k := w.heap.size + 1) (pk p).toArray hne6 hrow6
  have hB22 := hB21.setRow (g := w.heap.size + 1) (.inr (by omega)) (pk p).toArray
  go_wp2_with (first | ((with_reducible refine gate_dst (N := 41) rfl ?_); refine wpList_load_row rfl 28 (.tmp 8) rfl g8 rfl 28 _ (0, 0) _ h821 hu28 rfl info28s ?_) | ((with_reducible refine gate_store (t := 28) (p := 6) rfl ?_); refine wpList_store_row rfl 28 (.tmp 6) (.tmp 41) rfl (w.heap.size + 1) (pk p).toArray rfl rfl 28 (pk pk0).toArray h621 info28s rfl (pk_one _) ?_))
  all_goals
    refine bodyPost_ret (results_cell_row rfl _ _ (w.heap.size + 1) 28 (pk p).toArray (0, 0) _ rfl (setRow_heap _ _ _ _ _ _ h621) hu28 rfl info28s) rfl ?_
    exact ⟨rfl, ⟨_, hnet, hin.put (fun k hk => .inl hk) (fun k hk => (hfoot k hk).elim .inl (fun e => .inr ⟨e.1, by simpa [World.setCell, World.setRow] using e.2⟩))⟩, hB22⟩
end Go.Proofs.Ytdibaeomepallaa.NW
