/- The net, by hand: Send. -/
import Derived.Test.YtdibaeomepallaaNB
namespace Go.Proofs.Ytdibaeomepallaa.NW
open Go.RowKit Go.Proofs.YtdibaeomepallaaW.PrintWords Go.Proofs.YtdibaeomepallaaW.PrintLast Go.Proofs.YtdibaeomepallaaW.PrintMore Go.Proofs.Ytdibaeomepallaa.PAll
set_option linter.unusedVariables false
set_option linter.unusedSimpArgs false
theorem append_run {P : Program} {o : Oper} {a : Act} {W w1 : World} {t : TypeId} {s x : Operand} {v u v' : Value} (ho : o.op = .call { callee := .builtin .append, args := #[s, x], argTypes := #[t, t] }) (hs : a.eval s = v) (hx : a.eval x = u) (hr : (Builtin.append_ #[t, t] o.type #[v, u]).run P W = .ok v' w1) : (execOp a.eval o).run P W = .ok (.value v') w1 := by
  unfold execOp
  simp only [ho, resolve, invoke, builtin, Sem.run_bind, Sem.run_pure, Result.andThen_ok, List.map_toArray, List.map_cons, List.map_nil, hs, hx, hr]
theorem below_cell {B : Nat} {w w1 : World} (h : Below B w w1) {p : Addr} (hp : B ≤ p.block) (v : Value) : Below B w (w1.setCell p v) :=
  ⟨h.os, h.tape, h.output, Nat.le_trans h.size (by simp [World.setCell]), fun k hk => (Below.heap_setCell w1 p v k (by omega)).trans (h.block k hk)⟩
theorem in_true {a b c : Int} (h : wire_in.f a b c = some true) : b ≤ a ∧ a ≤ c := by
  unfold wire_in.f at h
  split at h
  · injection h with h
    exact ⟨by omega, of_decide_eq_true h⟩
  · injection h with h
    cases h
theorem bind_true {x : Option Bool} {y : Option Bool} (h : (x.bind fun t => if t = true then y else some false) = some true) : x = some true ∧ y = some true := by
  cases x with
  | none => cases h
  | some t => cases t with
    | false => cases h
    | true => exact ⟨rfl, h⟩
theorem check_parts {a b c d e f : Int} {s : ByteArray} (h : wire_CheckPacket.f a b c d e f s = some true) : (1 ≤ a ∧ a ≤ 15) ∧ (1 ≤ b ∧ b ≤ 15) ∧ a ≠ b := by
  unfold wire_CheckPacket.f at h
  obtain ⟨h1, h⟩ := bind_true h
  obtain ⟨h2, h⟩ := bind_true h
  refine ⟨in_true h1, in_true h2, fun e => ?_⟩
  rw [if_pos e] at h
  cases h
theorem cnt_row {q : List (List Pk)} {i : Nat} {row : List Pk} (h : q[i]? = some row) : row.length ≤ cnt q := by
  unfold cnt
  have hm := List.mem_of_getElem? h
  clear h
  induction q with
  | nil => cases hm
  | cons x r ih =>
    rw [List.map_cons, List.sum_cons]
    rcases List.mem_cons.1 hm with rfl | hm
    · omega
    · have := ih hm; omega
theorem row_form {w : World} {v : Value} {xs : List Pk} (h : Row w v xs) : ∃ A c, v = .slice A xs.length c := by
  rcases h with ⟨rfl, A, rfl, _⟩ | ⟨g, cap, cur, rfl, _⟩
  · exact ⟨A, 0, rfl⟩
  · exact ⟨_, _, rfl⟩
theorem info28s : (Try.prog.info? 28).map (·.size) = some 7 := by kernel_rfl
theorem send_full {w : World} {F : Nat → Prop} {g : Nat} {q : List (List Pk)} {ap : List Bool} (p : Pk) (h : NetW w F g q ap) (hc : cnt q ≤ 1000) (hf : 400 ≤ cnt q) (hck : wire_CheckPacket.f p.f0 p.f1 p.f2 p.f3 p.f4 p.f5 p.f6 = some true) :
    Calls Try.prog 17 #[.pointer (some ⟨g, 0, none⟩), pkV p] w fun e w' => e = .returned (.int .i64 6) ∧ Below w.heap.size w w' := by
  have hu28 := Try.underlying28
  obtain ⟨vs, h, hin⟩ := h
  have d1 : decide ((400 : Int) ≤ (cnt q : Int)) = true := decide_eq_true (by omega)
  unfold pkV
  go_enter Try.func17, Try.ntmps17
  go_wp2_with (first | ((with_reducible refine gate_dst (N := 3) rfl ?_); refine box_event ?hg (N := 3) ?hd (cs := (pk p).toArray) (t := 28) ?hr ?_; (case hd => rfl); (case hg => rfl); (case hr => first | (go_simp; done) | (go_simp; rfl)); intro g3 hg3 w3 hbox hb; have HG3 := Aside0.mk hg3; clear hg3) | ((with_reducible refine gate_dst (N := 10) rfl ?_); refine gate_guard (by rfl) ?_; dsimp only; refine wpList_load_row rfl 28 (.tmp 3) rfl g3 rfl 28 _ (0, 0) _ hbox hu28 rfl info28s ?_) | ((with_reducible refine gate_callee (f := 59) rfl ?_); refine gate_guard (by rfl) ?_; dsimp only; refine goesL_ (some 11) rfl rfl Try.func59 (by kernel_rfl) rfl #[.agg (pk p).toArray] rfl (by (try simp only [List.map_toArray, List.map_cons, List.map_nil]); rfl) ?_; refine (wire_CheckPacket.calls _ _ _ _ _ _ _ true _ hck).mono ?_; rintro e w11 ⟨rfl, hb11⟩; refine ⟨_, rfl, ?_⟩) | ((with_reducible refine gate_callee (f := 21) rfl ?_); refine goesL_ (some 16) rfl rfl Try.func21 (by kernel_rfl) rfl #[.pointer (some ⟨g, 0, none⟩)] rfl (by (try simp only [List.map_toArray, List.map_cons, List.map_nil]); rfl) ?_; refine (count_net (w := w11) (F := F) (q := q) (ap := ap) ⟨vs, (h.below hb).below hb11, hin⟩ hc).mono ?_; rintro e w16 ⟨rfl, hb16⟩; refine ⟨_, rfl, ?_⟩))
  go_ret
  exact ⟨rfl, ((hb.trans (hb11.mono hb.size)).trans (hb16.mono (Nat.le_trans hb.size hb11.size)))⟩
set_option maxRecDepth 100000 in
theorem send_ok {w : World} {F : Nat → Prop} {g : Nat} {q : List (List Pk)} {ap : List Bool} (p : Pk) (h : NetW w F g q ap) (hc : cnt q ≤ 1000) (hf : cnt q < 400) {row : List Pk} (hrow : q[p.f0.toNat * 16 + p.f1.toNat]? = some row) (hck : wire_CheckPacket.f p.f0 p.f1 p.f2 p.f3 p.f4 p.f5 p.f6 = some true) :
    Calls Try.prog 17 #[.pointer (some ⟨g, 0, none⟩), pkV p] w fun e w' => e = .returned (.int .i64 0) ∧ NetW w' (grow F w w') g (q.set (p.f0.toNat * 16 + p.f1.toNat) (row ++ [p])) ap ∧ Mods F w w' := by
  have hu28 := Try.underlying28
  obtain ⟨vs, h, hin⟩ := h
  have d1 : decide ((400 : Int) ≤ (cnt q : Int)) = false := decide_eq_false (by omega)
  unfold pkV
  go_enter Try.func17, Try.ntmps17
  go_wp2_with (first | ((with_reducible refine gate_dst (N := 3) rfl ?_); refine box_event ?hg (N := 3) ?hd (cs := (pk p).toArray) (t := 28) ?hr ?_; (case hd => rfl); (case hg => rfl); (case hr => first | (go_simp; done) | (go_simp; rfl)); intro g3 hg3 w3 hbox hb; have HG3 := Aside0.mk hg3; clear hg3) | ((with_reducible refine gate_dst (N := 10) rfl ?_); refine gate_guard (by rfl) ?_; dsimp only; refine wpList_load_row rfl 28 (.tmp 3) rfl g3 rfl 28 _ (0, 0) _ hbox hu28 rfl info28s ?_) | ((with_reducible refine gate_callee (f := 59) rfl ?_); refine gate_guard (by rfl) ?_; dsimp only; refine goesL_ (some 11) rfl rfl Try.func59 (by kernel_rfl) rfl #[.agg (pk p).toArray] rfl (by (try simp only [List.map_toArray, List.map_cons, List.map_nil]); rfl) ?_; refine (wire_CheckPacket.calls _ _ _ _ _ _ _ true _ hck).mono ?_; rintro e w11 ⟨rfl, hb11⟩; refine ⟨_, rfl, ?_⟩) | ((with_reducible refine gate_callee (f := 21) rfl ?_); refine goesL_ (some 16) rfl rfl Try.func21 (by kernel_rfl) rfl #[.pointer (some ⟨g, 0, none⟩)] rfl (by (try simp only [List.map_toArray, List.map_cons, List.map_nil]); rfl) ?_; refine (count_net (w := w11) (F := F) (q := q) (ap := ap) ⟨vs, (h.below hb).below hb11, hin⟩ hc).mono ?_; rintro e w16 ⟨rfl, hb16⟩; refine ⟨_, rfl, ?_⟩))
  have hu117 := Try.underlying117
  have hu113 := Try.underlying113
  have hu112 := Try.underlying112
  have hB := (hb11.trans (hb16.mono hb11.size))
  have h3lt := (Array.getElem?_eq_some_iff.1 hbox).1
  have hbox16 := (hB.block g3 h3lt).trans hbox
  have c0 : w16.cell? ⟨g3, 0, none⟩ = some (.int .i64 p.f0) := (blk_cell hbox16 0).trans rfl
  have c1 : w16.cell? ⟨g3, 1, none⟩ = some (.int .i64 p.f1) := (blk_cell hbox16 1).trans rfl
  obtain ⟨hfr, hto, _⟩ := check_parts hck
  obtain ⟨hfr1, hfr2⟩ := hfr
  obtain ⟨hto1, hto2⟩ := hto
  have hidx : p.f0.toNat * 16 + p.f1.toNat < 256 := by omega
  obtain ⟨v, hv⟩ : ∃ v, vs[p.f0.toNat * 16 + p.f1.toNat]? = some v := ⟨_, List.getElem?_eq_getElem (by rw [h.lv]; exact hidx)⟩
  obtain ⟨A, c, rfl⟩ := h.slice hv hrow
  go_quiet (fail)
  go_wp2
  have hBa : Below w.heap.size w (w16.drewN nq) := pw_below_drewN ((hb.trans (hb11.mono hb.size)).trans (hb16.mono (Nat.le_trans hb.size hb11.size))) nq
  have h17 := h.below hBa
  have hbox17 : (w16.drewN nq).heap[g3]? = some (.cells (pk p).toArray 28 (0, 0)) := hbox16
  clear c0 c1 hbox16 hB
  generalize w16.drewN nq = w17 at hBa h17 hbox17 ⊢
  have hv17 := h17.cell hv
  have e0 : w17.drew.cell? ⟨g3, 0, none⟩ = some (.int .i64 p.f0) := (blk_cell (blk_drew hbox17) 0).trans rfl
  have e1 : w17.drew.cell? ⟨g3, 1, none⟩ = some (.int .i64 p.f1) := (blk_cell (blk_drew hbox17) 1).trans rfl
  have e2 : w17.drew.cell? ⟨g3, 2, none⟩ = some (.int .i64 p.f2) := (blk_cell (blk_drew hbox17) 2).trans rfl
  have e3 : w17.drew.cell? ⟨g3, 3, none⟩ = some (.int .i64 p.f3) := (blk_cell (blk_drew hbox17) 3).trans rfl
  have e4 : w17.drew.cell? ⟨g3, 4, none⟩ = some (.int .i64 p.f4) := (blk_cell (blk_drew hbox17) 4).trans rfl
  have e5 : w17.drew.cell? ⟨g3, 5, none⟩ = some (.int .i64 p.f5) := (blk_cell (blk_drew hbox17) 5).trans rfl
  have e6 : w17.drew.cell? ⟨g3, 6, none⟩ = some (.string p.f6) := (blk_cell (blk_drew hbox17) 6).trans rfl
  refine start_ (n := 9) (S := fun w' => w'.cell? ⟨g, p.f0.toNat * 16 + p.f1.toNat, none⟩ = some (.slice A row.length c) ∧ w'.cell? ⟨g3, 0, none⟩ = some (.int .i64 p.f0) ∧ w'.cell? ⟨g3, 1, none⟩ = some (.int .i64 p.f1) ∧ w'.cell? ⟨g3, 2, none⟩ = some (.int .i64 p.f2) ∧ w'.cell? ⟨g3, 3, none⟩ = some (.int .i64 p.f3) ∧ w'.cell? ⟨g3, 4, none⟩ = some (.int .i64 p.f4) ∧ w'.cell? ⟨g3, 5, none⟩ = some (.int .i64 p.f5) ∧ w'.cell? ⟨g3, 6, none⟩ = some (.string p.f6)) (ds := [8]) #[false, false, false, false, false, false, false, false, false] (by kernel_rfl) rfl rfl ⟨hv17, e0, e1, e2, e3, e4, e5, e6⟩ (fun hHeld => ?_)
  clear e0 e1 e2 e3 e4 e5 e6 hv17
  have h18 := h17.below (w1 := w17.drew) (below_drew1 (Below.refl _ _))
  have hbox18 := blk_drew hbox17
  have hB18 := below_drew1 hBa
  clear hBa h17 hbox17
  generalize w17.drew = w18 at *
  refine pure_ (i := 0) (N := some 27) (v := ?_) (a' := ?_) #[true, false, false, false, false, false, false, false, false] rfl rfl (by kernel_rfl) (fun _ _ _ h => h) (Or.inl ⟨by rfl, ?_⟩) ?_ ?_
  rotate_left
  · intro w'; go_simp; with_reducible rfl
  rotate_left
  · simp only [Act.put, List.setIfInBounds_toArray, List.set_cons_zero, List.set_cons_succ, i64_w, i32_w]; rfl
  refine pure_ (i := 1) (N := some 28) (v := ?_) (a' := ?_) #[true, true, false, false, false, false, false, false, false] rfl rfl (by kernel_rfl) (fun _ _ _ h => h) (Or.inl ⟨by rfl, ?_⟩) ?_ ?_
  rotate_left
  · intro w'; go_simp; with_reducible rfl
  rotate_left
  · simp only [Act.put, List.setIfInBounds_toArray, List.set_cons_zero, List.set_cons_succ, i64_w, i32_w]; rfl
  refine pure_ (i := 2) (N := some 29) (v := ?_) (a' := ?_) #[true, true, true, false, false, false, false, false, false] rfl rfl (by kernel_rfl) (fun _ _ _ h => h) (Or.inl ⟨by rfl, ?_⟩) ?_ ?_
  rotate_left
  · intro w'; go_simp; with_reducible rfl
  rotate_left
  · simp only [Act.put, List.setIfInBounds_toArray, List.set_cons_zero, List.set_cons_succ, i64_w, i32_w]; rfl
  refine take_ (i := 3) (N := some 30) (v := ?_) (a' := ?_) #[true, true, true, true, false, false, false, false, false] rfl rfl (by kernel_rfl) (fun _ _ _ h => h) (Or.inl ⟨by rfl, ?_⟩) hHeld ?_ ?_
  rotate_left
  · rintro w' ⟨s0, s1, s2, s3, s4, s5, s6, s7⟩; go_simp; with_reducible rfl
  rotate_left
  · simp only [Act.put, List.setIfInBounds_toArray, List.set_cons_zero, List.set_cons_succ, i64_w, i32_w]; rfl
  refine take_ (i := 4) (N := some 31) (v := ?_) (a' := ?_) #[true, true, true, true, true, false, false, false, false] rfl rfl (by kernel_rfl) (fun _ _ _ h => h) (Or.inl ⟨by rfl, ?_⟩) hHeld ?_ ?_
  rotate_left
  · rintro w' ⟨s0, s1, s2, s3, s4, s5, s6, s7⟩; go_simp; with_reducible rfl
  rotate_left
  · simp only [Act.put, List.setIfInBounds_toArray, List.set_cons_zero, List.set_cons_succ, i64_w, i32_w]; rfl
  refine one_ (i := 5) (N := some 32) #[true, true, true, true, true, true, false, false, false] rfl rfl (by kernel_rfl) (by decide) (fun K hK => ?_)
  refine event_step (v := .slice (some ⟨w18.heap.size, 0, none⟩) 1 1) (w1 := w18.alloc (.cells (pk p).toArray 28 (0, 0))) (by rfl) (by go_simp; rfl) ?_
  have hba := below_alloc (Below.refl w18.heap.size w18) (.cells (pk p).toArray 28 (0, 0))
  have h19 := h18.below hba
  have hbox19 := blk_alloc hbox18 (.cells (pk p).toArray 28 (0, 0))
  have hnew := blk_new w18 (.cells (pk p).toArray 28 (0, 0))
  have hB19 := below_alloc hB18 (.cells (pk p).toArray 28 (0, 0))
  refine hK.out _ _ ⟨h19.cell hv, (blk_cell hbox19 0).trans rfl, (blk_cell hbox19 1).trans rfl, (blk_cell hbox19 2).trans rfl, (blk_cell hbox19 3).trans rfl, (blk_cell hbox19 4).trans rfl, (blk_cell hbox19 5).trans rfl, (blk_cell hbox19 6).trans rfl⟩ (fun hHeld => ?_)
  clear hK K
  refine norm_ (a' := ?_) ?_ ?_
  rotate_left
  · show Act.put _ (some 32) _ = _
    simp only [Act.put, List.setIfInBounds_toArray, List.set_cons_zero, List.set_cons_succ, i64_w, i32_w]
    rfl
  refine one_ (i := 6) (N := some 33) #[true, true, true, true, true, true, true, false, false] rfl rfl (by kernel_rfl) (by decide) (fun K hK => ?_)
  obtain ⟨v', w20, hr, HR', hg20, hat⟩ := row_append p (h19.row _ _ _ hv hrow) (by have := cnt_row hrow; omega) 50 ⟨w18.heap.size, 0, none⟩ 1 (fun j u hu => by rw [Addr.add_mid, Nat.zero_add]; unfold World.cell?; simp only [hnew]; simpa using hu)
  refine event_step (v := v') (w1 := w20) (by rfl) ?_ ?_
  · exact append_run rfl rfl rfl hr
  have hgl := (Array.getElem?_eq_some_iff.1 h19.blk).1
  have hg20b := (hg20.block g hgl (fun e => h19.row_ne hv e.symm)).trans h19.blk
  have h3ne : ∀ k, (Value.slice A row.length c).ownBlock = some k → k < w.heap.size := fun k hk => (row_lt (h.row _ _ _ hv hrow) k hk).1
  have hbox20 := (hg20.block g3 (Array.getElem?_eq_some_iff.1 hbox19).1 (fun e => by have := h3ne g3 e.symm; have := HG3.out; omega)).trans hbox19
  have hidl := (List.getElem?_eq_some_iff.1 hv).1
  have hc20 : w20.cell? ⟨g, p.f0.toNat * 16 + p.f1.toNat, none⟩ = some (.slice A row.length c) := (World.cell?_of_block (hg20.block g hgl (fun e => h19.row_ne hv e.symm))).trans (h19.cell hv)
  have hput := h19.put hv hg20 HR' (.inr hat)
  have hM20 : Mods F w w20 := (Mods.of_below hB19).grown hg20 (fun k hk => .inl (hin.2 _ _ hv k hk))
  have hfoot : ∀ k, v'.ownBlock = some k → F k ∨ (w.heap.size ≤ k ∧ k < w20.heap.size) := by
    intro k hk
    rcases hat with hat | ⟨b, hat, hb⟩
    · exact .inl (hin.2 _ _ hv k (by rw [← hat]; exact hk))
    · rw [hat] at hk
      injection hk with hk
      subst hk
      exact .inr ⟨Nat.le_trans hB19.size hb, (row_lt HR' _ hat).1⟩
  obtain ⟨A', c', rfl⟩ := row_form HR'
  refine hK.out _ _ ⟨hc20, (blk_cell hbox20 0).trans rfl, (blk_cell hbox20 1).trans rfl, (blk_cell hbox20 2).trans rfl, (blk_cell hbox20 3).trans rfl, (blk_cell hbox20 4).trans rfl, (blk_cell hbox20 5).trans rfl, (blk_cell hbox20 6).trans rfl⟩ (fun hHeld => ?_)
  clear hK K
  refine norm_ (a' := ?_) ?_ ?_
  rotate_left
  · show Act.put _ (some 33) _ = _
    simp only [Act.put, List.setIfInBounds_toArray, List.set_cons_zero, List.set_cons_succ, i64_w, i32_w]
    rfl
  refine pure_ (i := 7) (N := some 34) (v := ?_) (a' := ?_) #[true, true, true, true, true, true, true, true, false] rfl rfl (by kernel_rfl) (fun _ _ _ h => h) (Or.inl ⟨by rfl, ?_⟩) ?_ ?_
  rotate_left
  · intro w'; go_simp; with_reducible rfl
  rotate_left
  · simp only [Act.put, List.setIfInBounds_toArray, List.set_cons_zero, List.set_cons_succ, i64_w, i32_w]; rfl
  refine last_ (i := 8) (N := none) #[true, true, true, true, true, true, true, true, true] rfl rfl (by kernel_rfl) (by decide) (fun K hK => ?_)
  have hf20 : w20.frozen? ⟨g, p.f0.toNat * 16 + p.f1.toNat, none⟩ = false := blk_frozen hg20b _
  refine skip_ (w1 := ?_) (by rfl) rfl ?_ ?_
  rotate_left
  · go_simp
    rfl
  refine hK.out _ _ ?_
  clear hK K
  refine done_ (by kernel_rfl) ?_
  go_wp2
  go_ret
  have hl1 : (row ++ [p]).length = row.length + 1 := by simp
  rw [hl1] at hput hfoot
  exact ⟨rfl, ⟨_, hput, hin.put (fun k hk => .inl hk) (fun k hk => (hfoot k hk).elim .inl (fun e => .inr ⟨e.1, by simpa [World.setCell] using e.2⟩))⟩, hM20.set (.inl hin.1) _⟩
theorem send_bad (w : World) (g : Nat) (p : Pk) (hck : wire_CheckPacket.f p.f0 p.f1 p.f2 p.f3 p.f4 p.f5 p.f6 = some false) :
    Calls Try.prog 17 #[.pointer (some ⟨g, 0, none⟩), pkV p] w fun e w' => e = .returned (.int .i64 1) ∧ Below w.heap.size w w' := by
  have hu28 := Try.underlying28
  unfold pkV
  go_enter Try.func17, Try.ntmps17
  go_wp2_with (first | ((with_reducible refine gate_dst (N := 3) rfl ?_); refine box_event ?hg (N := 3) ?hd (cs := (pk p).toArray) (t := 28) ?hr ?_; (case hd => rfl); (case hg => rfl); (case hr => first | (go_simp; done) | (go_simp; rfl)); intro g3 hg3 w3 hbox hb; have HG3 := Aside0.mk hg3; clear hg3) | ((with_reducible refine gate_dst (N := 10) rfl ?_); refine gate_guard (by rfl) ?_; dsimp only; refine wpList_load_row rfl 28 (.tmp 3) rfl g3 rfl 28 _ (0, 0) _ hbox hu28 rfl info28s ?_) | ((with_reducible refine gate_callee (f := 59) rfl ?_); refine gate_guard (by rfl) ?_; dsimp only; refine goesL_ (some 11) rfl rfl Try.func59 (by kernel_rfl) rfl #[.agg (pk p).toArray] rfl (by (try simp only [List.map_toArray, List.map_cons, List.map_nil]); rfl) ?_; refine (wire_CheckPacket.calls _ _ _ _ _ _ _ false _ hck).mono ?_; rintro e w11 ⟨rfl, hb11⟩; refine ⟨_, rfl, ?_⟩))
  go_ret
  exact ⟨rfl, hb.trans (hb11.mono hb.size)⟩
theorem send_nil (w : World) (p : Pk) : Calls Try.prog 17 #[.pointer none, pkV p] w fun e w' => e = .returned (.int .i64 1) ∧ Below w.heap.size w w' := by
  have hu28 := Try.underlying28
  unfold pkV
  go_enter Try.func17, Try.ntmps17
  go_wp2_with (first | ((with_reducible refine gate_dst (N := 3) rfl ?_); refine box_event ?hg (N := 3) ?hd (cs := (pk p).toArray) (t := 28) ?hr ?_; (case hd => rfl); (case hg => rfl); (case hr => first | (go_simp; done) | (go_simp; rfl)); intro g3 hg3 w3 hbox hb; have HG3 := Aside0.mk hg3; clear hg3))
  go_ret
  exact ⟨rfl, hb⟩
theorem count_nil (w : World) : Calls Try.prog 21 #[.pointer none] w fun e w' => e = .returned (.int .i64 0) ∧ Below w.heap.size w w' := by
  go_enter Try.func21, Try.ntmps21
  go_wp2
  go_ret
  exact ⟨rfl, Below.refl _ _⟩
theorem len_nil (w : World) (a b : Int) : Calls Try.prog 28 #[.pointer none, .agg #[.int .i64 a, .int .i64 b]] w fun e w' => e = .returned (.int .i64 0) ∧ Below w.heap.size w w' := by
  have hu32 := Try.underlying32
  go_enter Try.func28, Try.ntmps28
  go_wp2
  go_ret
  exact ⟨rfl, below_alloc (Below.refl _ _) _⟩
theorem hops_nil (w : World) : Calls Try.prog 33 #[.pointer none] w fun e w' => e = .returned (.slice none 0 0) ∧ Below w.heap.size w w' := by
  go_enter Try.func33, Try.ntmps33
  go_wp2
  go_ret
  exact ⟨rfl, Below.refl _ _⟩
theorem cut_nil (w : World) (a b : Int) : Calls Try.prog 29 #[.pointer none, .int .i64 a, .int .i64 b] w fun e w' => e = .returned (.bool false) ∧ Below w.heap.size w w' := by
  go_enter Try.func29, Try.ntmps29
  go_wp2
  go_ret
  exact ⟨rfl, Below.refl _ _⟩
theorem clear_nil (w : World) (n : Int) : Calls Try.prog 20 #[.pointer none, .int .i64 n] w fun e w' => e = .returned (.int .i64 0) ∧ Below w.heap.size w w' := by
  go_enter Try.func20, Try.ntmps20
  go_wp2
  go_ret
  exact ⟨rfl, Below.refl _ _⟩
theorem apart_nil (w : World) (a b : Int) (on : Bool) : Calls Try.prog 32 #[.pointer none, .int .i64 a, .int .i64 b, .bool on] w fun e w' => e = .returned (.int .i64 1) ∧ Below w.heap.size w w' := by
  go_enter Try.func32, Try.ntmps32
  go_wp2
  go_ret
  exact ⟨rfl, Below.refl _ _⟩
theorem there_nil (w : World) (a b i : Int) : Calls Try.prog 60 #[.pointer none, .agg #[.int .i64 a, .int .i64 b], .int .i64 i] w fun e w' => e = .returned (.int .i64 1) ∧ Below w.heap.size w w' := by
  have hu32 := Try.underlying32
  go_enter Try.func60, Try.ntmps60
  go_wp2
  go_ret
  exact ⟨rfl, below_alloc (Below.refl _ _) _⟩
theorem lose_nil (w : World) (a b i : Int) : Calls Try.prog 31 #[.pointer none, .agg #[.int .i64 a, .int .i64 b], .int .i64 i] w fun e w' => e = .returned (.int .i64 1) ∧ Below w.heap.size w w' := by
  have hu32 := Try.underlying32
  go_enter Try.func31, Try.ntmps31
  go_wp2_with ((with_reducible refine gate_callee (f := 60) rfl ?_); refine goesL_ (some 11) rfl rfl Try.func60 (by kernel_rfl) rfl #[.pointer none, .agg #[.int .i64 a, .int .i64 b], .int .i64 i] rfl (by (try simp only [List.map_toArray, List.map_cons, List.map_nil]); rfl) ?_; refine (there_nil _ a b i).mono ?_; rintro e w1 ⟨rfl, hb1⟩; refine ⟨_, rfl, ?_⟩)
  go_ret
  exact ⟨rfl, (below_alloc (Below.refl _ _) _).trans (hb1.mono (by simp))⟩
theorem twice_nil (w : World) (a b i : Int) : Calls Try.prog 19 #[.pointer none, .agg #[.int .i64 a, .int .i64 b], .int .i64 i] w fun e w' => e = .returned (.int .i64 1) ∧ Below w.heap.size w w' := by
  have hu32 := Try.underlying32
  go_enter Try.func19, Try.ntmps19
  go_wp2_with ((with_reducible refine gate_callee (f := 60) rfl ?_); refine goesL_ (some 11) rfl rfl Try.func60 (by kernel_rfl) rfl #[.pointer none, .agg #[.int .i64 a, .int .i64 b], .int .i64 i] rfl (by (try simp only [List.map_toArray, List.map_cons, List.map_nil]); rfl) ?_; refine (there_nil _ a b i).mono ?_; rintro e w1 ⟨rfl, hb1⟩; refine ⟨_, rfl, ?_⟩)
  go_ret
  exact ⟨rfl, (below_alloc (Below.refl _ _) _).trans (hb1.mono (by simp))⟩
/-- May a packet be? -/
def okP (p : Pk) : Bool := decide (1 ≤ p.f0 ∧ p.f0 ≤ 15) && decide (1 ≤ p.f1 ∧ p.f1 ≤ 15) && decide (p.f0 ≠ p.f1) && decide (1 ≤ p.f2 ∧ p.f2 ≤ 1099511627775) && decide (1 ≤ p.f3 ∧ p.f3 ≤ 1099511627775) && decide (0 ≤ p.f4 ∧ p.f4 ≤ 1099511627775) && decide (0 ≤ p.f5 ∧ p.f5 ≤ 1099511627775) && decide (p.f6.size ≤ 32768) && (decide (0 < p.f4) || decide (p.f6.size = 0))
theorem in_is (a b c : Int) : wire_in.f a b c = some (decide (b ≤ a ∧ a ≤ c)) := by
  unfold wire_in.f
  by_cases h : a ≥ b
  · rw [if_pos h]
    congr 1
    exact decide_eq_decide.2 ⟨fun e => ⟨h, e⟩, fun e => e.2⟩
  · rw [if_neg h]
    congr 1
    exact (decide_eq_false (fun e => h e.1)).symm
theorem size_nil (s : ByteArray) : (s.toList == ([] : List UInt8)) = decide (s.size = 0) := by
  have hl : s.toList.length = s.size := by rw [ByteArray.toList_eq]; simp
  rw [← hl]
  cases h : s.toList with
  | nil => rfl
  | cons a l => rfl
theorem check_is (p : Pk) : wire_CheckPacket.f p.f0 p.f1 p.f2 p.f3 p.f4 p.f5 p.f6 = some (okP p) := by
  unfold wire_CheckPacket.f okP
  simp only [in_is, Option.bind_some]
  by_cases h1 : 1 ≤ p.f0 ∧ p.f0 ≤ 15 <;> by_cases h2 : 1 ≤ p.f1 ∧ p.f1 ≤ 15 <;> by_cases h3 : p.f0 = p.f1 <;> by_cases h4 : 1 ≤ p.f2 ∧ p.f2 ≤ 1099511627775 <;> by_cases h5 : 1 ≤ p.f3 ∧ p.f3 ≤ 1099511627775 <;> by_cases h6 : 0 ≤ p.f4 ∧ p.f4 ≤ 1099511627775 <;> by_cases h7 : 0 ≤ p.f5 ∧ p.f5 ≤ 1099511627775 <;> simp only [h1, h2, h3, h4, h5, h6, h7, decide_true, decide_false, Bool.true_and, Bool.false_and, Bool.and_false, Bool.and_true, if_true, if_false, ne_eq, not_true_eq_false, not_false_eq_true, Bool.false_eq_true, reduceIte, and_self]
  by_cases h8 : (p.f6.size : Int) ≤ 32768
  · rw [if_pos h8, decide_eq_true (by omega : p.f6.size ≤ 32768)]
    by_cases h9 : p.f4 > 0
    · rw [if_pos h9, decide_eq_true (show 0 < p.f4 from h9)]
      rfl
    · rw [if_neg h9, decide_eq_false (show ¬ 0 < p.f4 from h9), size_nil]
      simp
  · rw [if_neg h8, decide_eq_false (by omega : ¬ p.f6.size ≤ 32768)]
    rfl
/-- Where a hop's row lies. -/
def at2 (a b : Int) : Nat := a.toNat * 16 + b.toNat
/-- The rows behind a Send. -/
def sendQ (p : Pk) (q : List (List Pk)) : List (List Pk) := if okP p = true ∧ cnt q < 400 then q.set (at2 p.f0 p.f1) (q.getD (at2 p.f0 p.f1) [] ++ [p]) else q
def sendE (p : Pk) (q : List (List Pk)) : Int := if okP p = true then (if cnt q < 400 then 0 else 6) else 1
theorem okP_parts {p : Pk} (h : okP p = true) : (1 ≤ p.f0 ∧ p.f0 ≤ 15) ∧ (1 ≤ p.f1 ∧ p.f1 ≤ 15) ∧ p.f0 ≠ p.f1 := by
  unfold okP at h
  simp only [Bool.and_eq_true, decide_eq_true_eq] at h
  exact ⟨h.1.1.1.1.1.1.1.1, h.1.1.1.1.1.1.1.2, h.1.1.1.1.1.1.2⟩
theorem NetW.lq {w : World} {F : Nat → Prop} {g : Nat} {q : List (List Pk)} {ap : List Bool} (h : NetW w F g q ap) : q.length = 256 := by
  obtain ⟨vs, h, _⟩ := h
  exact h.lq
theorem NetW.la {w : World} {F : Nat → Prop} {g : Nat} {q : List (List Pk)} {ap : List Bool} (h : NetW w F g q ap) : ap.length = 256 := by
  obtain ⟨vs, h, _⟩ := h
  exact h.la
theorem NetW.grow {w w' : World} {F : Nat → Prop} {g : Nat} {q : List (List Pk)} {ap : List Bool} (h : NetW w F g q ap) (hb : Below w.heap.size w w') : NetW w' (NW.grow F w w') g q ap := (h.below hb).mono (fun _ _ hk => .inl hk)
/-- Send, whatever comes. -/
theorem send_is {w : World} {F : Nat → Prop} {g : Nat} {q : List (List Pk)} {ap : List Bool} (p : Pk) (h : NetW w F g q ap) (hc : cnt q ≤ 1000) :
    Calls Try.prog 17 #[.pointer (some ⟨g, 0, none⟩), pkV p] w fun e w' => e = .returned (.int .i64 (sendE p q)) ∧ NetW w' (NW.grow F w w') g (sendQ p q) ap ∧ Mods F w w' := by
  have hck := check_is p
  unfold sendE sendQ
  cases hok : okP p with
  | false =>
    rw [hok] at hck
    rw [if_neg (by decide), if_neg (fun e => by cases e.1)]
    exact (send_bad w g p hck).mono fun e w' ⟨he, hb⟩ => ⟨he, h.grow hb, Mods.of_below hb⟩
  | true =>
    rw [hok] at hck
    by_cases hf : cnt q < 400
    · rw [if_pos rfl, if_pos hf, if_pos ⟨rfl, hf⟩]
      obtain ⟨h1, h2, h3⟩ := okP_parts hok
      have hrow : q[p.f0.toNat * 16 + p.f1.toNat]? = some (q.getD (at2 p.f0 p.f1) []) := by
        rw [List.getD_eq_getElem?_getD]
        unfold at2
        rw [List.getElem?_eq_getElem (by rw [h.lq]; omega)]
        rfl
      exact send_ok p h hc hf hrow hck
    · rw [if_pos rfl, if_neg hf, if_neg (fun e => hf e.2)]
      exact (send_full p h hc (by omega) hck).mono fun e w' ⟨he, hb⟩ => ⟨he, h.grow hb, Mods.of_below hb⟩
end Go.Proofs.Ytdibaeomepallaa.NW
