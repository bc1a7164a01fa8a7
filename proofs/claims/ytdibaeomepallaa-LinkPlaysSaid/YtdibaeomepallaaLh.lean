/- An end of a link hears a packet: Take. By hand. -/
import Derived.Test.YtdibaeomepallaaLg
namespace Go.Proofs.Ytdibaeomepallaa.LK
open Go.RowKit Go.Proofs.YtdibaeomepallaaW.PrintWords Go.Proofs.YtdibaeomepallaaW.PrintLast Go.Proofs.YtdibaeomepallaaW.PrintMore Go.Proofs.Ytdibaeomepallaa.PAll Go.Proofs.Ytdibaeomepallaa.NW
set_option linter.unusedVariables false
set_option linter.unusedSimpArgs false
set_option maxRecDepth 100000
theorem hand_len : ∀ (n : Nat) (w : Int) (er : List (Int × ByteArray)), (hand n w er).2.1.length ≤ er.length := by
  intro n
  induction n with
  | zero => intro w er; exact Nat.le_refl _
  | succ n ih =>
    intro w er
    unfold hand
    cases hf : fnd er w with
    | none => exact Nat.le_refl _
    | some s =>
      dsimp only
      split
      · exact Nat.le_refl _
      · exact Nat.le_trans (ih _ _) (Nat.le_of_lt (del_len hf))
theorem hand_num : ∀ (n : Nat) (w : Int) (er : List (Int × ByteArray)), w ≤ 1099511627775 → w + (hand n w er).1 ≤ 1099511627775 := by
  intro n
  induction n with
  | zero => intro w er h; simpa [hand] using h
  | succ n ih =>
    intro w er h
    unfold hand
    cases hf : fnd er w with
    | none => simpa using h
    | some s =>
      dsimp only
      split
      · simpa using h
      · have := ih (w + 1) (del er w) (by omega)
        simp only [Int.natCast_add, Int.cast_ofNat_Int]
        omega
theorem Bd.ack {l : Lk} (h : Bd l) (n : Int) : Bd (ack l n) := by
  obtain ⟨b1, b2, o8, oq, q64, w1, w2, e⟩ := h
  have hk := ackN_le l n
  have hl : (l.q.drop (ackN l n)).length = l.q.length - ackN l n := List.length_drop
  exact ⟨by show 1 ≤ l.base + (ackN l n : Int); omega, by show l.base + (ackN l n : Int) + ((l.q.drop (ackN l n)).length : Int) ≤ _; rw [hl]; omega, by show l.out - ackN l n ≤ 8; omega, by show l.out - ackN l n ≤ (l.q.drop (ackN l n)).length; rw [hl]; omega, by show (l.q.drop (ackN l n)).length ≤ 64; rw [hl]; omega, w1, w2, e⟩
theorem Bd.came {l : Lk} (h : Bd l) (h9 : l.er.length ≤ 999) (seq : Int) (s : ByteArray) : Bd (cameL l seq s) := by
  obtain ⟨b1, b2, o8, oq, q64, w1, w2, e⟩ := h
  refine ⟨b1, b2, o8, oq, q64, ?_, ?_, ?_⟩
  · show 1 ≤ l.want + ((cameR l seq s).1 : Int); omega
  · show l.want + ((cameR l seq s).1 : Int) ≤ _
    unfold cameR
    split
    · simpa using w2
    · exact hand_num _ _ _ w2
  · show (cameR l seq s).2.1.length ≤ 1000
    unfold cameR
    split
    · exact e
    · have h1 := hand_len ((put l.er seq s).length + 1) l.want (put l.er seq s)
      have h2 := put_length l.er seq s
      omega
theorem Bd.tk2 {l : Lk} (h : Bd l) (h9 : l.er.length ≤ 999) (p : Pk) : Bd (tk2 l p) := by
  unfold LK.tk2
  split
  · exact h.ack _
  · exact (h.ack _).came h9 _ _
theorem Bd.goL {l : Lk} (h : Bd l) : Bd (goL l) := by
  obtain ⟨b1, b2, o8, oq, q64, w1, w2, e⟩ := h
  exact ⟨b1, b2, by show max _ _ ≤ 8; omega, by show max l.out (min 8 l.q.length) ≤ l.q.length; omega, q64, w1, w2, e⟩
/-- What hearing a packet leaves. -/
def TakeOut (w : World) (g : Nat) (l : Lk) (v : Value) (m : Nat) (p : Pk) (e : Ending) (w' : World) : Prop :=
  ∃ t o v', e = .returned (.tuple #[t, o, .int .i64 (tkE l p)]) ∧ Kd.string.R 9 w' w.heap.size (fun k => some k ≠ v'.ownBlock) t (tkT l p) ∧ k28.R 28 w' w.heap.size (fun _ => True) o (tkP l p) ∧ LkStep w g v m (tkL l p) v' w'
theorem take_no {w w' : World} {g m : Nat} {l : Lk} {v : Value} (h : LkAt w g l v m) (hb : Below w.heap.size w w') {p : Pk} {n : Int} (hn : tkE l p = n) (h0 : n ≠ 0) : TakeOut w g l v m p (.returned (.tuple #[.slice none 0 0, .slice none 0 0, .int .i64 n])) w' := by
  subst hn
  refine ⟨_, _, v, rfl, ?_, ?_, ?_⟩
  · unfold tkT; rw [if_neg (fun e => h0 e.1)]; exact Kd.R_nil _ _ _ _ _
  · unfold tkP; rw [if_neg h0]; exact Kd.R_nil _ _ _ _ _
  · unfold tkL; rw [if_neg h0]; exact lkstep_refl h hb
theorem okP_nums {p : Pk} (h : okP p = true) : 0 ≤ p.f4 ∧ p.f4 ≤ 1099511627775 ∧ 0 ≤ p.f5 ∧ p.f5 ≤ 1099511627775 ∧ p.f6.size ≤ 32768 := by
  unfold okP at h
  simp only [Bool.and_eq_true, Bool.or_eq_true, decide_eq_true_eq] at h
  omega
theorem mods_keep {w w' : World} {g b : Nat} {o : Obj} (h : w.heap[b]? = some o) (hm : Mods (fun k => k = g) w w') (hb : b ≠ g) : w'.heap[b]? = some o := (hm.block b (blk_lt h) hb).trans h
theorem mods_keep2 {w w' : World} {g m b : Nat} {o : Obj} (h : w.heap[b]? = some o) (hm : Mods (fun k => k = g ∨ k = m) w w') (hb : b ≠ g) (hb2 : b ≠ m) : w'.heap[b]? = some o := (hm.block b (blk_lt h) (fun e => e.elim hb hb2)).trans h
theorem LkStep.next {w W W' : World} {g m : Nat} {l1 l2 : Lk} {v v1 : Value} (h : LkStep w g v m l1 v1 W) (lk : LkAt W' g l2 v1 m) (hm : Mods (fun k => k = g ∨ k = m) W W') : LkStep w g v m l2 v1 W' :=
  ⟨lk, h.own, h.mods.trans hm (fun i _ e => e.elim .inl (fun e => .inr (.inl e)))⟩
theorem step_acked {w W W3 : World} {g m : Nat} {l l3 : Lk} {v v3 : Value} (hb : Below w.heap.size w W) (ha : LkAt W3 g l3 v3 m ∧ (∀ k, v3.ownBlock = some k → v.ownBlock = some k ∨ W.heap.size ≤ k) ∧ Mods (fun k => k = g) W W3) : LkStep w g v m l3 v3 W3 :=
  ⟨ha.1, fun k hk => (ha.2.1 k hk).imp_right (Nat.le_trans hb.size), (Mods.of_below hb).trans ha.2.2 (fun i _ e => .inl e)⟩
theorem step_goOut {w W W5 : World} {g m : Nat} {l2 : Lk} {v v3 o : Value} (st : LkStep w g v m l2 v3 W) (ho : k28.R 28 W5 W.heap.size (fun _ => True) o (goP l2) ∧ W5.heap[g]? = some (.cells (lkc (goL l2) v3 m) 134 (0, 0)) ∧ Mods (fun k => k = g) W W5) : LkStep w g v m (goL l2) v3 W5 :=
  st.next (goOut_stays st.lk ho.2.1 ho.2.2) (mods_gm ho.2.2)
theorem take_end {w W' : World} {g m : Nat} {l : Lk} {v v3 t o : Value} {p : Pk} (hE : tkE l p = 0) (st : LkStep w g v m (goL (tk2 l p)) v3 W') (ht : Kd.string.R 9 W' w.heap.size (fun k => some k ≠ v3.ownBlock) t (tkT l p)) (ho : k28.R 28 W' w.heap.size (fun _ => True) o (tkP l p)) : TakeOut w g l v m p (.returned (.tuple #[t, o, .int .i64 0])) W' :=
  ⟨t, o, v3, by rw [hE], ht, ho, by unfold tkL; rw [if_pos hE]; exact st⟩
theorem take_end0 {w W W3 W5 : World} {g m : Nat} {l : Lk} {v v3 o : Value} {p : Pk} (hE : tkE l p = 0) (h4 : p.f4 = 0) (hb : Below w.heap.size w W) (ha : LkAt W3 g (ack l p.f5) v3 m ∧ (∀ k, v3.ownBlock = some k → v.ownBlock = some k ∨ W.heap.size ≤ k) ∧ Mods (fun k => k = g) W W3)
    (ho : k28.R 28 W5 W3.heap.size (fun _ => True) o (goP (ack l p.f5)) ∧ W5.heap[g]? = some (.cells (lkc (goL (ack l p.f5)) v3 m) 134 (0, 0)) ∧ Mods (fun k => k = g) W3 W5) : TakeOut w g l v m p (.returned (.tuple #[.slice none 0 0, o, .int .i64 0])) W5 := by
  have e2 : tk2 l p = ack l p.f5 := if_pos h4
  have st := step_goOut (step_acked (l := l) hb ha) ho
  refine take_end hE (by rw [e2]; exact st) ?_ ?_
  · unfold tkT; rw [if_neg (fun e => e.2 h4)]; exact Kd.R_nil _ _ _ _ _
  · unfold tkP; rw [if_pos hE, if_neg (fun e => e.1 h4), e2]; exact Kd.R_lower ho.1 (Nat.le_trans hb.size ha.2.2.size)
/-- Behind came and goOut. -/
theorem take_mid {w W W3 W4 W5 : World} {g m : Nat} {l : Lk} {v v3 t o : Value} {p : Pk} (hE : tkE l p = 0) (h4 : p.f4 ≠ 0) (hb : Below w.heap.size w W) (ha : LkAt W3 g (ack l p.f5) v3 m ∧ (∀ k, v3.ownBlock = some k → v.ownBlock = some k ∨ W.heap.size ≤ k) ∧ Mods (fun k => k = g) W W3)
    (hc : Kd.string.R 9 W4 W3.heap.size (fun _ => True) t (cameT (ack l p.f5) p.f4 p.f6) ∧ LkAt W4 g (cameL (ack l p.f5) p.f4 p.f6) v3 m ∧ Mods (fun k => k = g ∨ k = m) W3 W4)
    (ho : k28.R 28 W5 W4.heap.size (fun _ => True) o (goP (cameL (ack l p.f5) p.f4 p.f6)) ∧ W5.heap[g]? = some (.cells (lkc (goL (cameL (ack l p.f5) p.f4 p.f6)) v3 m) 134 (0, 0)) ∧ Mods (fun k => k = g) W4 W5) :
    LkStep w g v m (goL (tk2 l p)) v3 W5 ∧ Kd.string.R 9 W5 w.heap.size (fun k => some k ≠ v3.ownBlock) t (tkT l p) ∧ k28.R 28 W5 w.heap.size (fun _ => True) o (goP (tk2 l p)) := by
  have e2 : tk2 l p = cameL (ack l p.f5) p.f4 p.f6 := if_neg h4
  have eT : tkT l p = cameT (ack l p.f5) p.f4 p.f6 := if_pos ⟨hE, h4⟩
  have s3 := step_acked (l := l) hb ha
  have s4 := s3.next hc.2.1 hc.2.2
  have st := step_goOut s4 ho
  have h3 : w.heap.size ≤ W3.heap.size := Nat.le_trans hb.size ha.2.2.size
  have h34 : W3.heap.size ≤ W4.heap.size := hc.2.2.size
  have hg := ha.1.lt
  rw [e2, eT]
  refine ⟨st, ?_, Kd.R_lower ho.1 (by omega)⟩
  refine Kd.R_lower (Kd.R_mono (Kd.R_step (Kd.R_bound hc.1) (fun k hk hlt => ho.2.2.block k hlt (fun e => by have := hk.2.1; omega))) (fun k hk e => ?_)) h3
  obtain ⟨cells, hcl⟩ := ha.1.own e.symm
  have := blk_lt hcl
  have := hk.2.1
  omega
theorem take_end2 {w W5 : World} {g m : Nat} {l l2 : Lk} {v v3 t o : Value} {p : Pk} (hE : tkE l p = 0) (h4 : p.f4 ≠ 0) (e2 : tk2 l p = l2) (h6 : ¬ (goP l2).length = 0) (ht : LkStep w g v m (goL l2) v3 W5 ∧ Kd.string.R 9 W5 w.heap.size (fun k => some k ≠ v3.ownBlock) t (tkT l p) ∧ k28.R 28 W5 w.heap.size (fun _ => True) o (goP l2)) : TakeOut w g l v m p (.returned (.tuple #[t, o, .int .i64 0])) W5 := by
  refine take_end hE (by rw [e2]; exact ht.1) ht.2.1 ?_
  unfold tkP
  rw [if_pos hE, e2, if_neg (fun e => h6 (by rw [e.2]; rfl))]
  exact ht.2.2
theorem take_end1 {w W5 W6 W7 : World} {g m : Nat} {l l2 : Lk} {v v3 t o v7 : Value} {p : Pk} (hE : tkE l p = 0) (h4 : p.f4 ≠ 0) (e2 : tk2 l p = l2) (h6 : (goP l2).length = 0) (ht : LkStep w g v m (goL l2) v3 W5 ∧ Kd.string.R 9 W5 w.heap.size (fun k => some k ≠ v3.ownBlock) t (tkT l p) ∧ k28.R 28 W5 w.heap.size (fun _ => True) o (goP l2))
    (hb : Below W5.heap.size W5 W6) (h7 : k28.R 28 W7 w.heap.size (fun _ => True) v7 (goP l2 ++ [pkt l2 0 e0]) ∧ W6.grownBy W7 o.ownBlock ∧ (v7.ownBlock = o.ownBlock ∨ ∃ b, v7.ownBlock = some b ∧ W6.heap.size ≤ b)) : TakeOut w g l v m p (.returned (.tuple #[t, v7, .int .i64 0])) W7 := by
  have hg : goP l2 = [] := List.eq_nil_of_length_eq_zero h6
  obtain ⟨inner, hoi⟩ := Kd.R_own ht.2.2
  have hob : ∀ k, o.ownBlock = some k → w.heap.size ≤ k ∧ ∃ cells, W5.heap[k]? = some (.cells cells 28 (0, 0)) := fun k hk => ⟨own_base hoi k hk, own_typed hoi k hk⟩
  have hm7 : Mods (fun k => o.ownBlock = some k) W5 W7 := (Mods.of_below hb).grown h7.2.1 (fun k hk => .inl hk)
  have ne : ∀ {k : Nat} {x : Obj}, W5.heap[k]? = some x → (∀ cells, x ≠ .cells cells 28 (0, 0)) → ¬ o.ownBlock = some k := by
    intro k x hx hn e
    obtain ⟨_, cells, hc⟩ := hob k e
    rw [hx] at hc
    injection hc with hc
    exact hn cells hc
  refine take_end hE ?_ ?_ ?_ (v3 := v3)
  · rw [e2]
    refine ⟨ht.1.lk.mods hm7 (fun k hk => ?_), ht.1.own, ht.1.mods.trans hm7 (fun i hi e => by have := (hob i e).1; omega)⟩
    rcases hk with rfl | rfl | hk
    · exact ne ht.1.lk.blk (fun cells e => by injection e with _ e; cases e)
    · obtain ⟨es, c, hc⟩ := ht.1.lk.er.form
      exact ne hc (fun cells e => by cases e)
    · obtain ⟨cs, hc⟩ := ht.1.lk.own hk
      exact ne hc (fun cells e => by injection e with _ e; cases e)
  · refine Kd.R_mono (Kd.R_step (Kd.R_bound ht.2.1) (fun k hk hlt => hm7.block k hlt ?_)) (fun k hk => hk.1)
    obtain ⟨_, _, _, q, hq, cells, hc⟩ := hk
    refine ne hc (fun cells e => ?_)
    injection e with _ e
    have e9 : q = 9 := by simpa [Kd.string, Kd.scalar] using hq
    rw [e9] at e
    cases e
  · unfold tkP
    rw [if_pos hE, e2, if_pos ⟨h4, hg⟩]
    rw [hg] at h7
    exact h7.1
set_option maxHeartbeats 8000000 in
theorem take_is {w : World} {g m : Nat} {l : Lk} {v : Value} (h : LkAt w g l v m) (hb : Bd l) (h9 : l.er.length ≤ 999) (p : Pk) :
    Calls Try.prog 39 #[.pointer (some ⟨g, 0, none⟩), .agg #[.int .i64 p.f0, .int .i64 p.f1, .int .i64 p.f2, .int .i64 p.f3, .int .i64 p.f4, .int .i64 p.f5, .string p.f6]] w (TakeOut w g l v m p) := by
  have hu28 := Try.underlying28
  have HBd := Aside0.mk hb
  have HL := Aside0.mk h
  obtain ⟨w1, hw1, hB1, hb1, hs1⟩ := alloc1 w (.cells #[.int .i64 p.f0, .int .i64 p.f1, .int .i64 p.f2, .int .i64 p.f3, .int .i64 p.f4, .int .i64 p.f5, .string p.f6] 28 (0, 0))
  have HW := Aside0.mk hw1
  have HB1 := Aside0.mk (below_drew1 hB1)
  have HP1 := Aside0.mk (blk_drew hb1)
  have HG1 := Aside0.mk (h.below (below_drew1 hB1)).blk
  have hck := check_is p
  clear hw1 hB1 hb1 hs1 hb h
  cases hok : okP p with
  | false =>
    rw [hok] at hck
    have HCK := Aside0.mk hck
    have HE := Aside0.mk (show tkE l p = 1 by unfold tkE; rw [if_neg (fun e => by rw [hok] at e; cases e.1)])
    clear hck hok
    go_enter Try.func39, Try.ntmps39
    go_wp2
    rw [← HW.out]
    have x0 : World.cell? w1.drew ⟨w.heap.size, 0, none⟩ = some (.int .i64 p.f0) := (blk_cell HP1.out 0).trans rfl
    have x1 : World.cell? w1.drew ⟨w.heap.size, 1, none⟩ = some (.int .i64 p.f1) := (blk_cell HP1.out 1).trans rfl
    have x2 : World.cell? w1.drew ⟨w.heap.size, 2, none⟩ = some (.int .i64 p.f2) := (blk_cell HP1.out 2).trans rfl
    have x3 : World.cell? w1.drew ⟨w.heap.size, 3, none⟩ = some (.int .i64 p.f3) := (blk_cell HP1.out 3).trans rfl
    have x4 : World.cell? w1.drew ⟨w.heap.size, 4, none⟩ = some (.int .i64 p.f4) := (blk_cell HP1.out 4).trans rfl
    have x5 : World.cell? w1.drew ⟨w.heap.size, 5, none⟩ = some (.int .i64 p.f5) := (blk_cell HP1.out 5).trans rfl
    have x6 : World.cell? w1.drew ⟨w.heap.size, 6, none⟩ = some (.string p.f6) := (blk_cell HP1.out 6).trans rfl
    have z0 : World.cell? w1.drew ⟨g, 0, none⟩ = some (.int .i64 l.x.f0) := (blk_cell HG1.out 0).trans rfl
    have z2 : World.cell? w1.drew ⟨g, 2, none⟩ = some (.int .i64 l.x.f2) := (blk_cell HG1.out 2).trans rfl
    refine start_ (n := 28) (S := fun w' => w'.cell? ⟨w.heap.size, 0, none⟩ = some (.int .i64 p.f0) ∧ w'.cell? ⟨w.heap.size, 1, none⟩ = some (.int .i64 p.f1) ∧ w'.cell? ⟨w.heap.size, 2, none⟩ = some (.int .i64 p.f2) ∧ w'.cell? ⟨w.heap.size, 3, none⟩ = some (.int .i64 p.f3) ∧ w'.cell? ⟨w.heap.size, 4, none⟩ = some (.int .i64 p.f4) ∧ w'.cell? ⟨w.heap.size, 5, none⟩ = some (.int .i64 p.f5) ∧ w'.cell? ⟨w.heap.size, 6, none⟩ = some (.string p.f6) ∧ w'.cell? ⟨g, 0, none⟩ = some (.int .i64 l.x.f0) ∧ w'.cell? ⟨g, 2, none⟩ = some (.int .i64 l.x.f2)) (ds := []) #[false, false, false, false, false, false, false, false, false, false, false, false, false, false, false, false, false, false, false, false, false, false, false, false, false, false, false, false] (by kernel_rfl) rfl rfl ⟨x0, x1, x2, x3, x4, x5, x6, z0, z2⟩ (fun hHeld => ?_)
    refine pure_ (i := 0) (N := some 8) (v := ?_) (a' := ?_) #[true, false, false, false, false, false, false, false, false, false, false, false, false, false, false, false, false, false, false, false, false, false, false, false, false, false, false, false] rfl rfl (by kernel_rfl) (fun _ _ _ h => h) (Or.inl ⟨by rfl, ?_⟩) ?_ ?_
    rotate_left
    · intro w'; go_simp; with_reducible rfl
    rotate_left
    · simp only [Act.put, List.setIfInBounds_toArray, List.set_cons_zero, List.set_cons_succ, i64_w, i32_w]; rfl
    refine pure_ (i := 1) (N := some 9) (v := ?_) (a' := ?_) #[true, true, false, false, false, false, false, false, false, false, false, false, false, false, false, false, false, false, false, false, false, false, false, false, false, false, false, false] rfl rfl (by kernel_rfl) (fun _ _ _ h => h) (Or.inl ⟨by rfl, ?_⟩) ?_ ?_
    rotate_left
    · intro w'; go_simp; with_reducible rfl
    rotate_left
    · simp only [Act.put, List.setIfInBounds_toArray, List.set_cons_zero, List.set_cons_succ, i64_w, i32_w]; rfl
    refine pure_ (i := 2) (N := some 10) (v := ?_) (a' := ?_) #[true, true, true, false, false, false, false, false, false, false, false, false, false, false, false, false, false, false, false, false, false, false, false, false, false, false, false, false] rfl rfl (by kernel_rfl) (fun _ _ _ h => h) (Or.inl ⟨by rfl, ?_⟩) ?_ ?_
    rotate_left
    · intro w'; go_simp; with_reducible rfl
    rotate_left
    · simp only [Act.put, List.setIfInBounds_toArray, List.set_cons_zero, List.set_cons_succ, i64_w, i32_w]; rfl
    refine take_ (i := 3) (N := some 11) (v := ?_) (a' := ?_) #[true, true, true, true, false, false, false, false, false, false, false, false, false, false, false, false, false, false, false, false, false, false, false, false, false, false, false, false] rfl rfl (by kernel_rfl) (fun _ _ _ h => h) (Or.inl ⟨by rfl, ?_⟩) hHeld ?_ ?_
    rotate_left
    · rintro w' ⟨s0, s1, s2, s3, s4, s5, s6, s7, s8⟩; go_simp; with_reducible rfl
    rotate_left
    · simp only [Act.put, List.setIfInBounds_toArray, List.set_cons_zero, List.set_cons_succ, i64_w, i32_w]; rfl
    clear x0 x1 x2 x3 x4 x5 x6 z0 z2
    refine one_ (i := 4) (N := some 12) #[true, true, true, true, true, false, false, false, false, false, false, false, false, false, false, false, false, false, false, false, false, false, false, false, false, false, false, false] rfl rfl (by kernel_rfl) (by decide) (fun K hK => ?_)
    refine goes_ Try.func59 (by kernel_rfl) rfl #[.agg #[.int .i64 p.f0, .int .i64 p.f1, .int .i64 p.f2, .int .i64 p.f3, .int .i64 p.f4, .int .i64 p.f5, .string p.f6]] (by rfl) rfl rfl (by first | rfl | (simp only [List.map_toArray, List.map_cons, List.map_nil]; rfl)) ?_
    refine (wire_CheckPacket.calls p.f0 p.f1 p.f2 p.f3 p.f4 p.f5 p.f6 false _ HCK.out).mono ?_
    rintro e W2 ⟨rfl, hb2⟩
    have HB2 := Aside0.mk (HB1.out.trans (hb2.mono HB1.out.size))
    have HP2 := Aside0.mk (keepB HP1.out hb2)
    clear hb2
    have HG2 := Aside0.mk (HL.out.below HB2.out).blk
    have x0 : World.cell? W2 ⟨w.heap.size, 0, none⟩ = some (.int .i64 p.f0) := (blk_cell HP2.out 0).trans rfl
    have x1 : World.cell? W2 ⟨w.heap.size, 1, none⟩ = some (.int .i64 p.f1) := (blk_cell HP2.out 1).trans rfl
    have x2 : World.cell? W2 ⟨w.heap.size, 2, none⟩ = some (.int .i64 p.f2) := (blk_cell HP2.out 2).trans rfl
    have x3 : World.cell? W2 ⟨w.heap.size, 3, none⟩ = some (.int .i64 p.f3) := (blk_cell HP2.out 3).trans rfl
    have x4 : World.cell? W2 ⟨w.heap.size, 4, none⟩ = some (.int .i64 p.f4) := (blk_cell HP2.out 4).trans rfl
    have x5 : World.cell? W2 ⟨w.heap.size, 5, none⟩ = some (.int .i64 p.f5) := (blk_cell HP2.out 5).trans rfl
    have x6 : World.cell? W2 ⟨w.heap.size, 6, none⟩ = some (.string p.f6) := (blk_cell HP2.out 6).trans rfl
    have z0 : World.cell? W2 ⟨g, 0, none⟩ = some (.int .i64 l.x.f0) := (blk_cell HG2.out 0).trans rfl
    have z2 : World.cell? W2 ⟨g, 2, none⟩ = some (.int .i64 l.x.f2) := (blk_cell HG2.out 2).trans rfl
    refine ⟨_, rfl, hK.out _ _ ⟨x0, x1, x2, x3, x4, x5, x6, z0, z2⟩ (fun hHeld => ?_)⟩
    clear hK K
    refine norm_ (a' := ?_) ?_ ?_
    rotate_left
    · show Act.put _ (some 12) _ = _
      simp only [Act.put, List.setIfInBounds_toArray, List.set_cons_zero, List.set_cons_succ, i64_w, i32_w]
      rfl
    refine pure_ (i := 5) (N := some 13) (v := ?_) (a' := ?_) #[true, true, true, true, true, true, false, false, false, false, false, false, false, false, false, false, false, false, false, false, false, false, false, false, false, false, false, false] rfl rfl (by kernel_rfl) (fun _ _ _ h => h) (Or.inl ⟨by rfl, ?_⟩) ?_ ?_
    rotate_left
    · intro w'; go_simp; with_reducible rfl
    rotate_left
    · simp only [Act.put, List.setIfInBounds_toArray, List.set_cons_zero, List.set_cons_succ, i64_w, i32_w]; rfl
    refine pure_ (i := 6) (N := some 14) (v := ?_) (a' := ?_) #[true, true, true, true, true, true, true, false, false, false, false, false, false, false, false, false, false, false, false, false, false, false, false, false, false, false, false, false] rfl rfl (by kernel_rfl) (fun _ _ _ h => h) (Or.inl ⟨by rfl, ?_⟩) ?_ ?_
    rotate_left
    · intro w'; go_simp; with_reducible rfl
    rotate_left
    · simp only [Act.put, List.setIfInBounds_toArray, List.set_cons_zero, List.set_cons_succ, i64_w, i32_w]; rfl
    refine pure_ (i := 7) (N := some 15) (v := ?_) (a' := ?_) #[true, true, true, true, true, true, true, true, false, false, false, false, false, false, false, false, false, false, false, false, false, false, false, false, false, false, false, false] rfl rfl (by kernel_rfl) (fun _ _ _ h => h) (Or.inl ⟨by rfl, ?_⟩) ?_ ?_
    rotate_left
    · intro w'; go_simp; with_reducible rfl
    rotate_left
    · simp only [Act.put, List.setIfInBounds_toArray, List.set_cons_zero, List.set_cons_succ, i64_w, i32_w]; rfl
    refine pure_ (i := 8) (N := some 16) (v := undef) (a' := ?_) #[true, true, true, true, true, true, true, true, true, false, false, false, false, false, false, false, false, false, false, false, false, false, false, false, false, false, false, false] rfl rfl (by kernel_rfl) (fun _ _ _ h => h) (Or.inr ⟨by rfl, rfl⟩) ?_ ?_
    rotate_left
    · simp only [Act.put, List.setIfInBounds_toArray, List.set_cons_zero, List.set_cons_succ, i64_w, i32_w]; rfl
    refine pure_ (i := 9) (N := some 17) (v := undef) (a' := ?_) #[true, true, true, true, true, true, true, true, true, true, false, false, false, false, false, false, false, false, false, false, false, false, false, false, false, false, false, false] rfl rfl (by kernel_rfl) (fun _ _ _ h => h) (Or.inr ⟨by rfl, rfl⟩) ?_ ?_
    rotate_left
    · simp only [Act.put, List.setIfInBounds_toArray, List.set_cons_zero, List.set_cons_succ, i64_w, i32_w]; rfl
    refine pure_ (i := 10) (N := some 18) (v := undef) (a' := ?_) #[true, true, true, true, true, true, true, true, true, true, true, false, false, false, false, false, false, false, false, false, false, false, false, false, false, false, false, false] rfl rfl (by kernel_rfl) (fun _ _ _ h => h) (Or.inr ⟨by rfl, rfl⟩) ?_ ?_
    rotate_left
    · simp only [Act.put, List.setIfInBounds_toArray, List.set_cons_zero, List.set_cons_succ, i64_w, i32_w]; rfl
    refine pure_ (i := 11) (N := some 19) (v := undef) (a' := ?_) #[true, true, true, true, true, true, true, true, true, true, true, true, false, false, false, false, false, false, false, false, false, false, false, false, false, false, false, false] rfl rfl (by kernel_rfl) (fun _ _ _ h => h) (Or.inr ⟨by rfl, rfl⟩) ?_ ?_
    rotate_left
    · simp only [Act.put, List.setIfInBounds_toArray, List.set_cons_zero, List.set_cons_succ, i64_w, i32_w]; rfl
    refine pure_ (i := 12) (N := some 20) (v := undef) (a' := ?_) #[true, true, true, true, true, true, true, true, true, true, true, true, true, false, false, false, false, false, false, false, false, false, false, false, false, false, false, false] rfl rfl (by kernel_rfl) (fun _ _ _ h => h) (Or.inr ⟨by rfl, rfl⟩) ?_ ?_
    rotate_left
    · simp only [Act.put, List.setIfInBounds_toArray, List.set_cons_zero, List.set_cons_succ, i64_w, i32_w]; rfl
    refine pure_ (i := 13) (N := some 21) (v := undef) (a' := ?_) #[true, true, true, true, true, true, true, true, true, true, true, true, true, true, false, false, false, false, false, false, false, false, false, false, false, false, false, false] rfl rfl (by kernel_rfl) (fun _ _ _ h => h) (Or.inr ⟨by rfl, rfl⟩) ?_ ?_
    rotate_left
    · simp only [Act.put, List.setIfInBounds_toArray, List.set_cons_zero, List.set_cons_succ, i64_w, i32_w]; rfl
    refine pure_ (i := 14) (N := some 22) (v := undef) (a' := ?_) #[true, true, true, true, true, true, true, true, true, true, true, true, true, true, true, false, false, false, false, false, false, false, false, false, false, false, false, false] rfl rfl (by kernel_rfl) (fun _ _ _ h => h) (Or.inr ⟨by rfl, rfl⟩) ?_ ?_
    rotate_left
    · simp only [Act.put, List.setIfInBounds_toArray, List.set_cons_zero, List.set_cons_succ, i64_w, i32_w]; rfl
    refine pure_ (i := 15) (N := some 23) (v := undef) (a' := ?_) #[true, true, true, true, true, true, true, true, true, true, true, true, true, true, true, true, false, false, false, false, false, false, false, false, false, false, false, false] rfl rfl (by kernel_rfl) (fun _ _ _ h => h) (Or.inr ⟨by rfl, rfl⟩) ?_ ?_
    rotate_left
    · simp only [Act.put, List.setIfInBounds_toArray, List.set_cons_zero, List.set_cons_succ, i64_w, i32_w]; rfl
    refine pure_ (i := 16) (N := some 24) (v := ?_) (a' := ?_) #[true, true, true, true, true, true, true, true, true, true, true, true, true, true, true, true, true, false, false, false, false, false, false, false, false, false, false, false] rfl rfl (by kernel_rfl) (fun _ _ _ h => h) (Or.inl ⟨by rfl, ?_⟩) ?_ ?_
    rotate_left
    · intro w'; go_simp; with_reducible rfl
    rotate_left
    · simp only [Act.put, List.setIfInBounds_toArray, List.set_cons_zero, List.set_cons_succ, i64_w, i32_w]; rfl
    refine pure_ (i := 17) (N := some 25) (v := ?_) (a' := ?_) #[true, true, true, true, true, true, true, true, true, true, true, true, true, true, true, true, true, true, false, false, false, false, false, false, false, false, false, false] rfl rfl (by kernel_rfl) (fun _ _ _ h => h) (Or.inl ⟨by rfl, ?_⟩) ?_ ?_
    rotate_left
    · intro w'; go_simp; with_reducible rfl
    rotate_left
    · simp only [Act.put, List.setIfInBounds_toArray, List.set_cons_zero, List.set_cons_succ, i64_w, i32_w]; rfl
    refine pure_ (i := 18) (N := some 26) (v := undef) (a' := ?_) #[true, true, true, true, true, true, true, true, true, true, true, true, true, true, true, true, true, true, true, false, false, false, false, false, false, false, false, false] rfl rfl (by kernel_rfl) (fun _ _ _ h => h) (Or.inr ⟨by rfl, rfl⟩) ?_ ?_
    rotate_left
    · simp only [Act.put, List.setIfInBounds_toArray, List.set_cons_zero, List.set_cons_succ, i64_w, i32_w]; rfl
    refine pure_ (i := 19) (N := some 27) (v := undef) (a' := ?_) #[true, true, true, true, true, true, true, true, true, true, true, true, true, true, true, true, true, true, true, true, false, false, false, false, false, false, false, false] rfl rfl (by kernel_rfl) (fun _ _ _ h => h) (Or.inr ⟨by rfl, rfl⟩) ?_ ?_
    rotate_left
    · simp only [Act.put, List.setIfInBounds_toArray, List.set_cons_zero, List.set_cons_succ, i64_w, i32_w]; rfl
    refine pure_ (i := 20) (N := some 28) (v := undef) (a' := ?_) #[true, true, true, true, true, true, true, true, true, true, true, true, true, true, true, true, true, true, true, true, true, false, false, false, false, false, false, false] rfl rfl (by kernel_rfl) (fun _ _ _ h => h) (Or.inr ⟨by rfl, rfl⟩) ?_ ?_
    rotate_left
    · simp only [Act.put, List.setIfInBounds_toArray, List.set_cons_zero, List.set_cons_succ, i64_w, i32_w]; rfl
    refine pure_ (i := 21) (N := some 29) (v := undef) (a' := ?_) #[true, true, true, true, true, true, true, true, true, true, true, true, true, true, true, true, true, true, true, true, true, true, false, false, false, false, false, false] rfl rfl (by kernel_rfl) (fun _ _ _ h => h) (Or.inr ⟨by rfl, rfl⟩) ?_ ?_
    rotate_left
    · simp only [Act.put, List.setIfInBounds_toArray, List.set_cons_zero, List.set_cons_succ, i64_w, i32_w]; rfl
    refine pure_ (i := 22) (N := some 30) (v := undef) (a' := ?_) #[true, true, true, true, true, true, true, true, true, true, true, true, true, true, true, true, true, true, true, true, true, true, true, false, false, false, false, false] rfl rfl (by kernel_rfl) (fun _ _ _ h => h) (Or.inr ⟨by rfl, rfl⟩) ?_ ?_
    rotate_left
    · simp only [Act.put, List.setIfInBounds_toArray, List.set_cons_zero, List.set_cons_succ, i64_w, i32_w]; rfl
    refine pure_ (i := 23) (N := some 31) (v := undef) (a' := ?_) #[true, true, true, true, true, true, true, true, true, true, true, true, true, true, true, true, true, true, true, true, true, true, true, true, false, false, false, false] rfl rfl (by kernel_rfl) (fun _ _ _ h => h) (Or.inr ⟨by rfl, rfl⟩) ?_ ?_
    rotate_left
    · simp only [Act.put, List.setIfInBounds_toArray, List.set_cons_zero, List.set_cons_succ, i64_w, i32_w]; rfl
    refine pure_ (i := 24) (N := some 32) (v := undef) (a' := ?_) #[true, true, true, true, true, true, true, true, true, true, true, true, true, true, true, true, true, true, true, true, true, true, true, true, true, false, false, false] rfl rfl (by kernel_rfl) (fun _ _ _ h => h) (Or.inr ⟨by rfl, rfl⟩) ?_ ?_
    rotate_left
    · simp only [Act.put, List.setIfInBounds_toArray, List.set_cons_zero, List.set_cons_succ, i64_w, i32_w]; rfl
    refine pure_ (i := 25) (N := some 33) (v := undef) (a' := ?_) #[true, true, true, true, true, true, true, true, true, true, true, true, true, true, true, true, true, true, true, true, true, true, true, true, true, true, false, false] rfl rfl (by kernel_rfl) (fun _ _ _ h => h) (Or.inr ⟨by rfl, rfl⟩) ?_ ?_
    rotate_left
    · simp only [Act.put, List.setIfInBounds_toArray, List.set_cons_zero, List.set_cons_succ, i64_w, i32_w]; rfl
    refine pure_ (i := 26) (N := some 34) (v := ?_) (a' := ?_) #[true, true, true, true, true, true, true, true, true, true, true, true, true, true, true, true, true, true, true, true, true, true, true, true, true, true, true, false] rfl rfl (by kernel_rfl) (fun _ _ _ h => h) (Or.inl ⟨by rfl, ?_⟩) ?_ ?_
    rotate_left
    · intro w'; go_simp; with_reducible rfl
    rotate_left
    · simp only [Act.put, List.setIfInBounds_toArray, List.set_cons_zero, List.set_cons_succ, i64_w, i32_w]; rfl
    refine pure_ (i := 27) (N := some 7) (v := ?_) (a' := ?_) #[true, true, true, true, true, true, true, true, true, true, true, true, true, true, true, true, true, true, true, true, true, true, true, true, true, true, true, true] rfl rfl (by kernel_rfl) (fun _ _ _ h => h) (Or.inl ⟨by rfl, ?_⟩) ?_ ?_
    rotate_left
    · intro w'; go_simp; with_reducible rfl
    rotate_left
    · simp only [Act.put, List.setIfInBounds_toArray, List.set_cons_zero, List.set_cons_succ, i64_w, i32_w]; rfl
    refine done_ (by kernel_rfl) ?_
    go_wp2
    go_ret3
    exact take_no HL.out HB2.out HE.out (by decide)
  | true =>
    rw [hok] at hck
    have HCK := Aside0.mk hck
    have HOK := Aside0.mk hok
    clear hck hok
    by_cases h1 : p.f0 = l.x.f2
    · by_cases h2 : p.f1 = l.x.f0
      · have n1 : (p.f0 != l.x.f2) = false := by rw [h1]; simp
        have n2 : (p.f1 != l.x.f0) = false := by rw [h2]; simp
        have H1 := Aside0.mk h1
        have H2 := Aside0.mk h2
        clear h1 h2
        obtain ⟨q0, q1, q2, q3, q4⟩ := okP_nums HOK.out
        have hglt : g < w.heap.size := HL.out.lt
        go_enter Try.func39, Try.ntmps39
        go_wp2
        rw [← HW.out]
        have x0 : World.cell? w1.drew ⟨w.heap.size, 0, none⟩ = some (.int .i64 p.f0) := (blk_cell HP1.out 0).trans rfl
        have x1 : World.cell? w1.drew ⟨w.heap.size, 1, none⟩ = some (.int .i64 p.f1) := (blk_cell HP1.out 1).trans rfl
        have x2 : World.cell? w1.drew ⟨w.heap.size, 2, none⟩ = some (.int .i64 p.f2) := (blk_cell HP1.out 2).trans rfl
        have x3 : World.cell? w1.drew ⟨w.heap.size, 3, none⟩ = some (.int .i64 p.f3) := (blk_cell HP1.out 3).trans rfl
        have x4 : World.cell? w1.drew ⟨w.heap.size, 4, none⟩ = some (.int .i64 p.f4) := (blk_cell HP1.out 4).trans rfl
        have x5 : World.cell? w1.drew ⟨w.heap.size, 5, none⟩ = some (.int .i64 p.f5) := (blk_cell HP1.out 5).trans rfl
        have x6 : World.cell? w1.drew ⟨w.heap.size, 6, none⟩ = some (.string p.f6) := (blk_cell HP1.out 6).trans rfl
        have z0 : World.cell? w1.drew ⟨g, 0, none⟩ = some (.int .i64 l.x.f0) := (blk_cell HG1.out 0).trans rfl
        have z2 : World.cell? w1.drew ⟨g, 2, none⟩ = some (.int .i64 l.x.f2) := (blk_cell HG1.out 2).trans rfl
        refine start_ (n := 28) (S := fun w' => w'.cell? ⟨w.heap.size, 0, none⟩ = some (.int .i64 p.f0) ∧ w'.cell? ⟨w.heap.size, 1, none⟩ = some (.int .i64 p.f1) ∧ w'.cell? ⟨w.heap.size, 2, none⟩ = some (.int .i64 p.f2) ∧ w'.cell? ⟨w.heap.size, 3, none⟩ = some (.int .i64 p.f3) ∧ w'.cell? ⟨w.heap.size, 4, none⟩ = some (.int .i64 p.f4) ∧ w'.cell? ⟨w.heap.size, 5, none⟩ = some (.int .i64 p.f5) ∧ w'.cell? ⟨w.heap.size, 6, none⟩ = some (.string p.f6) ∧ w'.cell? ⟨g, 0, none⟩ = some (.int .i64 l.x.f0) ∧ w'.cell? ⟨g, 2, none⟩ = some (.int .i64 l.x.f2)) (ds := []) #[false, false, false, false, false, false, false, false, false, false, false, false, false, false, false, false, false, false, false, false, false, false, false, false, false, false, false, false] (by kernel_rfl) rfl rfl ⟨x0, x1, x2, x3, x4, x5, x6, z0, z2⟩ (fun hHeld => ?_)
        refine pure_ (i := 0) (N := some 8) (v := ?_) (a' := ?_) #[true, false, false, false, false, false, false, false, false, false, false, false, false, false, false, false, false, false, false, false, false, false, false, false, false, false, false, false] rfl rfl (by kernel_rfl) (fun _ _ _ h => h) (Or.inl ⟨by rfl, ?_⟩) ?_ ?_
        rotate_left
        · intro w'; go_simp; with_reducible rfl
        rotate_left
        · simp only [Act.put, List.setIfInBounds_toArray, List.set_cons_zero, List.set_cons_succ, i64_w, i32_w]; rfl
        refine pure_ (i := 1) (N := some 9) (v := ?_) (a' := ?_) #[true, true, false, false, false, false, false, false, false, false, false, false, false, false, false, false, false, false, false, false, false, false, false, false, false, false, false, false] rfl rfl (by kernel_rfl) (fun _ _ _ h => h) (Or.inl ⟨by rfl, ?_⟩) ?_ ?_
        rotate_left
        · intro w'; go_simp; with_reducible rfl
        rotate_left
        · simp only [Act.put, List.setIfInBounds_toArray, List.set_cons_zero, List.set_cons_succ, i64_w, i32_w]; rfl
        refine pure_ (i := 2) (N := some 10) (v := ?_) (a' := ?_) #[true, true, true, false, false, false, false, false, false, false, false, false, false, false, false, false, false, false, false, false, false, false, false, false, false, false, false, false] rfl rfl (by kernel_rfl) (fun _ _ _ h => h) (Or.inl ⟨by rfl, ?_⟩) ?_ ?_
        rotate_left
        · intro w'; go_simp; with_reducible rfl
        rotate_left
        · simp only [Act.put, List.setIfInBounds_toArray, List.set_cons_zero, List.set_cons_succ, i64_w, i32_w]; rfl
        refine take_ (i := 3) (N := some 11) (v := ?_) (a' := ?_) #[true, true, true, true, false, false, false, false, false, false, false, false, false, false, false, false, false, false, false, false, false, false, false, false, false, false, false, false] rfl rfl (by kernel_rfl) (fun _ _ _ h => h) (Or.inl ⟨by rfl, ?_⟩) hHeld ?_ ?_
        rotate_left
        · rintro w' ⟨s0, s1, s2, s3, s4, s5, s6, s7, s8⟩; go_simp; with_reducible rfl
        rotate_left
        · simp only [Act.put, List.setIfInBounds_toArray, List.set_cons_zero, List.set_cons_succ, i64_w, i32_w]; rfl
        clear x0 x1 x2 x3 x4 x5 x6 z0 z2
        refine one_ (i := 4) (N := some 12) #[true, true, true, true, true, false, false, false, false, false, false, false, false, false, false, false, false, false, false, false, false, false, false, false, false, false, false, false] rfl rfl (by kernel_rfl) (by decide) (fun K hK => ?_)
        refine goes_ Try.func59 (by kernel_rfl) rfl #[.agg #[.int .i64 p.f0, .int .i64 p.f1, .int .i64 p.f2, .int .i64 p.f3, .int .i64 p.f4, .int .i64 p.f5, .string p.f6]] (by rfl) rfl rfl (by first | rfl | (simp only [List.map_toArray, List.map_cons, List.map_nil]; rfl)) ?_
        refine (wire_CheckPacket.calls p.f0 p.f1 p.f2 p.f3 p.f4 p.f5 p.f6 true _ HCK.out).mono ?_
        rintro e W2 ⟨rfl, hb2⟩
        have HB2 := Aside0.mk (HB1.out.trans (hb2.mono HB1.out.size))
        have HP2 := Aside0.mk (keepB HP1.out hb2)
        clear hb2
        have HG2 := Aside0.mk (HL.out.below HB2.out).blk
        have x0 : World.cell? W2 ⟨w.heap.size, 0, none⟩ = some (.int .i64 p.f0) := (blk_cell HP2.out 0).trans rfl
        have x1 : World.cell? W2 ⟨w.heap.size, 1, none⟩ = some (.int .i64 p.f1) := (blk_cell HP2.out 1).trans rfl
        have x2 : World.cell? W2 ⟨w.heap.size, 2, none⟩ = some (.int .i64 p.f2) := (blk_cell HP2.out 2).trans rfl
        have x3 : World.cell? W2 ⟨w.heap.size, 3, none⟩ = some (.int .i64 p.f3) := (blk_cell HP2.out 3).trans rfl
        have x4 : World.cell? W2 ⟨w.heap.size, 4, none⟩ = some (.int .i64 p.f4) := (blk_cell HP2.out 4).trans rfl
        have x5 : World.cell? W2 ⟨w.heap.size, 5, none⟩ = some (.int .i64 p.f5) := (blk_cell HP2.out 5).trans rfl
        have x6 : World.cell? W2 ⟨w.heap.size, 6, none⟩ = some (.string p.f6) := (blk_cell HP2.out 6).trans rfl
        have z0 : World.cell? W2 ⟨g, 0, none⟩ = some (.int .i64 l.x.f0) := (blk_cell HG2.out 0).trans rfl
        have z2 : World.cell? W2 ⟨g, 2, none⟩ = some (.int .i64 l.x.f2) := (blk_cell HG2.out 2).trans rfl
        refine ⟨_, rfl, hK.out _ _ ⟨x0, x1, x2, x3, x4, x5, x6, z0, z2⟩ (fun hHeld => ?_)⟩
        clear hK K
        refine norm_ (a' := ?_) ?_ ?_
        rotate_left
        · show Act.put _ (some 12) _ = _
          simp only [Act.put, List.setIfInBounds_toArray, List.set_cons_zero, List.set_cons_succ, i64_w, i32_w]
          rfl
        refine pure_ (i := 5) (N := some 13) (v := ?_) (a' := ?_) #[true, true, true, true, true, true, false, false, false, false, false, false, false, false, false, false, false, false, false, false, false, false, false, false, false, false, false, false] rfl rfl (by kernel_rfl) (fun _ _ _ h => h) (Or.inl ⟨by rfl, ?_⟩) ?_ ?_
        rotate_left
        · intro w'; go_simp; with_reducible rfl
        rotate_left
        · simp only [Act.put, List.setIfInBounds_toArray, List.set_cons_zero, List.set_cons_succ, i64_w, i32_w]; rfl
        refine pure_ (i := 6) (N := some 14) (v := ?_) (a' := ?_) #[true, true, true, true, true, true, true, false, false, false, false, false, false, false, false, false, false, false, false, false, false, false, false, false, false, false, false, false] rfl rfl (by kernel_rfl) (fun _ _ _ h => h) (Or.inl ⟨by rfl, ?_⟩) ?_ ?_
        rotate_left
        · intro w'; go_simp; with_reducible rfl
        rotate_left
        · simp only [Act.put, List.setIfInBounds_toArray, List.set_cons_zero, List.set_cons_succ, i64_w, i32_w]; rfl
        refine pure_ (i := 7) (N := some 15) (v := ?_) (a' := ?_) #[true, true, true, true, true, true, true, true, false, false, false, false, false, false, false, false, false, false, false, false, false, false, false, false, false, false, false, false] rfl rfl (by kernel_rfl) (fun _ _ _ h => h) (Or.inl ⟨by rfl, ?_⟩) ?_ ?_
        rotate_left
        · intro w'; go_simp; with_reducible rfl
        rotate_left
        · simp only [Act.put, List.setIfInBounds_toArray, List.set_cons_zero, List.set_cons_succ, i64_w, i32_w]; rfl
        refine pure_ (i := 8) (N := some 16) (v := ?_) (a' := ?_) #[true, true, true, true, true, true, true, true, true, false, false, false, false, false, false, false, false, false, false, false, false, false, false, false, false, false, false, false] rfl rfl (by kernel_rfl) (fun _ _ _ h => h) (Or.inl ⟨by rfl, ?_⟩) ?_ ?_
        rotate_left
        · intro w'; go_simp; with_reducible rfl
        rotate_left
        · simp only [Act.put, List.setIfInBounds_toArray, List.set_cons_zero, List.set_cons_succ, i64_w, i32_w]; rfl
        refine take_ (i := 9) (N := some 17) (v := ?_) (a' := ?_) #[true, true, true, true, true, true, true, true, true, true, false, false, false, false, false, false, false, false, false, false, false, false, false, false, false, false, false, false] rfl rfl (by kernel_rfl) (fun _ _ _ h => h) (Or.inl ⟨by rfl, ?_⟩) hHeld ?_ ?_
        rotate_left
        · rintro w' ⟨s0, s1, s2, s3, s4, s5, s6, s7, s8⟩; go_simp; with_reducible rfl
        rotate_left
        · simp only [Act.put, List.setIfInBounds_toArray, List.set_cons_zero, List.set_cons_succ, i64_w, i32_w]; rfl
        refine pure_ (i := 10) (N := some 18) (v := ?_) (a' := ?_) #[true, true, true, true, true, true, true, true, true, true, true, false, false, false, false, false, false, false, false, false, false, false, false, false, false, false, false, false] rfl rfl (by kernel_rfl) (fun _ _ _ h => h) (Or.inl ⟨by rfl, ?_⟩) ?_ ?_
        rotate_left
        · intro w'; go_simp; with_reducible rfl
        rotate_left
        · simp only [Act.put, List.setIfInBounds_toArray, List.set_cons_zero, List.set_cons_succ, i64_w, i32_w]; rfl
        refine pure_ (i := 11) (N := some 19) (v := ?_) (a' := ?_) #[true, true, true, true, true, true, true, true, true, true, true, true, false, false, false, false, false, false, false, false, false, false, false, false, false, false, false, false] rfl rfl (by kernel_rfl) (fun _ _ _ h => h) (Or.inl ⟨by rfl, ?_⟩) ?_ ?_
        rotate_left
        · intro w'; go_simp; with_reducible rfl
        rotate_left
        · simp only [Act.put, List.setIfInBounds_toArray, List.set_cons_zero, List.set_cons_succ, i64_w, i32_w]; rfl
        refine pure_ (i := 12) (N := some 20) (v := ?_) (a' := ?_) #[true, true, true, true, true, true, true, true, true, true, true, true, true, false, false, false, false, false, false, false, false, false, false, false, false, false, false, false] rfl rfl (by kernel_rfl) (fun _ _ _ h => h) (Or.inl ⟨by rfl, ?_⟩) ?_ ?_
        rotate_left
        · intro w'; go_simp; with_reducible rfl
        rotate_left
        · simp only [Act.put, List.setIfInBounds_toArray, List.set_cons_zero, List.set_cons_succ, i64_w, i32_w]; rfl
        refine pure_ (i := 13) (N := some 21) (v := ?_) (a' := ?_) #[true, true, true, true, true, true, true, true, true, true, true, true, true, true, false, false, false, false, false, false, false, false, false, false, false, false, false, false] rfl rfl (by kernel_rfl) (fun _ _ _ h => h) (Or.inl ⟨by rfl, ?_⟩) ?_ ?_
        rotate_left
        · intro w'; go_simp; with_reducible rfl
        rotate_left
        · simp only [Act.put, List.setIfInBounds_toArray, List.set_cons_zero, List.set_cons_succ, i64_w, i32_w]; rfl
        refine take_ (i := 14) (N := some 22) (v := ?_) (a' := ?_) #[true, true, true, true, true, true, true, true, true, true, true, true, true, true, true, false, false, false, false, false, false, false, false, false, false, false, false, false] rfl rfl (by kernel_rfl) (fun _ _ _ h => h) (Or.inl ⟨by rfl, ?_⟩) hHeld ?_ ?_
        rotate_left
        · rintro w' ⟨s0, s1, s2, s3, s4, s5, s6, s7, s8⟩; go_simp; with_reducible rfl
        rotate_left
        · simp only [Act.put, List.setIfInBounds_toArray, List.set_cons_zero, List.set_cons_succ, i64_w, i32_w]; rfl
        refine pure_ (i := 15) (N := some 23) (v := ?_) (a' := ?_) #[true, true, true, true, true, true, true, true, true, true, true, true, true, true, true, true, false, false, false, false, false, false, false, false, false, false, false, false] rfl rfl (by kernel_rfl) (fun _ _ _ h => h) (Or.inl ⟨by rfl, ?_⟩) ?_ ?_
        rotate_left
        · intro w'; go_simp; with_reducible rfl
        rotate_left
        · simp only [Act.put, List.setIfInBounds_toArray, List.set_cons_zero, List.set_cons_succ, i64_w, i32_w]; rfl
        refine pure_ (i := 16) (N := some 24) (v := ?_) (a' := ?_) #[true, true, true, true, true, true, true, true, true, true, true, true, true, true, true, true, true, false, false, false, false, false, false, false, false, false, false, false] rfl rfl (by kernel_rfl) (fun _ _ _ h => h) (Or.inl ⟨by rfl, ?_⟩) ?_ ?_
        rotate_left
        · intro w'; go_simp; with_reducible rfl
        rotate_left
        · simp only [Act.put, List.setIfInBounds_toArray, List.set_cons_zero, List.set_cons_succ, i64_w, i32_w]; rfl
        refine pure_ (i := 17) (N := some 25) (v := ?_) (a' := ?_) #[true, true, true, true, true, true, true, true, true, true, true, true, true, true, true, true, true, true, false, false, false, false, false, false, false, false, false, false] rfl rfl (by kernel_rfl) (fun _ _ _ h => h) (Or.inl ⟨by rfl, ?_⟩) ?_ ?_
        rotate_left
        · intro w'; go_simp; with_reducible rfl
        rotate_left
        · simp only [Act.put, List.setIfInBounds_toArray, List.set_cons_zero, List.set_cons_succ, i64_w, i32_w]; rfl
        refine pure_ (i := 18) (N := some 26) (v := ?_) (a' := ?_) #[true, true, true, true, true, true, true, true, true, true, true, true, true, true, true, true, true, true, true, false, false, false, false, false, false, false, false, false] rfl rfl (by kernel_rfl) (fun _ _ _ h => h) (Or.inl ⟨by rfl, ?_⟩) ?_ ?_
        rotate_left
        · intro w'; go_simp; with_reducible rfl
        rotate_left
        · simp only [Act.put, List.setIfInBounds_toArray, List.set_cons_zero, List.set_cons_succ, i64_w, i32_w]; rfl
        refine take_ (i := 19) (N := some 27) (v := ?_) (a' := ?_) #[true, true, true, true, true, true, true, true, true, true, true, true, true, true, true, true, true, true, true, true, false, false, false, false, false, false, false, false] rfl rfl (by kernel_rfl) (fun _ _ _ h => h) (Or.inl ⟨by rfl, ?_⟩) hHeld ?_ ?_
        rotate_left
        · rintro w' ⟨s0, s1, s2, s3, s4, s5, s6, s7, s8⟩; go_simp; with_reducible rfl
        rotate_left
        · simp only [Act.put, List.setIfInBounds_toArray, List.set_cons_zero, List.set_cons_succ, i64_w, i32_w]; rfl
        refine pure_ (i := 20) (N := some 28) (v := ?_) (a' := ?_) #[true, true, true, true, true, true, true, true, true, true, true, true, true, true, true, true, true, true, true, true, true, false, false, false, false, false, false, false] rfl rfl (by kernel_rfl) (fun _ _ _ h => h) (Or.inl ⟨by rfl, ?_⟩) ?_ ?_
        rotate_left
        · intro w'; go_simp; with_reducible rfl
        rotate_left
        · simp only [Act.put, List.setIfInBounds_toArray, List.set_cons_zero, List.set_cons_succ, i64_w, i32_w]; rfl
        refine pure_ (i := 21) (N := some 29) (v := ?_) (a' := ?_) #[true, true, true, true, true, true, true, true, true, true, true, true, true, true, true, true, true, true, true, true, true, true, false, false, false, false, false, false] rfl rfl (by kernel_rfl) (fun _ _ _ h => h) (Or.inl ⟨by rfl, ?_⟩) ?_ ?_
        rotate_left
        · intro w'; go_simp; with_reducible rfl
        rotate_left
        · simp only [Act.put, List.setIfInBounds_toArray, List.set_cons_zero, List.set_cons_succ, i64_w, i32_w]; rfl
        refine pure_ (i := 22) (N := some 30) (v := ?_) (a' := ?_) #[true, true, true, true, true, true, true, true, true, true, true, true, true, true, true, true, true, true, true, true, true, true, true, false, false, false, false, false] rfl rfl (by kernel_rfl) (fun _ _ _ h => h) (Or.inl ⟨by rfl, ?_⟩) ?_ ?_
        rotate_left
        · intro w'; go_simp; with_reducible rfl
        rotate_left
        · simp only [Act.put, List.setIfInBounds_toArray, List.set_cons_zero, List.set_cons_succ, i64_w, i32_w]; rfl
        refine pure_ (i := 23) (N := some 31) (v := ?_) (a' := ?_) #[true, true, true, true, true, true, true, true, true, true, true, true, true, true, true, true, true, true, true, true, true, true, true, true, false, false, false, false] rfl rfl (by kernel_rfl) (fun _ _ _ h => h) (Or.inl ⟨by rfl, ?_⟩) ?_ ?_
        rotate_left
        · intro w'; go_simp; with_reducible rfl
        rotate_left
        · simp only [Act.put, List.setIfInBounds_toArray, List.set_cons_zero, List.set_cons_succ, i64_w, i32_w]; rfl
        refine take_ (i := 24) (N := some 32) (v := ?_) (a' := ?_) #[true, true, true, true, true, true, true, true, true, true, true, true, true, true, true, true, true, true, true, true, true, true, true, true, true, false, false, false] rfl rfl (by kernel_rfl) (fun _ _ _ h => h) (Or.inl ⟨by rfl, ?_⟩) hHeld ?_ ?_
        rotate_left
        · rintro w' ⟨s0, s1, s2, s3, s4, s5, s6, s7, s8⟩; go_simp; with_reducible rfl
        rotate_left
        · simp only [Act.put, List.setIfInBounds_toArray, List.set_cons_zero, List.set_cons_succ, i64_w, i32_w]; rfl
        refine pure_ (i := 25) (N := some 33) (v := ?_) (a' := ?_) #[true, true, true, true, true, true, true, true, true, true, true, true, true, true, true, true, true, true, true, true, true, true, true, true, true, true, false, false] rfl rfl (by kernel_rfl) (fun _ _ _ h => h) (Or.inl ⟨by rfl, ?_⟩) ?_ ?_
        rotate_left
        · intro w'; go_simp; with_reducible rfl
        rotate_left
        · simp only [Act.put, List.setIfInBounds_toArray, List.set_cons_zero, List.set_cons_succ, i64_w, i32_w]; rfl
        refine pure_ (i := 26) (N := some 34) (v := ?_) (a' := ?_) #[true, true, true, true, true, true, true, true, true, true, true, true, true, true, true, true, true, true, true, true, true, true, true, true, true, true, true, false] rfl rfl (by kernel_rfl) (fun _ _ _ h => h) (Or.inl ⟨by rfl, ?_⟩) ?_ ?_
        rotate_left
        · intro w'; go_simp; with_reducible rfl
        rotate_left
        · simp only [Act.put, List.setIfInBounds_toArray, List.set_cons_zero, List.set_cons_succ, i64_w, i32_w]; rfl
        refine pure_ (i := 27) (N := some 7) (v := ?_) (a' := ?_) #[true, true, true, true, true, true, true, true, true, true, true, true, true, true, true, true, true, true, true, true, true, true, true, true, true, true, true, true] rfl rfl (by kernel_rfl) (fun _ _ _ h => h) (Or.inl ⟨by rfl, ?_⟩) ?_ ?_
        rotate_left
        · intro w'; go_simp; with_reducible rfl
        rotate_left
        · simp only [Act.put, List.setIfInBounds_toArray, List.set_cons_zero, List.set_cons_succ, i64_w, i32_w]; rfl
        refine done_ (by kernel_rfl) ?_
        go_wp2
        have y2 : W2.cell? ⟨w.heap.size, 2, none⟩ = some (.int .i64 p.f2) := (blk_cell HP2.out 2).trans rfl
        have y3 : W2.cell? ⟨w.heap.size, 3, none⟩ = some (.int .i64 p.f3) := (blk_cell HP2.out 3).trans rfl
        have z1 : W2.cell? ⟨g, 1, none⟩ = some (.int .i64 l.x.f1) := (blk_cell HG2.out 1).trans rfl
        have z3 : W2.cell? ⟨g, 3, none⟩ = some (.int .i64 l.x.f3) := (blk_cell HG2.out 3).trans rfl
        by_cases h3 : p.f2 = l.x.f3
        · have n3 : (p.f2 != l.x.f3) = false := by rw [h3]; simp
          by_cases h4 : p.f3 = l.x.f1
          · have n4 : (p.f3 != l.x.f1) = false := by rw [h4]; simp
            have HE := Aside0.mk (show tkE l p = 0 by unfold tkE; rw [if_pos ⟨HOK.out, H1.out, H2.out⟩, if_pos ⟨h3, h4⟩])
            clear h3 h4
            go_quiet (fail)
            obtain ⟨W, hW⟩ : ∃ W, W = W2.drewN nq := ⟨_, rfl⟩
            rw [← hW]
            have HBW := Aside0.mk (show Below w.heap.size w W by rw [hW]; exact pw_below_drewN HB2.out _)
            have HPW := Aside0.mk (show W.heap[w.heap.size]? = some (.cells #[.int .i64 p.f0, .int .i64 p.f1, .int .i64 p.f2, .int .i64 p.f3, .int .i64 p.f4, .int .i64 p.f5, .string p.f6] 28 (0, 0)) by rw [hW]; exact HP2.out)
            clear hW y2 y3 z1 z3 x0 x1 x2 x3 x4 x5 x6 z0 z2 n1 n2 n3 n4 HP2 HB2 HG2
            have HLW := Aside0.mk (HL.out.below HBW.out)
            have x5 : W.cell? ⟨w.heap.size, 5, none⟩ = some (.int .i64 p.f5) := (blk_cell HPW.out 5).trans rfl
            by_cases h5 : p.f4 = 0
            · have n5 : (p.f4 != 0) = false := by rw [h5]; simp
              have H5 := Aside0.mk h5
              clear h5
              go_wp2_with (first
                | ((with_reducible refine gate_dst (N := 57) rfl ?_); refine goesL_ (some 57) rfl rfl Try.func75 (by kernel_rfl) rfl #[.pointer (some ⟨g, 0, none⟩), .int .i64 p.f5] rfl (by first | (simp only [List.map_toArray, List.map_cons, List.map_nil]; rfl) | rfl) ?_; refine (acked_is HLW.out HBd.out p.f5 q2 q3).mono ?_; rintro e W3 ⟨rfl, ⟨v3, hl3, hv3, hm3⟩⟩; have HA := Aside0.mk (And.intro hl3 (And.intro hv3 hm3)); clear hl3 hv3 hm3; have HP3 := Aside0.mk (mods_keep HPW.out HA.out.2.2 (by omega)); have x4 : W3.cell? ⟨w.heap.size, 4, none⟩ = some (.int .i64 p.f4) := (blk_cell HP3.out 4).trans rfl; refine ⟨_, rfl, ?_⟩)
                | ((with_reducible refine gate_dst (N := 68) rfl ?_); refine goesL_ (some 68) rfl rfl Try.func74 (by kernel_rfl) rfl #[.pointer (some ⟨g, 0, none⟩)] rfl (by first | (simp only [List.map_toArray, List.map_cons, List.map_nil]; rfl) | rfl) ?_; refine (goOut_is HA.out.1 (HBd.out.ack p.f5)).mono ?_; rintro e W5 ⟨o, rfl, ho5, hg5, hm5⟩; have HO5 := Aside0.mk (And.intro ho5 (And.intro hg5 hm5)); clear ho5 hg5 hm5; have HP5 := Aside0.mk (mods_keep HP3.out HO5.out.2.2 (by omega)); clear x4; have x4 : W5.cell? ⟨w.heap.size, 4, none⟩ = some (.int .i64 p.f4) := (blk_cell HP5.out 4).trans rfl; refine ⟨_, rfl, ?_⟩))
              go_ret3
              exact take_end0 HE.out H5.out HBW.out HA.out HO5.out
            · have n5 : (p.f4 != 0) = true := bne_iff_ne.mpr h5
              have H5 := Aside0.mk h5
              have hmlt : m < w.heap.size := HL.out.er.lt
              obtain ⟨l2, hl2⟩ : ∃ l2, l2 = cameL (ack l p.f5) p.f4 p.f6 := ⟨_, rfl⟩
              have HBd2 := Aside0.mk (show Bd l2 by rw [hl2]; exact (HBd.out.ack p.f5).came h9 _ _)
              have H2E := Aside0.mk (show tk2 l p = l2 by rw [hl2]; exact if_neg h5)
              have HL2 := Aside0.mk hl2
              clear h5 hl2
              by_cases h6 : (goP l2).length = 0
              · have n6 : (((goP l2).length : Int) == 0) = true := by rw [h6]; rfl
                have n7 : ((goP l2).length == 0) = true := by rw [h6]; rfl
                have H6 := Aside0.mk h6
                clear h6
                go_wp2_with (first
                  | ((with_reducible refine gate_dst (N := 57) rfl ?_); refine goesL_ (some 57) rfl rfl Try.func75 (by kernel_rfl) rfl #[.pointer (some ⟨g, 0, none⟩), .int .i64 p.f5] rfl (by first | (simp only [List.map_toArray, List.map_cons, List.map_nil]; rfl) | rfl) ?_; refine (acked_is HLW.out HBd.out p.f5 q2 q3).mono ?_; rintro e W3 ⟨rfl, ⟨v3, hl3, hv3, hm3⟩⟩; have HA := Aside0.mk (And.intro hl3 (And.intro hv3 hm3)); clear hl3 hv3 hm3; have HP3 := Aside0.mk (mods_keep HPW.out HA.out.2.2 (by omega)); have x4 : W3.cell? ⟨w.heap.size, 4, none⟩ = some (.int .i64 p.f4) := (blk_cell HP3.out 4).trans rfl; have x6 : W3.cell? ⟨w.heap.size, 6, none⟩ = some (.string p.f6) := (blk_cell HP3.out 6).trans rfl; refine ⟨_, rfl, ?_⟩)
                  | ((with_reducible refine gate_dst (N := 66) rfl ?_); refine goesL_ (some 66) rfl rfl Try.func76 (by kernel_rfl) rfl #[.pointer (some ⟨g, 0, none⟩), .int .i64 p.f4, .string p.f6] rfl (by first | (simp only [List.map_toArray, List.map_cons, List.map_nil]; rfl) | rfl) ?_; refine (came_is HA.out.1 (HBd.out.ack p.f5) p.f4 p.f6 q0 q1 q4).mono ?_; rintro e W4 ⟨t, rfl, ht4, hl4, hm4⟩; have HC4 := Aside0.mk (And.intro ht4 (And.intro hl4 hm4)); clear ht4 hl4 hm4; have HP4 := Aside0.mk (mods_keep2 HP3.out HC4.out.2.2 (by omega) (by omega)); clear x4 x6; have x4 : W4.cell? ⟨w.heap.size, 4, none⟩ = some (.int .i64 p.f4) := (blk_cell HP4.out 4).trans rfl; refine ⟨_, rfl, ?_⟩)
                  | ((with_reducible refine gate_dst (N := 68) rfl ?_); refine goesL_ (some 68) rfl rfl Try.func74 (by kernel_rfl) rfl #[.pointer (some ⟨g, 0, none⟩)] rfl (by first | (simp only [List.map_toArray, List.map_cons, List.map_nil]; rfl) | rfl) ?_; refine (goOut_is (l := l2) (by rw [HL2.out]; exact HC4.out.2.1) HBd2.out).mono ?_; rintro e W5 ⟨o, rfl, ho5, hg5, hm5⟩; obtain ⟨Ao, co, rfl⟩ := Kd.R_slice ho5; have HO5 := Aside0.mk (And.intro ho5 (And.intro hg5 hm5)); clear ho5 hg5 hm5; have HT5 := Aside0.mk (take_mid (o := .slice Ao (goP l2).length co) HE.out H5.out HBW.out HA.out HC4.out (by rw [← HL2.out]; exact HO5.out)); rw [H2E.out] at HT5; have HP5 := Aside0.mk (mods_keep HP4.out HO5.out.2.2 (by omega)); clear x4; have x4 : W5.cell? ⟨w.heap.size, 4, none⟩ = some (.int .i64 p.f4) := (blk_cell HP5.out 4).trans rfl; refine ⟨_, rfl, ?_⟩)
                  | ((with_reducible refine gate_dst (N := 79) rfl ?_); refine goesL_ (some 79) rfl rfl Try.func77 (by kernel_rfl) rfl #[.pointer (some ⟨g, 0, none⟩), .int .i64 0, .string ⟨#[]⟩] rfl (by first | (simp only [List.map_toArray, List.map_cons, List.map_nil]; rfl) | rfl) ?_; refine (packet_o (l := l2) (max l2.out (min 8 l2.q.length)) HO5.out.2.1 (Int.le_trans (by decide) HBd2.out.w1) HBd2.out.w2 0 e0 (pkt l2 0 e0) rfl).mono ?_; rintro e W6 ⟨rfl, hb6⟩; have HB6 := Aside0.mk hb6; clear hb6; refine ⟨_, rfl, ?_⟩)
                  | ((with_reducible refine gate_dst (N := 80) rfl ?_); refine Kd.event_run rfl (v := .slice (some ⟨W6.heap.size, 0, none⟩) 1 1) (w1 := W6.alloc (.cells (pk (pkt l2 0 e0)).toArray 28 (0, 0))) (by go_simp; rfl) ?_)
                  | ((with_reducible refine gate_dst (N := 81) rfl ?_); at_builtin; refine Kd.R_append k28 (w0 := W6) w.heap.size rfl (.tmp 77) (.tmp 80) 50 28 (.agg #[.int .i64 0, .int .i64 0, .int .i64 0, .int .i64 0, .int .i64 0, .int .i64 0, .string ⟨#[]⟩]) 64 rfl Try.underlying50 info28p rfl (by decide) (by omega) (.slice Ao (goP l2).length co) (goP l2) (pkt l2 0 e0) (pk (pkt l2 0 e0)) (fun _ => True) (fun _ => False) rfl rfl (pk_M _ _ _ _) (fun _ hk => hk.elim) (fun _ _ => trivial) (Kd.R_below HT5.out.2.2 HB6.out) (Below.refl _ _) (Nat.le_trans HT5.out.1.mods.size HB6.out.size) (by rw [H6.out]; decide) ?_; intro v7 W7 ho7 hb7 hg7 hat7; have HO7 := Aside0.mk (And.intro ho7 (And.intro hg7 hat7)); clear ho7 hb7 hg7 hat7))
                go_ret3
                exact take_end1 HE.out H5.out H2E.out H6.out HT5.out HB6.out HO7.out
              · have n6 : (((goP l2).length : Int) == 0) = false := by simpa using h6
                have n7 : ((goP l2).length == 0) = false := by simpa using h6
                have H6 := Aside0.mk h6
                clear h6
                go_wp2_with (first
                  | ((with_reducible refine gate_dst (N := 57) rfl ?_); refine goesL_ (some 57) rfl rfl Try.func75 (by kernel_rfl) rfl #[.pointer (some ⟨g, 0, none⟩), .int .i64 p.f5] rfl (by first | (simp only [List.map_toArray, List.map_cons, List.map_nil]; rfl) | rfl) ?_; refine (acked_is HLW.out HBd.out p.f5 q2 q3).mono ?_; rintro e W3 ⟨rfl, ⟨v3, hl3, hv3, hm3⟩⟩; have HA := Aside0.mk (And.intro hl3 (And.intro hv3 hm3)); clear hl3 hv3 hm3; have HP3 := Aside0.mk (mods_keep HPW.out HA.out.2.2 (by omega)); have x4 : W3.cell? ⟨w.heap.size, 4, none⟩ = some (.int .i64 p.f4) := (blk_cell HP3.out 4).trans rfl; have x6 : W3.cell? ⟨w.heap.size, 6, none⟩ = some (.string p.f6) := (blk_cell HP3.out 6).trans rfl; refine ⟨_, rfl, ?_⟩)
                  | ((with_reducible refine gate_dst (N := 66) rfl ?_); refine goesL_ (some 66) rfl rfl Try.func76 (by kernel_rfl) rfl #[.pointer (some ⟨g, 0, none⟩), .int .i64 p.f4, .string p.f6] rfl (by first | (simp only [List.map_toArray, List.map_cons, List.map_nil]; rfl) | rfl) ?_; refine (came_is HA.out.1 (HBd.out.ack p.f5) p.f4 p.f6 q0 q1 q4).mono ?_; rintro e W4 ⟨t, rfl, ht4, hl4, hm4⟩; have HC4 := Aside0.mk (And.intro ht4 (And.intro hl4 hm4)); clear ht4 hl4 hm4; have HP4 := Aside0.mk (mods_keep2 HP3.out HC4.out.2.2 (by omega) (by omega)); clear x4 x6; have x4 : W4.cell? ⟨w.heap.size, 4, none⟩ = some (.int .i64 p.f4) := (blk_cell HP4.out 4).trans rfl; refine ⟨_, rfl, ?_⟩)
                  | ((with_reducible refine gate_dst (N := 68) rfl ?_); refine goesL_ (some 68) rfl rfl Try.func74 (by kernel_rfl) rfl #[.pointer (some ⟨g, 0, none⟩)] rfl (by first | (simp only [List.map_toArray, List.map_cons, List.map_nil]; rfl) | rfl) ?_; refine (goOut_is (l := l2) (by rw [HL2.out]; exact HC4.out.2.1) HBd2.out).mono ?_; rintro e W5 ⟨o, rfl, ho5, hg5, hm5⟩; obtain ⟨Ao, co, rfl⟩ := Kd.R_slice ho5; have HO5 := Aside0.mk (And.intro ho5 (And.intro hg5 hm5)); clear ho5 hg5 hm5; have HT5 := Aside0.mk (take_mid (o := .slice Ao (goP l2).length co) HE.out H5.out HBW.out HA.out HC4.out (by rw [← HL2.out]; exact HO5.out)); rw [H2E.out] at HT5; have HP5 := Aside0.mk (mods_keep HP4.out HO5.out.2.2 (by omega)); clear x4; have x4 : W5.cell? ⟨w.heap.size, 4, none⟩ = some (.int .i64 p.f4) := (blk_cell HP5.out 4).trans rfl; refine ⟨_, rfl, ?_⟩))
                go_ret3
                exact take_end2 HE.out H5.out H2E.out H6.out HT5.out
          · have n4 : (p.f3 != l.x.f1) = true := bne_iff_ne.mpr h4
            have HE := Aside0.mk (show tkE l p = 4 by unfold tkE; rw [if_pos ⟨HOK.out, H1.out, H2.out⟩, if_neg (fun e => h4 e.2)])
            clear h3 h4
            go_quiet (fail)
            go_wp2
            go_ret3
            exact take_no HL.out (pw_below_drewN HB2.out _) HE.out (by decide)
        · have n3 : (p.f2 != l.x.f3) = true := bne_iff_ne.mpr h3
          have HE := Aside0.mk (show tkE l p = 4 by unfold tkE; rw [if_pos ⟨HOK.out, H1.out, H2.out⟩, if_neg (fun e => h3 e.1)])
          clear h3
          go_quiet (fail)
          go_wp2
          go_ret3
          exact take_no HL.out (pw_below_drewN HB2.out _) HE.out (by decide)
      · have n1 : (p.f0 != l.x.f2) = false := by rw [h1]; simp
        have n2 : (p.f1 != l.x.f0) = true := bne_iff_ne.mpr h2
        have HE := Aside0.mk (show tkE l p = 1 by unfold tkE; rw [if_neg (fun e => h2 e.2.2)])
        clear h1 h2
        go_enter Try.func39, Try.ntmps39
        go_wp2
        rw [← HW.out]
        have x0 : World.cell? w1.drew ⟨w.heap.size, 0, none⟩ = some (.int .i64 p.f0) := (blk_cell HP1.out 0).trans rfl
        have x1 : World.cell? w1.drew ⟨w.heap.size, 1, none⟩ = some (.int .i64 p.f1) := (blk_cell HP1.out 1).trans rfl
        have x2 : World.cell? w1.drew ⟨w.heap.size, 2, none⟩ = some (.int .i64 p.f2) := (blk_cell HP1.out 2).trans rfl
        have x3 : World.cell? w1.drew ⟨w.heap.size, 3, none⟩ = some (.int .i64 p.f3) := (blk_cell HP1.out 3).trans rfl
        have x4 : World.cell? w1.drew ⟨w.heap.size, 4, none⟩ = some (.int .i64 p.f4) := (blk_cell HP1.out 4).trans rfl
        have x5 : World.cell? w1.drew ⟨w.heap.size, 5, none⟩ = some (.int .i64 p.f5) := (blk_cell HP1.out 5).trans rfl
        have x6 : World.cell? w1.drew ⟨w.heap.size, 6, none⟩ = some (.string p.f6) := (blk_cell HP1.out 6).trans rfl
        have z0 : World.cell? w1.drew ⟨g, 0, none⟩ = some (.int .i64 l.x.f0) := (blk_cell HG1.out 0).trans rfl
        have z2 : World.cell? w1.drew ⟨g, 2, none⟩ = some (.int .i64 l.x.f2) := (blk_cell HG1.out 2).trans rfl
        refine start_ (n := 28) (S := fun w' => w'.cell? ⟨w.heap.size, 0, none⟩ = some (.int .i64 p.f0) ∧ w'.cell? ⟨w.heap.size, 1, none⟩ = some (.int .i64 p.f1) ∧ w'.cell? ⟨w.heap.size, 2, none⟩ = some (.int .i64 p.f2) ∧ w'.cell? ⟨w.heap.size, 3, none⟩ = some (.int .i64 p.f3) ∧ w'.cell? ⟨w.heap.size, 4, none⟩ = some (.int .i64 p.f4) ∧ w'.cell? ⟨w.heap.size, 5, none⟩ = some (.int .i64 p.f5) ∧ w'.cell? ⟨w.heap.size, 6, none⟩ = some (.string p.f6) ∧ w'.cell? ⟨g, 0, none⟩ = some (.int .i64 l.x.f0) ∧ w'.cell? ⟨g, 2, none⟩ = some (.int .i64 l.x.f2)) (ds := []) #[false, false, false, false, false, false, false, false, false, false, false, false, false, false, false, false, false, false, false, false, false, false, false, false, false, false, false, false] (by kernel_rfl) rfl rfl ⟨x0, x1, x2, x3, x4, x5, x6, z0, z2⟩ (fun hHeld => ?_)
        refine pure_ (i := 0) (N := some 8) (v := ?_) (a' := ?_) #[true, false, false, false, false, false, false, false, false, false, false, false, false, false, false, false, false, false, false, false, false, false, false, false, false, false, false, false] rfl rfl (by kernel_rfl) (fun _ _ _ h => h) (Or.inl ⟨by rfl, ?_⟩) ?_ ?_
        rotate_left
        · intro w'; go_simp; with_reducible rfl
        rotate_left
        · simp only [Act.put, List.setIfInBounds_toArray, List.set_cons_zero, List.set_cons_succ, i64_w, i32_w]; rfl
        refine pure_ (i := 1) (N := some 9) (v := ?_) (a' := ?_) #[true, true, false, false, false, false, false, false, false, false, false, false, false, false, false, false, false, false, false, false, false, false, false, false, false, false, false, false] rfl rfl (by kernel_rfl) (fun _ _ _ h => h) (Or.inl ⟨by rfl, ?_⟩) ?_ ?_
        rotate_left
        · intro w'; go_simp; with_reducible rfl
        rotate_left
        · simp only [Act.put, List.setIfInBounds_toArray, List.set_cons_zero, List.set_cons_succ, i64_w, i32_w]; rfl
        refine pure_ (i := 2) (N := some 10) (v := ?_) (a' := ?_) #[true, true, true, false, false, false, false, false, false, false, false, false, false, false, false, false, false, false, false, false, false, false, false, false, false, false, false, false] rfl rfl (by kernel_rfl) (fun _ _ _ h => h) (Or.inl ⟨by rfl, ?_⟩) ?_ ?_
        rotate_left
        · intro w'; go_simp; with_reducible rfl
        rotate_left
        · simp only [Act.put, List.setIfInBounds_toArray, List.set_cons_zero, List.set_cons_succ, i64_w, i32_w]; rfl
        refine take_ (i := 3) (N := some 11) (v := ?_) (a' := ?_) #[true, true, true, true, false, false, false, false, false, false, false, false, false, false, false, false, false, false, false, false, false, false, false, false, false, false, false, false] rfl rfl (by kernel_rfl) (fun _ _ _ h => h) (Or.inl ⟨by rfl, ?_⟩) hHeld ?_ ?_
        rotate_left
        · rintro w' ⟨s0, s1, s2, s3, s4, s5, s6, s7, s8⟩; go_simp; with_reducible rfl
        rotate_left
        · simp only [Act.put, List.setIfInBounds_toArray, List.set_cons_zero, List.set_cons_succ, i64_w, i32_w]; rfl
        clear x0 x1 x2 x3 x4 x5 x6 z0 z2
        refine one_ (i := 4) (N := some 12) #[true, true, true, true, true, false, false, false, false, false, false, false, false, false, false, false, false, false, false, false, false, false, false, false, false, false, false, false] rfl rfl (by kernel_rfl) (by decide) (fun K hK => ?_)
        refine goes_ Try.func59 (by kernel_rfl) rfl #[.agg #[.int .i64 p.f0, .int .i64 p.f1, .int .i64 p.f2, .int .i64 p.f3, .int .i64 p.f4, .int .i64 p.f5, .string p.f6]] (by rfl) rfl rfl (by first | rfl | (simp only [List.map_toArray, List.map_cons, List.map_nil]; rfl)) ?_
        refine (wire_CheckPacket.calls p.f0 p.f1 p.f2 p.f3 p.f4 p.f5 p.f6 true _ HCK.out).mono ?_
        rintro e W2 ⟨rfl, hb2⟩
        have HB2 := Aside0.mk (HB1.out.trans (hb2.mono HB1.out.size))
        have HP2 := Aside0.mk (keepB HP1.out hb2)
        clear hb2
        have HG2 := Aside0.mk (HL.out.below HB2.out).blk
        have x0 : World.cell? W2 ⟨w.heap.size, 0, none⟩ = some (.int .i64 p.f0) := (blk_cell HP2.out 0).trans rfl
        have x1 : World.cell? W2 ⟨w.heap.size, 1, none⟩ = some (.int .i64 p.f1) := (blk_cell HP2.out 1).trans rfl
        have x2 : World.cell? W2 ⟨w.heap.size, 2, none⟩ = some (.int .i64 p.f2) := (blk_cell HP2.out 2).trans rfl
        have x3 : World.cell? W2 ⟨w.heap.size, 3, none⟩ = some (.int .i64 p.f3) := (blk_cell HP2.out 3).trans rfl
        have x4 : World.cell? W2 ⟨w.heap.size, 4, none⟩ = some (.int .i64 p.f4) := (blk_cell HP2.out 4).trans rfl
        have x5 : World.cell? W2 ⟨w.heap.size, 5, none⟩ = some (.int .i64 p.f5) := (blk_cell HP2.out 5).trans rfl
        have x6 : World.cell? W2 ⟨w.heap.size, 6, none⟩ = some (.string p.f6) := (blk_cell HP2.out 6).trans rfl
        have z0 : World.cell? W2 ⟨g, 0, none⟩ = some (.int .i64 l.x.f0) := (blk_cell HG2.out 0).trans rfl
        have z2 : World.cell? W2 ⟨g, 2, none⟩ = some (.int .i64 l.x.f2) := (blk_cell HG2.out 2).trans rfl
        refine ⟨_, rfl, hK.out _ _ ⟨x0, x1, x2, x3, x4, x5, x6, z0, z2⟩ (fun hHeld => ?_)⟩
        clear hK K
        refine norm_ (a' := ?_) ?_ ?_
        rotate_left
        · show Act.put _ (some 12) _ = _
          simp only [Act.put, List.setIfInBounds_toArray, List.set_cons_zero, List.set_cons_succ, i64_w, i32_w]
          rfl
        refine pure_ (i := 5) (N := some 13) (v := ?_) (a' := ?_) #[true, true, true, true, true, true, false, false, false, false, false, false, false, false, false, false, false, false, false, false, false, false, false, false, false, false, false, false] rfl rfl (by kernel_rfl) (fun _ _ _ h => h) (Or.inl ⟨by rfl, ?_⟩) ?_ ?_
        rotate_left
        · intro w'; go_simp; with_reducible rfl
        rotate_left
        · simp only [Act.put, List.setIfInBounds_toArray, List.set_cons_zero, List.set_cons_succ, i64_w, i32_w]; rfl
        refine pure_ (i := 6) (N := some 14) (v := ?_) (a' := ?_) #[true, true, true, true, true, true, true, false, false, false, false, false, false, false, false, false, false, false, false, false, false, false, false, false, false, false, false, false] rfl rfl (by kernel_rfl) (fun _ _ _ h => h) (Or.inl ⟨by rfl, ?_⟩) ?_ ?_
        rotate_left
        · intro w'; go_simp; with_reducible rfl
        rotate_left
        · simp only [Act.put, List.setIfInBounds_toArray, List.set_cons_zero, List.set_cons_succ, i64_w, i32_w]; rfl
        refine pure_ (i := 7) (N := some 15) (v := ?_) (a' := ?_) #[true, true, true, true, true, true, true, true, false, false, false, false, false, false, false, false, false, false, false, false, false, false, false, false, false, false, false, false] rfl rfl (by kernel_rfl) (fun _ _ _ h => h) (Or.inl ⟨by rfl, ?_⟩) ?_ ?_
        rotate_left
        · intro w'; go_simp; with_reducible rfl
        rotate_left
        · simp only [Act.put, List.setIfInBounds_toArray, List.set_cons_zero, List.set_cons_succ, i64_w, i32_w]; rfl
        refine pure_ (i := 8) (N := some 16) (v := ?_) (a' := ?_) #[true, true, true, true, true, true, true, true, true, false, false, false, false, false, false, false, false, false, false, false, false, false, false, false, false, false, false, false] rfl rfl (by kernel_rfl) (fun _ _ _ h => h) (Or.inl ⟨by rfl, ?_⟩) ?_ ?_
        rotate_left
        · intro w'; go_simp; with_reducible rfl
        rotate_left
        · simp only [Act.put, List.setIfInBounds_toArray, List.set_cons_zero, List.set_cons_succ, i64_w, i32_w]; rfl
        refine take_ (i := 9) (N := some 17) (v := ?_) (a' := ?_) #[true, true, true, true, true, true, true, true, true, true, false, false, false, false, false, false, false, false, false, false, false, false, false, false, false, false, false, false] rfl rfl (by kernel_rfl) (fun _ _ _ h => h) (Or.inl ⟨by rfl, ?_⟩) hHeld ?_ ?_
        rotate_left
        · rintro w' ⟨s0, s1, s2, s3, s4, s5, s6, s7, s8⟩; go_simp; with_reducible rfl
        rotate_left
        · simp only [Act.put, List.setIfInBounds_toArray, List.set_cons_zero, List.set_cons_succ, i64_w, i32_w]; rfl
        refine pure_ (i := 10) (N := some 18) (v := ?_) (a' := ?_) #[true, true, true, true, true, true, true, true, true, true, true, false, false, false, false, false, false, false, false, false, false, false, false, false, false, false, false, false] rfl rfl (by kernel_rfl) (fun _ _ _ h => h) (Or.inl ⟨by rfl, ?_⟩) ?_ ?_
        rotate_left
        · intro w'; go_simp; with_reducible rfl
        rotate_left
        · simp only [Act.put, List.setIfInBounds_toArray, List.set_cons_zero, List.set_cons_succ, i64_w, i32_w]; rfl
        refine pure_ (i := 11) (N := some 19) (v := ?_) (a' := ?_) #[true, true, true, true, true, true, true, true, true, true, true, true, false, false, false, false, false, false, false, false, false, false, false, false, false, false, false, false] rfl rfl (by kernel_rfl) (fun _ _ _ h => h) (Or.inl ⟨by rfl, ?_⟩) ?_ ?_
        rotate_left
        · intro w'; go_simp; with_reducible rfl
        rotate_left
        · simp only [Act.put, List.setIfInBounds_toArray, List.set_cons_zero, List.set_cons_succ, i64_w, i32_w]; rfl
        refine pure_ (i := 12) (N := some 20) (v := ?_) (a' := ?_) #[true, true, true, true, true, true, true, true, true, true, true, true, true, false, false, false, false, false, false, false, false, false, false, false, false, false, false, false] rfl rfl (by kernel_rfl) (fun _ _ _ h => h) (Or.inl ⟨by rfl, ?_⟩) ?_ ?_
        rotate_left
        · intro w'; go_simp; with_reducible rfl
        rotate_left
        · simp only [Act.put, List.setIfInBounds_toArray, List.set_cons_zero, List.set_cons_succ, i64_w, i32_w]; rfl
        refine pure_ (i := 13) (N := some 21) (v := ?_) (a' := ?_) #[true, true, true, true, true, true, true, true, true, true, true, true, true, true, false, false, false, false, false, false, false, false, false, false, false, false, false, false] rfl rfl (by kernel_rfl) (fun _ _ _ h => h) (Or.inl ⟨by rfl, ?_⟩) ?_ ?_
        rotate_left
        · intro w'; go_simp; with_reducible rfl
        rotate_left
        · simp only [Act.put, List.setIfInBounds_toArray, List.set_cons_zero, List.set_cons_succ, i64_w, i32_w]; rfl
        refine take_ (i := 14) (N := some 22) (v := ?_) (a' := ?_) #[true, true, true, true, true, true, true, true, true, true, true, true, true, true, true, false, false, false, false, false, false, false, false, false, false, false, false, false] rfl rfl (by kernel_rfl) (fun _ _ _ h => h) (Or.inl ⟨by rfl, ?_⟩) hHeld ?_ ?_
        rotate_left
        · rintro w' ⟨s0, s1, s2, s3, s4, s5, s6, s7, s8⟩; go_simp; with_reducible rfl
        rotate_left
        · simp only [Act.put, List.setIfInBounds_toArray, List.set_cons_zero, List.set_cons_succ, i64_w, i32_w]; rfl
        refine pure_ (i := 15) (N := some 23) (v := ?_) (a' := ?_) #[true, true, true, true, true, true, true, true, true, true, true, true, true, true, true, true, false, false, false, false, false, false, false, false, false, false, false, false] rfl rfl (by kernel_rfl) (fun _ _ _ h => h) (Or.inl ⟨by rfl, ?_⟩) ?_ ?_
        rotate_left
        · intro w'; go_simp; with_reducible rfl
        rotate_left
        · simp only [Act.put, List.setIfInBounds_toArray, List.set_cons_zero, List.set_cons_succ, i64_w, i32_w]; rfl
        refine pure_ (i := 16) (N := some 24) (v := ?_) (a' := ?_) #[true, true, true, true, true, true, true, true, true, true, true, true, true, true, true, true, true, false, false, false, false, false, false, false, false, false, false, false] rfl rfl (by kernel_rfl) (fun _ _ _ h => h) (Or.inl ⟨by rfl, ?_⟩) ?_ ?_
        rotate_left
        · intro w'; go_simp; with_reducible rfl
        rotate_left
        · simp only [Act.put, List.setIfInBounds_toArray, List.set_cons_zero, List.set_cons_succ, i64_w, i32_w]; rfl
        refine pure_ (i := 17) (N := some 25) (v := ?_) (a' := ?_) #[true, true, true, true, true, true, true, true, true, true, true, true, true, true, true, true, true, true, false, false, false, false, false, false, false, false, false, false] rfl rfl (by kernel_rfl) (fun _ _ _ h => h) (Or.inl ⟨by rfl, ?_⟩) ?_ ?_
        rotate_left
        · intro w'; go_simp; with_reducible rfl
        rotate_left
        · simp only [Act.put, List.setIfInBounds_toArray, List.set_cons_zero, List.set_cons_succ, i64_w, i32_w]; rfl
        refine pure_ (i := 18) (N := some 26) (v := ?_) (a' := ?_) #[true, true, true, true, true, true, true, true, true, true, true, true, true, true, true, true, true, true, true, false, false, false, false, false, false, false, false, false] rfl rfl (by kernel_rfl) (fun _ _ _ h => h) (Or.inl ⟨by rfl, ?_⟩) ?_ ?_
        rotate_left
        · intro w'; go_simp; with_reducible rfl
        rotate_left
        · simp only [Act.put, List.setIfInBounds_toArray, List.set_cons_zero, List.set_cons_succ, i64_w, i32_w]; rfl
        refine take_ (i := 19) (N := some 27) (v := ?_) (a' := ?_) #[true, true, true, true, true, true, true, true, true, true, true, true, true, true, true, true, true, true, true, true, false, false, false, false, false, false, false, false] rfl rfl (by kernel_rfl) (fun _ _ _ h => h) (Or.inl ⟨by rfl, ?_⟩) hHeld ?_ ?_
        rotate_left
        · rintro w' ⟨s0, s1, s2, s3, s4, s5, s6, s7, s8⟩; go_simp; with_reducible rfl
        rotate_left
        · simp only [Act.put, List.setIfInBounds_toArray, List.set_cons_zero, List.set_cons_succ, i64_w, i32_w]; rfl
        refine pure_ (i := 20) (N := some 28) (v := ?_) (a' := ?_) #[true, true, true, true, true, true, true, true, true, true, true, true, true, true, true, true, true, true, true, true, true, false, false, false, false, false, false, false] rfl rfl (by kernel_rfl) (fun _ _ _ h => h) (Or.inl ⟨by rfl, ?_⟩) ?_ ?_
        rotate_left
        · intro w'; go_simp; with_reducible rfl
        rotate_left
        · simp only [Act.put, List.setIfInBounds_toArray, List.set_cons_zero, List.set_cons_succ, i64_w, i32_w]; rfl
        refine pure_ (i := 21) (N := some 29) (v := ?_) (a' := ?_) #[true, true, true, true, true, true, true, true, true, true, true, true, true, true, true, true, true, true, true, true, true, true, false, false, false, false, false, false] rfl rfl (by kernel_rfl) (fun _ _ _ h => h) (Or.inl ⟨by rfl, ?_⟩) ?_ ?_
        rotate_left
        · intro w'; go_simp; with_reducible rfl
        rotate_left
        · simp only [Act.put, List.setIfInBounds_toArray, List.set_cons_zero, List.set_cons_succ, i64_w, i32_w]; rfl
        refine pure_ (i := 22) (N := some 30) (v := ?_) (a' := ?_) #[true, true, true, true, true, true, true, true, true, true, true, true, true, true, true, true, true, true, true, true, true, true, true, false, false, false, false, false] rfl rfl (by kernel_rfl) (fun _ _ _ h => h) (Or.inl ⟨by rfl, ?_⟩) ?_ ?_
        rotate_left
        · intro w'; go_simp; with_reducible rfl
        rotate_left
        · simp only [Act.put, List.setIfInBounds_toArray, List.set_cons_zero, List.set_cons_succ, i64_w, i32_w]; rfl
        refine pure_ (i := 23) (N := some 31) (v := ?_) (a' := ?_) #[true, true, true, true, true, true, true, true, true, true, true, true, true, true, true, true, true, true, true, true, true, true, true, true, false, false, false, false] rfl rfl (by kernel_rfl) (fun _ _ _ h => h) (Or.inl ⟨by rfl, ?_⟩) ?_ ?_
        rotate_left
        · intro w'; go_simp; with_reducible rfl
        rotate_left
        · simp only [Act.put, List.setIfInBounds_toArray, List.set_cons_zero, List.set_cons_succ, i64_w, i32_w]; rfl
        refine take_ (i := 24) (N := some 32) (v := ?_) (a' := ?_) #[true, true, true, true, true, true, true, true, true, true, true, true, true, true, true, true, true, true, true, true, true, true, true, true, true, false, false, false] rfl rfl (by kernel_rfl) (fun _ _ _ h => h) (Or.inl ⟨by rfl, ?_⟩) hHeld ?_ ?_
        rotate_left
        · rintro w' ⟨s0, s1, s2, s3, s4, s5, s6, s7, s8⟩; go_simp; with_reducible rfl
        rotate_left
        · simp only [Act.put, List.setIfInBounds_toArray, List.set_cons_zero, List.set_cons_succ, i64_w, i32_w]; rfl
        refine pure_ (i := 25) (N := some 33) (v := ?_) (a' := ?_) #[true, true, true, true, true, true, true, true, true, true, true, true, true, true, true, true, true, true, true, true, true, true, true, true, true, true, false, false] rfl rfl (by kernel_rfl) (fun _ _ _ h => h) (Or.inl ⟨by rfl, ?_⟩) ?_ ?_
        rotate_left
        · intro w'; go_simp; with_reducible rfl
        rotate_left
        · simp only [Act.put, List.setIfInBounds_toArray, List.set_cons_zero, List.set_cons_succ, i64_w, i32_w]; rfl
        refine pure_ (i := 26) (N := some 34) (v := ?_) (a' := ?_) #[true, true, true, true, true, true, true, true, true, true, true, true, true, true, true, true, true, true, true, true, true, true, true, true, true, true, true, false] rfl rfl (by kernel_rfl) (fun _ _ _ h => h) (Or.inl ⟨by rfl, ?_⟩) ?_ ?_
        rotate_left
        · intro w'; go_simp; with_reducible rfl
        rotate_left
        · simp only [Act.put, List.setIfInBounds_toArray, List.set_cons_zero, List.set_cons_succ, i64_w, i32_w]; rfl
        refine pure_ (i := 27) (N := some 7) (v := ?_) (a' := ?_) #[true, true, true, true, true, true, true, true, true, true, true, true, true, true, true, true, true, true, true, true, true, true, true, true, true, true, true, true] rfl rfl (by kernel_rfl) (fun _ _ _ h => h) (Or.inl ⟨by rfl, ?_⟩) ?_ ?_
        rotate_left
        · intro w'; go_simp; with_reducible rfl
        rotate_left
        · simp only [Act.put, List.setIfInBounds_toArray, List.set_cons_zero, List.set_cons_succ, i64_w, i32_w]; rfl
        refine done_ (by kernel_rfl) ?_
        go_wp2
        go_ret3
        exact take_no HL.out HB2.out HE.out (by decide)
    · have n1 : (p.f0 != l.x.f2) = true := bne_iff_ne.mpr h1
      have HE := Aside0.mk (show tkE l p = 1 by unfold tkE; rw [if_neg (fun e => h1 e.2.1)])
      clear h1
      go_enter Try.func39, Try.ntmps39
      go_wp2
      rw [← HW.out]
      have x0 : World.cell? w1.drew ⟨w.heap.size, 0, none⟩ = some (.int .i64 p.f0) := (blk_cell HP1.out 0).trans rfl
      have x1 : World.cell? w1.drew ⟨w.heap.size, 1, none⟩ = some (.int .i64 p.f1) := (blk_cell HP1.out 1).trans rfl
      have x2 : World.cell? w1.drew ⟨w.heap.size, 2, none⟩ = some (.int .i64 p.f2) := (blk_cell HP1.out 2).trans rfl
      have x3 : World.cell? w1.drew ⟨w.heap.size, 3, none⟩ = some (.int .i64 p.f3) := (blk_cell HP1.out 3).trans rfl
      have x4 : World.cell? w1.drew ⟨w.heap.size, 4, none⟩ = some (.int .i64 p.f4) := (blk_cell HP1.out 4).trans rfl
      have x5 : World.cell? w1.drew ⟨w.heap.size, 5, none⟩ = some (.int .i64 p.f5) := (blk_cell HP1.out 5).trans rfl
      have x6 : World.cell? w1.drew ⟨w.heap.size, 6, none⟩ = some (.string p.f6) := (blk_cell HP1.out 6).trans rfl
      have z0 : World.cell? w1.drew ⟨g, 0, none⟩ = some (.int .i64 l.x.f0) := (blk_cell HG1.out 0).trans rfl
      have z2 : World.cell? w1.drew ⟨g, 2, none⟩ = some (.int .i64 l.x.f2) := (blk_cell HG1.out 2).trans rfl
      refine start_ (n := 28) (S := fun w' => w'.cell? ⟨w.heap.size, 0, none⟩ = some (.int .i64 p.f0) ∧ w'.cell? ⟨w.heap.size, 1, none⟩ = some (.int .i64 p.f1) ∧ w'.cell? ⟨w.heap.size, 2, none⟩ = some (.int .i64 p.f2) ∧ w'.cell? ⟨w.heap.size, 3, none⟩ = some (.int .i64 p.f3) ∧ w'.cell? ⟨w.heap.size, 4, none⟩ = some (.int .i64 p.f4) ∧ w'.cell? ⟨w.heap.size, 5, none⟩ = some (.int .i64 p.f5) ∧ w'.cell? ⟨w.heap.size, 6, none⟩ = some (.string p.f6) ∧ w'.cell? ⟨g, 0, none⟩ = some (.int .i64 l.x.f0) ∧ w'.cell? ⟨g, 2, none⟩ = some (.int .i64 l.x.f2)) (ds := []) #[false, false, false, false, false, false, false, false, false, false, false, false, false, false, false, false, false, false, false, false, false, false, false, false, false, false, false, false] (by kernel_rfl) rfl rfl ⟨x0, x1, x2, x3, x4, x5, x6, z0, z2⟩ (fun hHeld => ?_)
      refine pure_ (i := 0) (N := some 8) (v := ?_) (a' := ?_) #[true, false, false, false, false, false, false, false, false, false, false, false, false, false, false, false, false, false, false, false, false, false, false, false, false, false, false, false] rfl rfl (by kernel_rfl) (fun _ _ _ h => h) (Or.inl ⟨by rfl, ?_⟩) ?_ ?_
      rotate_left
      · intro w'; go_simp; with_reducible rfl
      rotate_left
      · simp only [Act.put, List.setIfInBounds_toArray, List.set_cons_zero, List.set_cons_succ, i64_w, i32_w]; rfl
      refine pure_ (i := 1) (N := some 9) (v := ?_) (a' := ?_) #[true, true, false, false, false, false, false, false, false, false, false, false, false, false, false, false, false, false, false, false, false, false, false, false, false, false, false, false] rfl rfl (by kernel_rfl) (fun _ _ _ h => h) (Or.inl ⟨by rfl, ?_⟩) ?_ ?_
      rotate_left
      · intro w'; go_simp; with_reducible rfl
      rotate_left
      · simp only [Act.put, List.setIfInBounds_toArray, List.set_cons_zero, List.set_cons_succ, i64_w, i32_w]; rfl
      refine pure_ (i := 2) (N := some 10) (v := ?_) (a' := ?_) #[true, true, true, false, false, false, false, false, false, false, false, false, false, false, false, false, false, false, false, false, false, false, false, false, false, false, false, false] rfl rfl (by kernel_rfl) (fun _ _ _ h => h) (Or.inl ⟨by rfl, ?_⟩) ?_ ?_
      rotate_left
      · intro w'; go_simp; with_reducible rfl
      rotate_left
      · simp only [Act.put, List.setIfInBounds_toArray, List.set_cons_zero, List.set_cons_succ, i64_w, i32_w]; rfl
      refine take_ (i := 3) (N := some 11) (v := ?_) (a' := ?_) #[true, true, true, true, false, false, false, false, false, false, false, false, false, false, false, false, false, false, false, false, false, false, false, false, false, false, false, false] rfl rfl (by kernel_rfl) (fun _ _ _ h => h) (Or.inl ⟨by rfl, ?_⟩) hHeld ?_ ?_
      rotate_left
      · rintro w' ⟨s0, s1, s2, s3, s4, s5, s6, s7, s8⟩; go_simp; with_reducible rfl
      rotate_left
      · simp only [Act.put, List.setIfInBounds_toArray, List.set_cons_zero, List.set_cons_succ, i64_w, i32_w]; rfl
      clear x0 x1 x2 x3 x4 x5 x6 z0 z2
      refine one_ (i := 4) (N := some 12) #[true, true, true, true, true, false, false, false, false, false, false, false, false, false, false, false, false, false, false, false, false, false, false, false, false, false, false, false] rfl rfl (by kernel_rfl) (by decide) (fun K hK => ?_)
      refine goes_ Try.func59 (by kernel_rfl) rfl #[.agg #[.int .i64 p.f0, .int .i64 p.f1, .int .i64 p.f2, .int .i64 p.f3, .int .i64 p.f4, .int .i64 p.f5, .string p.f6]] (by rfl) rfl rfl (by first | rfl | (simp only [List.map_toArray, List.map_cons, List.map_nil]; rfl)) ?_
      refine (wire_CheckPacket.calls p.f0 p.f1 p.f2 p.f3 p.f4 p.f5 p.f6 true _ HCK.out).mono ?_
      rintro e W2 ⟨rfl, hb2⟩
      have HB2 := Aside0.mk (HB1.out.trans (hb2.mono HB1.out.size))
      have HP2 := Aside0.mk (keepB HP1.out hb2)
      clear hb2
      have HG2 := Aside0.mk (HL.out.below HB2.out).blk
      have x0 : World.cell? W2 ⟨w.heap.size, 0, none⟩ = some (.int .i64 p.f0) := (blk_cell HP2.out 0).trans rfl
      have x1 : World.cell? W2 ⟨w.heap.size, 1, none⟩ = some (.int .i64 p.f1) := (blk_cell HP2.out 1).trans rfl
      have x2 : World.cell? W2 ⟨w.heap.size, 2, none⟩ = some (.int .i64 p.f2) := (blk_cell HP2.out 2).trans rfl
      have x3 : World.cell? W2 ⟨w.heap.size, 3, none⟩ = some (.int .i64 p.f3) := (blk_cell HP2.out 3).trans rfl
      have x4 : World.cell? W2 ⟨w.heap.size, 4, none⟩ = some (.int .i64 p.f4) := (blk_cell HP2.out 4).trans rfl
      have x5 : World.cell? W2 ⟨w.heap.size, 5, none⟩ = some (.int .i64 p.f5) := (blk_cell HP2.out 5).trans rfl
      have x6 : World.cell? W2 ⟨w.heap.size, 6, none⟩ = some (.string p.f6) := (blk_cell HP2.out 6).trans rfl
      have z0 : World.cell? W2 ⟨g, 0, none⟩ = some (.int .i64 l.x.f0) := (blk_cell HG2.out 0).trans rfl
      have z2 : World.cell? W2 ⟨g, 2, none⟩ = some (.int .i64 l.x.f2) := (blk_cell HG2.out 2).trans rfl
      refine ⟨_, rfl, hK.out _ _ ⟨x0, x1, x2, x3, x4, x5, x6, z0, z2⟩ (fun hHeld => ?_)⟩
      clear hK K
      refine norm_ (a' := ?_) ?_ ?_
      rotate_left
      · show Act.put _ (some 12) _ = _
        simp only [Act.put, List.setIfInBounds_toArray, List.set_cons_zero, List.set_cons_succ, i64_w, i32_w]
        rfl
      refine pure_ (i := 5) (N := some 13) (v := ?_) (a' := ?_) #[true, true, true, true, true, true, false, false, false, false, false, false, false, false, false, false, false, false, false, false, false, false, false, false, false, false, false, false] rfl rfl (by kernel_rfl) (fun _ _ _ h => h) (Or.inl ⟨by rfl, ?_⟩) ?_ ?_
      rotate_left
      · intro w'; go_simp; with_reducible rfl
      rotate_left
      · simp only [Act.put, List.setIfInBounds_toArray, List.set_cons_zero, List.set_cons_succ, i64_w, i32_w]; rfl
      refine pure_ (i := 6) (N := some 14) (v := ?_) (a' := ?_) #[true, true, true, true, true, true, true, false, false, false, false, false, false, false, false, false, false, false, false, false, false, false, false, false, false, false, false, false] rfl rfl (by kernel_rfl) (fun _ _ _ h => h) (Or.inl ⟨by rfl, ?_⟩) ?_ ?_
      rotate_left
      · intro w'; go_simp; with_reducible rfl
      rotate_left
      · simp only [Act.put, List.setIfInBounds_toArray, List.set_cons_zero, List.set_cons_succ, i64_w, i32_w]; rfl
      refine pure_ (i := 7) (N := some 15) (v := ?_) (a' := ?_) #[true, true, true, true, true, true, true, true, false, false, false, false, false, false, false, false, false, false, false, false, false, false, false, false, false, false, false, false] rfl rfl (by kernel_rfl) (fun _ _ _ h => h) (Or.inl ⟨by rfl, ?_⟩) ?_ ?_
      rotate_left
      · intro w'; go_simp; with_reducible rfl
      rotate_left
      · simp only [Act.put, List.setIfInBounds_toArray, List.set_cons_zero, List.set_cons_succ, i64_w, i32_w]; rfl
      refine pure_ (i := 8) (N := some 16) (v := ?_) (a' := ?_) #[true, true, true, true, true, true, true, true, true, false, false, false, false, false, false, false, false, false, false, false, false, false, false, false, false, false, false, false] rfl rfl (by kernel_rfl) (fun _ _ _ h => h) (Or.inl ⟨by rfl, ?_⟩) ?_ ?_
      rotate_left
      · intro w'; go_simp; with_reducible rfl
      rotate_left
      · simp only [Act.put, List.setIfInBounds_toArray, List.set_cons_zero, List.set_cons_succ, i64_w, i32_w]; rfl
      refine take_ (i := 9) (N := some 17) (v := ?_) (a' := ?_) #[true, true, true, true, true, true, true, true, true, true, false, false, false, false, false, false, false, false, false, false, false, false, false, false, false, false, false, false] rfl rfl (by kernel_rfl) (fun _ _ _ h => h) (Or.inl ⟨by rfl, ?_⟩) hHeld ?_ ?_
      rotate_left
      · rintro w' ⟨s0, s1, s2, s3, s4, s5, s6, s7, s8⟩; go_simp; with_reducible rfl
      rotate_left
      · simp only [Act.put, List.setIfInBounds_toArray, List.set_cons_zero, List.set_cons_succ, i64_w, i32_w]; rfl
      refine pure_ (i := 10) (N := some 18) (v := ?_) (a' := ?_) #[true, true, true, true, true, true, true, true, true, true, true, false, false, false, false, false, false, false, false, false, false, false, false, false, false, false, false, false] rfl rfl (by kernel_rfl) (fun _ _ _ h => h) (Or.inl ⟨by rfl, ?_⟩) ?_ ?_
      rotate_left
      · intro w'; go_simp; with_reducible rfl
      rotate_left
      · simp only [Act.put, List.setIfInBounds_toArray, List.set_cons_zero, List.set_cons_succ, i64_w, i32_w]; rfl
      refine pure_ (i := 11) (N := some 19) (v := ?_) (a' := ?_) #[true, true, true, true, true, true, true, true, true, true, true, true, false, false, false, false, false, false, false, false, false, false, false, false, false, false, false, false] rfl rfl (by kernel_rfl) (fun _ _ _ h => h) (Or.inl ⟨by rfl, ?_⟩) ?_ ?_
      rotate_left
      · intro w'; go_simp; with_reducible rfl
      rotate_left
      · simp only [Act.put, List.setIfInBounds_toArray, List.set_cons_zero, List.set_cons_succ, i64_w, i32_w]; rfl
      refine pure_ (i := 12) (N := some 20) (v := ?_) (a' := ?_) #[true, true, true, true, true, true, true, true, true, true, true, true, true, false, false, false, false, false, false, false, false, false, false, false, false, false, false, false] rfl rfl (by kernel_rfl) (fun _ _ _ h => h) (Or.inl ⟨by rfl, ?_⟩) ?_ ?_
      rotate_left
      · intro w'; go_simp; with_reducible rfl
      rotate_left
      · simp only [Act.put, List.setIfInBounds_toArray, List.set_cons_zero, List.set_cons_succ, i64_w, i32_w]; rfl
      refine pure_ (i := 13) (N := some 21) (v := ?_) (a' := ?_) #[true, true, true, true, true, true, true, true, true, true, true, true, true, true, false, false, false, false, false, false, false, false, false, false, false, false, false, false] rfl rfl (by kernel_rfl) (fun _ _ _ h => h) (Or.inl ⟨by rfl, ?_⟩) ?_ ?_
      rotate_left
      · intro w'; go_simp; with_reducible rfl
      rotate_left
      · simp only [Act.put, List.setIfInBounds_toArray, List.set_cons_zero, List.set_cons_succ, i64_w, i32_w]; rfl
      refine take_ (i := 14) (N := some 22) (v := ?_) (a' := ?_) #[true, true, true, true, true, true, true, true, true, true, true, true, true, true, true, false, false, false, false, false, false, false, false, false, false, false, false, false] rfl rfl (by kernel_rfl) (fun _ _ _ h => h) (Or.inl ⟨by rfl, ?_⟩) hHeld ?_ ?_
      rotate_left
      · rintro w' ⟨s0, s1, s2, s3, s4, s5, s6, s7, s8⟩; go_simp; with_reducible rfl
      rotate_left
      · simp only [Act.put, List.setIfInBounds_toArray, List.set_cons_zero, List.set_cons_succ, i64_w, i32_w]; rfl
      refine pure_ (i := 15) (N := some 23) (v := ?_) (a' := ?_) #[true, true, true, true, true, true, true, true, true, true, true, true, true, true, true, true, false, false, false, false, false, false, false, false, false, false, false, false] rfl rfl (by kernel_rfl) (fun _ _ _ h => h) (Or.inl ⟨by rfl, ?_⟩) ?_ ?_
      rotate_left
      · intro w'; go_simp; with_reducible rfl
      rotate_left
      · simp only [Act.put, List.setIfInBounds_toArray, List.set_cons_zero, List.set_cons_succ, i64_w, i32_w]; rfl
      refine pure_ (i := 16) (N := some 24) (v := ?_) (a' := ?_) #[true, true, true, true, true, true, true, true, true, true, true, true, true, true, true, true, true, false, false, false, false, false, false, false, false, false, false, false] rfl rfl (by kernel_rfl) (fun _ _ _ h => h) (Or.inl ⟨by rfl, ?_⟩) ?_ ?_
      rotate_left
      · intro w'; go_simp; with_reducible rfl
      rotate_left
      · simp only [Act.put, List.setIfInBounds_toArray, List.set_cons_zero, List.set_cons_succ, i64_w, i32_w]; rfl
      refine pure_ (i := 17) (N := some 25) (v := ?_) (a' := ?_) #[true, true, true, true, true, true, true, true, true, true, true, true, true, true, true, true, true, true, false, false, false, false, false, false, false, false, false, false] rfl rfl (by kernel_rfl) (fun _ _ _ h => h) (Or.inl ⟨by rfl, ?_⟩) ?_ ?_
      rotate_left
      · intro w'; go_simp; with_reducible rfl
      rotate_left
      · simp only [Act.put, List.setIfInBounds_toArray, List.set_cons_zero, List.set_cons_succ, i64_w, i32_w]; rfl
      refine pure_ (i := 18) (N := some 26) (v := undef) (a' := ?_) #[true, true, true, true, true, true, true, true, true, true, true, true, true, true, true, true, true, true, true, false, false, false, false, false, false, false, false, false] rfl rfl (by kernel_rfl) (fun _ _ _ h => h) (Or.inr ⟨by rfl, rfl⟩) ?_ ?_
      rotate_left
      · simp only [Act.put, List.setIfInBounds_toArray, List.set_cons_zero, List.set_cons_succ, i64_w, i32_w]; rfl
      refine pure_ (i := 19) (N := some 27) (v := undef) (a' := ?_) #[true, true, true, true, true, true, true, true, true, true, true, true, true, true, true, true, true, true, true, true, false, false, false, false, false, false, false, false] rfl rfl (by kernel_rfl) (fun _ _ _ h => h) (Or.inr ⟨by rfl, rfl⟩) ?_ ?_
      rotate_left
      · simp only [Act.put, List.setIfInBounds_toArray, List.set_cons_zero, List.set_cons_succ, i64_w, i32_w]; rfl
      refine pure_ (i := 20) (N := some 28) (v := undef) (a' := ?_) #[true, true, true, true, true, true, true, true, true, true, true, true, true, true, true, true, true, true, true, true, true, false, false, false, false, false, false, false] rfl rfl (by kernel_rfl) (fun _ _ _ h => h) (Or.inr ⟨by rfl, rfl⟩) ?_ ?_
      rotate_left
      · simp only [Act.put, List.setIfInBounds_toArray, List.set_cons_zero, List.set_cons_succ, i64_w, i32_w]; rfl
      refine pure_ (i := 21) (N := some 29) (v := undef) (a' := ?_) #[true, true, true, true, true, true, true, true, true, true, true, true, true, true, true, true, true, true, true, true, true, true, false, false, false, false, false, false] rfl rfl (by kernel_rfl) (fun _ _ _ h => h) (Or.inr ⟨by rfl, rfl⟩) ?_ ?_
      rotate_left
      · simp only [Act.put, List.setIfInBounds_toArray, List.set_cons_zero, List.set_cons_succ, i64_w, i32_w]; rfl
      refine pure_ (i := 22) (N := some 30) (v := undef) (a' := ?_) #[true, true, true, true, true, true, true, true, true, true, true, true, true, true, true, true, true, true, true, true, true, true, true, false, false, false, false, false] rfl rfl (by kernel_rfl) (fun _ _ _ h => h) (Or.inr ⟨by rfl, rfl⟩) ?_ ?_
      rotate_left
      · simp only [Act.put, List.setIfInBounds_toArray, List.set_cons_zero, List.set_cons_succ, i64_w, i32_w]; rfl
      refine pure_ (i := 23) (N := some 31) (v := undef) (a' := ?_) #[true, true, true, true, true, true, true, true, true, true, true, true, true, true, true, true, true, true, true, true, true, true, true, true, false, false, false, false] rfl rfl (by kernel_rfl) (fun _ _ _ h => h) (Or.inr ⟨by rfl, rfl⟩) ?_ ?_
      rotate_left
      · simp only [Act.put, List.setIfInBounds_toArray, List.set_cons_zero, List.set_cons_succ, i64_w, i32_w]; rfl
      refine pure_ (i := 24) (N := some 32) (v := undef) (a' := ?_) #[true, true, true, true, true, true, true, true, true, true, true, true, true, true, true, true, true, true, true, true, true, true, true, true, true, false, false, false] rfl rfl (by kernel_rfl) (fun _ _ _ h => h) (Or.inr ⟨by rfl, rfl⟩) ?_ ?_
      rotate_left
      · simp only [Act.put, List.setIfInBounds_toArray, List.set_cons_zero, List.set_cons_succ, i64_w, i32_w]; rfl
      refine pure_ (i := 25) (N := some 33) (v := undef) (a' := ?_) #[true, true, true, true, true, true, true, true, true, true, true, true, true, true, true, true, true, true, true, true, true, true, true, true, true, true, false, false] rfl rfl (by kernel_rfl) (fun _ _ _ h => h) (Or.inr ⟨by rfl, rfl⟩) ?_ ?_
      rotate_left
      · simp only [Act.put, List.setIfInBounds_toArray, List.set_cons_zero, List.set_cons_succ, i64_w, i32_w]; rfl
      refine pure_ (i := 26) (N := some 34) (v := ?_) (a' := ?_) #[true, true, true, true, true, true, true, true, true, true, true, true, true, true, true, true, true, true, true, true, true, true, true, true, true, true, true, false] rfl rfl (by kernel_rfl) (fun _ _ _ h => h) (Or.inl ⟨by rfl, ?_⟩) ?_ ?_
      rotate_left
      · intro w'; go_simp; with_reducible rfl
      rotate_left
      · simp only [Act.put, List.setIfInBounds_toArray, List.set_cons_zero, List.set_cons_succ, i64_w, i32_w]; rfl
      refine pure_ (i := 27) (N := some 7) (v := ?_) (a' := ?_) #[true, true, true, true, true, true, true, true, true, true, true, true, true, true, true, true, true, true, true, true, true, true, true, true, true, true, true, true] rfl rfl (by kernel_rfl) (fun _ _ _ h => h) (Or.inl ⟨by rfl, ?_⟩) ?_ ?_
      rotate_left
      · intro w'; go_simp; with_reducible rfl
      rotate_left
      · simp only [Act.put, List.setIfInBounds_toArray, List.set_cons_zero, List.set_cons_succ, i64_w, i32_w]; rfl
      refine done_ (by kernel_rfl) ?_
      go_wp2
      go_ret3
      exact take_no HL.out HB2.out HE.out (by decide)
end Go.Proofs.Ytdibaeomepallaa.LK
