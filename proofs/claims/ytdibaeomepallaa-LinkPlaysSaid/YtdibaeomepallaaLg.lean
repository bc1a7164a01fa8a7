/- An end of a link sends a text: Send. By hand. -/
import Derived.Test.YtdibaeomepallaaLf
namespace Go.Proofs.Ytdibaeomepallaa.LK
open Go.RowKit Go.Proofs.YtdibaeomepallaaW.PrintWords Go.Proofs.YtdibaeomepallaaW.PrintLast Go.Proofs.YtdibaeomepallaaW.PrintMore Go.Proofs.Ytdibaeomepallaa.PAll Go.Proofs.Ytdibaeomepallaa.NW
set_option linter.unusedVariables false
set_option linter.unusedSimpArgs false
set_option maxRecDepth 100000
/-- What an act of an end leaves: the link, with its queue's row where it was or in a new block. -/
structure LkStep (w : World) (g : Nat) (v : Value) (m : Nat) (l' : Lk) (v' : Value) (w' : World) : Prop where
  lk : LkAt w' g l' v' m
  own : ∀ k, v'.ownBlock = some k → v.ownBlock = some k ∨ w.heap.size ≤ k
  mods : Mods (lf g v m) w w'
theorem lkstep_refl {w w' : World} {g m : Nat} {l : Lk} {v : Value} (h : LkAt w g l v m) (hb : Below w.heap.size w w') : LkStep w g v m l v w' := ⟨h.below hb, fun _ hk => .inl hk, Mods.of_below hb⟩
def SendOut (w : World) (g : Nat) (l : Lk) (v : Value) (m : Nat) (s : ByteArray) (e : Ending) (w' : World) : Prop :=
  ∃ o v', e = .returned (.tuple #[o, .int .i64 (sdE l s)]) ∧ k28.R 28 w' w.heap.size (fun _ => True) o (sdP l s) ∧ LkStep w g v m (sdL l s) v' w'
theorem send_no {w w' : World} {g m : Nat} {l : Lk} {v : Value} (h : LkAt w g l v m) (hb : Below w.heap.size w w') {s : ByteArray} {n : Int} (hn : sdE l s = n) (h0 : n ≠ 0) : SendOut w g l v m s (.returned (.tuple #[.slice none 0 0, .int .i64 n])) w' := by
  subst hn
  refine ⟨_, v, rfl, ?_, ?_⟩
  · unfold sdP; rw [if_neg h0]; exact Kd.R_nil _ _ _ _ _
  · unfold sdL; rw [if_neg h0]; exact lkstep_refl h hb
theorem Bd.add {l : Lk} (h : Bd l) {s : ByteArray} (h1 : l.base + l.q.length < 1099511627775) (h2 : l.q.length < 64) : Bd { l with q := l.q ++ [s] } := by
  obtain ⟨b1, b2, o8, oq, q64, w1, w2, e⟩ := h
  exact ⟨b1, by show l.base + ((l.q ++ [s]).length : Int) ≤ _; simp; omega, o8, by show l.out ≤ (l.q ++ [s]).length; simp; omega, by show (l.q ++ [s]).length ≤ 64; simp; omega, w1, w2, e⟩
/-- Behind goOut. -/
theorem goOut_stays {w w' : World} {g m : Nat} {l : Lk} {v : Value} (h : LkAt w g l v m) (hg : w'.heap[g]? = some (.cells (lkc (goL l) v m) 134 (0, 0))) (hm : Mods (fun k => k = g) w w') : LkAt w' g (goL l) v m :=
  ⟨hg, h.row_mods hm, h.er.other (hm.block m h.er.lt h.ne_map)⟩
theorem send_yes {w W W3 : World} {g m : Nat} {l : Lk} {v v1 o : Value} {s : ByteArray} (hE : sdE l s = 0) (h : LkStep w g v m { l with q := l.q ++ [s] } v1 W) (ho : k28.R 28 W3 W.heap.size (fun _ => True) o (goP { l with q := l.q ++ [s] })) (hg : W3.heap[g]? = some (.cells (lkc (goL { l with q := l.q ++ [s] }) v1 m) 134 (0, 0))) (hm : Mods (fun k => k = g) W W3) :
    SendOut w g l v m s (.returned (.tuple #[o, .int .i64 0])) W3 := by
  refine ⟨o, v1, by rw [hE], ?_, ⟨?_, h.own, h.mods.trans hm (fun i _ e => .inl e)⟩⟩
  · unfold sdP
    rw [if_pos hE]
    exact Kd.R_lower ho h.mods.size
  · unfold sdL
    rw [if_pos hE]
    exact goOut_stays h.lk hg hm
theorem sendStep {w W W1 : World} {g m : Nat} {l : Lk} {v v1 : Value} {s : ByteArray} (h : LkAt w g l v m) (hb : Below w.heap.size w W) (hW : LkAt W g l v m) (ho : Kd.string.R 9 W1 0 (fun _ => True) v1 (l.q ++ [s])) (hg : W.grownBy W1 v.ownBlock) (hat : v1.ownBlock = v.ownBlock ∨ ∃ b, v1.ownBlock = some b ∧ W.heap.size ≤ b) :
    W1.heap[g]? = some (.cells (lkc l v m) 134 (0, 0)) ∧ LkStep w g v m { l with q := l.q ++ [s] } v1 (W1.setCell ⟨g, 5, none⟩ v1) := by
  have e1 : W1.heap[g]? = some (.cells (lkc l v m) 134 (0, 0)) := (hg.block g hW.lt (fun e => h.ne_row e.symm)).trans hW.blk
  refine ⟨e1, ⟨⟨?_, ?_, ?_⟩, fun k hk => ?_, ?_⟩⟩
  · exact blk_set e1 5 v1
  · exact Kd.R_set ho e1 (string_types (by decide)) 5 v1
  · refine hW.er.other ?_
    rw [Below.heap_setCell _ _ _ _ hW.ne_map]
    exact hg.block m hW.er.lt (fun e => hW.row_map e.symm)
  · rcases hat with e | ⟨b, e, hbb⟩
    · exact .inl (by rw [← e]; exact hk)
    · rw [e] at hk
      injection hk with hk
      exact .inr (by have := hb.size; omega)
  · exact ((Mods.of_below hb).grown hg (fun k hk => .inl (.inr (.inr hk)))).set (.inl (.inl rfl)) v1
set_option maxHeartbeats 4000000 in
theorem send_is {w : World} {g m : Nat} {l : Lk} {v : Value} (h : LkAt w g l v m) (hb : Bd l) (s : ByteArray) (hs : s.size ≤ 4611686018427387904) :
    Calls Try.prog 38 #[.pointer (some ⟨g, 0, none⟩), .string s] w (SendOut w g l v m s) := by
  have HBd := Aside0.mk hb
  obtain ⟨b1, b2, o8, oq, q64, w1, w2, _⟩ := hb
  have HL := Aside0.mk h
  obtain ⟨A, c, rfl, hcl, hC⟩ := Kd.R_reads h.row
  have c5 := (blk_cell h.blk 5).trans (show (lkc l (.slice A l.q.length c) m)[5]? = some (.slice A l.q.length c) from rfl)
  have c6 := (blk_cell h.blk 6).trans (show (lkc l (.slice A l.q.length c) m)[6]? = some (.int .i64 l.base) from rfl)
  clear h hC
  by_cases h1 : 32768 < s.size
  · have d1 : decide ((32768 : Int) < (s.size : Int)) = true := decide_eq_true (by omega)
    have HE := Aside0.mk (show sdE l s = 1 from if_pos h1)
    go_enter Try.func38, Try.ntmps38
    go_wp2
    go_ret2
    exact send_no HL.out (Below.refl _ _) HE.out (by decide)
  · have d1 : decide ((32768 : Int) < (s.size : Int)) = false := decide_eq_false (by omega)
    by_cases h2 : 1099511627775 ≤ l.base + l.q.length
    · have d2 : decide (1099511627775 ≤ l.base + (l.q.length : Int)) = true := decide_eq_true h2
      have HE := Aside0.mk (show sdE l s = 13 by unfold sdE; rw [if_neg h1, if_pos h2])
      go_enter Try.func38, Try.ntmps38
      go_wp2
      go_quiet (fail)
      go_wp2
      go_ret2
      exact send_no HL.out (pw_below_drewN (Below.refl _ _) _) HE.out (by decide)
    · have d2 : decide (1099511627775 ≤ l.base + (l.q.length : Int)) = false := decide_eq_false h2
      by_cases h3 : 64 ≤ l.q.length
      · have d3 : decide ((64 : Int) ≤ (l.q.length : Int)) = true := decide_eq_true (by omega)
        have HE := Aside0.mk (show sdE l s = 6 by unfold sdE; rw [if_neg h1, if_neg h2, if_pos h3])
        go_enter Try.func38, Try.ntmps38
        go_wp2
        go_quiet (fail)
        go_wp2
        go_ret2
        exact send_no HL.out (pw_below_drewN (Below.refl _ _) _) HE.out (by decide)
      · have d3 : decide ((64 : Int) ≤ (l.q.length : Int)) = false := decide_eq_false (by omega)
        have HE := Aside0.mk (show sdE l s = 0 by unfold sdE; rw [if_neg h1, if_neg h2, if_neg h3])
        go_enter Try.func38, Try.ntmps38
        go_wp2
        go_quiet (fail)
        obtain ⟨W, hW⟩ : ∃ W, W = w.drewN nq := ⟨_, rfl⟩
        rw [← hW]
        have HLW := Aside0.mk (show LkAt W g l (.slice A l.q.length c) m by rw [hW]; exact lkat_drew HL.out _)
        have HMW := Aside0.mk (show Below w.heap.size w W by rw [hW]; exact pw_below_drewN (Below.refl _ _) _)
        have hsz : w.heap.size ≤ W.heap.size := HMW.out.size
        clear hW c5 c6
        have c5 : W.cell? ⟨g, 5, none⟩ = some (.slice A l.q.length c) := (blk_cell HLW.out.blk 5).trans rfl
        go_wp2_with (first
          | ((with_reducible refine gate_dst (N := 40) rfl ?_); at_builtin; refine Kd.R_append Kd.string (w0 := W) 0 rfl (.tmp 37) (.tmp 39) 73 9 (.string ⟨#[]⟩) 16 rfl Try.underlying73 info9 rfl (by decide) (by omega) (.slice A l.q.length c) l.q s [.string s] (fun _ => True) (fun _ => False) rfl rfl rfl (fun _ hk => hk.elim) (fun _ _ => trivial) HLW.out.row (Below.refl 0 W) (Nat.zero_le _) (by omega) ?_; intro v1 W1 ho1 hb1 hg1 hat1; have HS1 := Aside0.mk (sendStep HL.out HMW.out HLW.out ho1 hg1 hat1); obtain ⟨A1, c1, rfl⟩ := Kd.R_slice ho1; simp only [List.length_append, List.length_singleton] at HS1; clear ho1 hb1 hg1 hat1 c5; have c5 : W1.cell? ⟨g, 5, none⟩ = some (.slice A l.q.length c) := (blk_cell HS1.out.1 5).trans rfl; have f5 := blk_frozen HS1.out.1 5)
          | ((with_reducible refine gate_dst (N := 44) rfl ?_); refine goesL_ (some 44) rfl rfl Try.func74 (by kernel_rfl) rfl #[.pointer (some ⟨g, 0, none⟩)] rfl (by first | (simp only [List.map_toArray, List.map_cons, List.map_nil]; rfl) | rfl) ?_; refine (goOut_is HS1.out.2.lk (HBd.out.add (s := s) (by omega) (by omega))).mono ?_; rintro e W3 ⟨o, rfl, ho3, hg3, hm3⟩; have HO3 := Aside0.mk ho3; have HG3 := Aside0.mk hg3; have HM3 := Aside0.mk hm3; clear ho3 hg3 hm3; refine ⟨_, rfl, ?_⟩))
        go_ret2
        exact send_yes HE.out HS1.out.2 HO3.out HG3.out HM3.out
end Go.Proofs.Ytdibaeomepallaa.LK
