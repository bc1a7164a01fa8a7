/- What an end of a link hears as acknowledged. By hand. -/
import Derived.Test.YtdibaeomepallaaLd
namespace Go.Proofs.Ytdibaeomepallaa.LK
open Go.RowKit Go.Proofs.YtdibaeomepallaaW.PrintWords Go.Proofs.YtdibaeomepallaaW.PrintLast Go.Proofs.YtdibaeomepallaaW.PrintMore Go.Proofs.Ytdibaeomepallaa.PAll Go.Proofs.Ytdibaeomepallaa.NW
set_option linter.unusedVariables false
set_option linter.unusedSimpArgs false
set_option maxRecDepth 100000
def emp : ByteArray := ByteArray.empty
theorem ack_out {l : Lk} {n : Int} (h : n < l.base ∨ l.base + l.out ≤ n) : ack l n = l := by
  have e : ackN l n = 0 := if_pos h
  unfold ack
  rw [e]
  simp
theorem lkat_drew {w : World} {g m : Nat} {l : Lk} {v : Value} (h : LkAt w g l v m) (n : Nat) : LkAt (w.drewN n) g l v m := h.below (pw_below_drewN (Below.refl _ _) n)
/-- What hearing an acknowledgment leaves. -/
def AckOut (w : World) (g : Nat) (l : Lk) (v : Value) (m : Nat) (n : Int) (w' : World) : Prop := ∃ v', LkAt w' g (ack l n) v' m ∧ (∀ k, v'.ownBlock = some k → v.ownBlock = some k ∨ w.heap.size ≤ k) ∧ Mods (fun k => k = g) w w'
set_option maxHeartbeats 4000000 in
theorem acked_is {w : World} {g m : Nat} {l : Lk} {v : Value} (h : LkAt w g l v m) (hb : Bd l) (n : Int) (n0 : 0 ≤ n) (n1 : n ≤ 1099511627775) :
    Calls Try.prog 75 #[.pointer (some ⟨g, 0, none⟩), .int .i64 n] w fun e w' => e = .returned (.tuple #[]) ∧ AckOut w g l v m n w' := by
  obtain ⟨b1, b2, o8, oq, q64, w1, w2, _⟩ := hb
  have HL := Aside0.mk h
  obtain ⟨A, c, rfl, hcl, hC⟩ := Kd.R_reads h.row
  have HC := Aside0.mk hC
  have c6 := (blk_cell h.blk 6).trans (show (lkc l (.slice A l.q.length c) m)[6]? = some (.int .i64 l.base) from rfl)
  have c7 := (blk_cell h.blk 7).trans (show (lkc l (.slice A l.q.length c) m)[7]? = some (.int .i64 l.out) from rfl)
  clear h hC
  by_cases h1 : n < l.base
  · have d1 : decide (n < l.base) = true := decide_eq_true h1
    have HE := Aside0.mk (ack_out (l := l) (n := n) (.inl h1))
    go_enter Try.func75, Try.ntmps75
    go_wp2
    go_quiet (fail)
    go_wp2
    refine bodyPost_ret (results_none rfl _ _ _) rfl ?_
    exact ⟨rfl, _, by rw [HE.out]; exact lkat_drew HL.out _, fun k hk => .inl hk, (Mods.refl _ _).drewN _⟩
  · have d1 : decide (n < l.base) = false := decide_eq_false h1
    by_cases h2 : l.base + l.out ≤ n
    · have d2 : decide (l.base + (l.out : Int) ≤ n) = true := decide_eq_true h2
      have HE := Aside0.mk (ack_out (l := l) (n := n) (.inr h2))
      go_enter Try.func75, Try.ntmps75
      go_wp2
      go_quiet (fail)
      go_wp2
      refine bodyPost_ret (results_none rfl _ _ _) rfl ?_
      exact ⟨rfl, _, by rw [HE.out]; exact lkat_drew HL.out _, fun k hk => .inl hk, (Mods.refl _ _).drewN _⟩
    · have d2 : decide (l.base + (l.out : Int) ≤ n) = false := decide_eq_false h2
      obtain ⟨i9, hi9, he9⟩ := Option.map_eq_some_iff.1 info9
      obtain ⟨A', hrun, hreads, hle⟩ := print_drop_of (P := Try.prog) Value.string emp 73 9 .i64 Try.underlying73 hi9 (congrArg (·.2.1) he9) A c l.q (n - l.base + 1) (by omega) (by omega) hcl
      go_enter Try.func75, Try.ntmps75
      go_wp2
      go_quiet (fail)
      have hk : ackN l n = (n - l.base + 1).toNat := if_neg (by omega)
      have HK := Aside0.mk hk
      clear hk
      obtain ⟨W, hW⟩ : ∃ W, W = w.drewN nq := ⟨_, rfl⟩
      rw [← hW]
      have HLW := Aside0.mk (show LkAt W g l (.slice A l.q.length c) m by rw [hW]; exact lkat_drew HL.out _)
      have HMW := Aside0.mk (show Mods (fun k => k = g) w W by rw [hW]; exact (Mods.refl _ _).drewN _)
      have hsz : w.heap.size ≤ W.heap.size := HMW.out.size
      clear hW c6 c7
      have c5 : W.cell? ⟨g, 5, none⟩ = some (.slice A l.q.length c) := (blk_cell HLW.out.blk 5).trans rfl
      have c6 : W.cell? ⟨g, 6, none⟩ = some (.int .i64 l.base) := (blk_cell HLW.out.blk 6).trans rfl
      have c7 : W.cell? ⟨g, 7, none⟩ = some (.int .i64 l.out) := (blk_cell HLW.out.blk 7).trans rfl
      have HDR := Aside0.mk (hreads W (Kd.reads_of_C (d := emp) (Kd.R_reads' HLW.out.row).2.2))
      rw [List.length_drop] at HDR hrun
      have hlen : l.q.length - (n - l.base + 1).toNat ≤ 64 := by omega
      clear hreads
      go_wp2_with (first
        | ((with_reducible refine gate_dst (N := 38) rfl ?_); at_builtin; refine Kd.R_append_row Value.string emp (w0 := W) W.heap.size rfl (.const (.slice none 0 0)) (.tmp 37) 73 9 (.string ⟨#[]⟩) 16 rfl Try.underlying73 info9 rfl (by decide) (.slice none 0 0) [] (l.q.drop (n - l.base + 1).toNat) A' (l.q.length - (n - l.base + 1).toNat) (c - (n - l.base + 1).toNat) (fun _ => True) rfl rfl (fun _ _ => trivial) (Kd.R_nil Kd.string 9 W W.heap.size (fun _ => True)) (Kd.C_of_reads HDR.out) (Below.refl _ _) (Nat.le_refl _) ?aL ?_; (case aL => simp only [List.length_nil]; omega); intro v1 W1 ho1 hb1 hg1 hat1; have HO1 := Aside0.mk (show Kd.string.R 9 W1 W.heap.size (fun _ => True) v1 (l.q.drop (n - l.base + 1).toNat) from ho1); obtain ⟨A1, c1, rfl⟩ := Kd.R_slice HO1.out; have HB1 := Aside0.mk hb1; clear ho1 hb1 hg1 hat1 c5 c6 c7; have HL1 := Aside0.mk (HLW.out.below HB1.out); have c5 : W1.cell? ⟨g, 5, none⟩ = some (.slice A l.q.length c) := (blk_cell HL1.out.blk 5).trans rfl; have c6 : W1.cell? ⟨g, 6, none⟩ = some (.int .i64 l.base) := (blk_cell HL1.out.blk 6).trans rfl; have c7 : W1.cell? ⟨g, 7, none⟩ = some (.int .i64 l.out) := (blk_cell HL1.out.blk 7).trans rfl; have f5 := blk_frozen HL1.out.blk 5; have f6 := blk_frozen HL1.out.blk 6; have f7 := blk_frozen HL1.out.blk 7))
      go_end0
      have e1 : n + 1 = l.base + (ackN l n : Int) := by rw [HK.out]; omega
      have e2 : (l.out : Int) - (n - l.base + 1) = ((l.out - ackN l n : Nat) : Int) := by rw [HK.out]; omega
      have hro : Kd.string.R 9 W1 W.heap.size (fun _ => True) (.slice A1 (l.q.length - (n - l.base + 1).toNat) c1) (l.q.drop (ackN l n)) := by rw [HK.out]; rw [List.length_drop] at HO1; exact HO1.out
      have hmm : Mods (fun k => k = g) w W1 := HMW.out.then_below HB1.out
      have B1 := blk_set HL1.out.blk 5 (.slice A1 (l.q.length - (n - l.base + 1).toNat) c1)
      have B2 := blk_set B1 6 (.int .i64 (n + 1))
      have B3 := blk_set B2 7 (.int .i64 ((l.out : Int) - (n - l.base + 1)))
      have hne : ∀ q, q ∈ (9 : Nat) :: Kd.string.E → q ≠ 134 := by
        intro q hq
        have : q = 9 := by simpa [Kd.string, Kd.scalar] using hq
        omega
      refine ⟨rfl, .slice A1 (l.q.length - (n - l.base + 1).toNat) c1, ⟨B3.trans ?_, ?_, ?_⟩, fun k hk => .inr ?_, ((hmm.set (.inl rfl) _).set (.inl rfl) _).set (.inl rfl) _⟩
      · unfold lkc ack
        dsimp only
        rw [← e1, ← e2]
        rfl
      · exact Kd.R_lower (Kd.R_set (Kd.R_set (Kd.R_set hro HL1.out.blk hne 5 _) B1 hne 6 _) B2 hne 7 _) (Nat.zero_le _)
      · refine HL1.out.er.other ?_
        have hmg : m ≠ g := HL1.out.ne_map
        rw [Below.heap_setCell _ _ _ _ hmg, Below.heap_setCell _ _ _ _ hmg, Below.heap_setCell _ _ _ _ hmg]
      · obtain ⟨inner, hi⟩ := Kd.R_own hro
        have := own_base hi k hk
        omega
end Go.Proofs.Ytdibaeomepallaa.LK
