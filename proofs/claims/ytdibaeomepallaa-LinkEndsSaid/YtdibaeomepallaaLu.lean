import Derived.Test.YtdibaeomepallaaLr
namespace Go.Proofs.Ytdibaeomepallaa.LK
open Go.RowKit Go.Proofs.YtdibaeomepallaaW.PrintWords Go.Proofs.YtdibaeomepallaaW.PrintLast Go.Proofs.YtdibaeomepallaaW.PrintMore Go.Proofs.Ytdibaeomepallaa.PAll Go.Proofs.Ytdibaeomepallaa.NW
set_option linter.unusedVariables false
set_option linter.unusedSimpArgs false
set_option maxRecDepth 100000
/-! ### when nothing is lost any more: the plain law -/
def tot (S : Nat → Sd) : Nat := (S 0).row.length + (S 1).row.length
def ssm (S : Nat → Sd) : Nat := (S 0).sent.length + (S 1).sent.length
theorem outS_tot (S : Nat → Sd) {i : Nat} (hi : i < 2) (ps : List Pk) : tot (outS S i ps) ≤ tot S + ps.length := by
  unfold tot outS
  rcases two_cases hi with rfl | rfl
  · show (S 0).row.length + (dOut (S 0) (S 1) ps).row.length ≤ _
    simp only [dOut, pushR, List.length_append, List.length_take]; omega
  · show (dOut (S 1) (S 0) ps).row.length + (S 1).row.length ≤ _
    simp only [dOut, pushR, List.length_append, List.length_take]; omega
theorem upd_tot (S : Nat → Sd) {i : Nat} (hi : i < 2) (X : Sd) (h : X.row = (S i).row) : tot (upd S i X) = tot S := by
  unfold tot
  rcases two_cases hi with rfl | rfl
  · show X.row.length + (S 1).row.length = _; rw [h]
  · show (S 0).row.length + X.row.length = _; rw [h]
theorem tickS_tot (S : Nat → Sd) {i : Nat} (hi : i < 2) : tot (tickS S i) ≤ tot S + (S i).l.out := by
  unfold tickS
  have h := outS_tot S hi (outs (S i).l 0 (S i).l.out)
  rw [outs_len] at h
  omega
theorem ssm_of {S T : Nat → Sd} (h : ∀ j, (T j).sent = (S j).sent) : ssm T = ssm S := by unfold ssm; rw [h 0, h 1]
/-- One packet comes to each end, if there is any. -/
def com2 (S : Nat → Sd) : Nat → Sd := comeS (comeS S 0 0) 1 0
theorem com0 (S : Nat → Sd) : comeS S 0 0 0 = (stp (S 0) (S 1)).1 ∧ comeS S 0 0 1 = (stp (S 0) (S 1)).2 := by
  unfold comeS stp
  cases (S 0).row with
  | nil => exact ⟨rfl, rfl⟩
  | cons p r => exact ⟨rfl, rfl⟩
theorem com1 (S : Nat → Sd) : comeS S 1 0 1 = (stp (S 1) (S 0)).1 ∧ comeS S 1 0 0 = (stp (S 1) (S 0)).2 := by
  unfold comeS stp
  cases (S 1).row with
  | nil => exact ⟨rfl, rfl⟩
  | cons p r => exact ⟨rfl, rfl⟩
theorem com2_eq (S : Nat → Sd) : com2 S 0 = (stp2 (S 0) (S 1)).1 ∧ com2 S 1 = (stp2 (S 0) (S 1)).2 := by
  have h0 := com0 S
  have h1 := com1 (comeS S 0 0)
  unfold com2 stp2
  rw [h1.1, h1.2, h0.1, h0.2]
  exact ⟨rfl, rfl⟩
theorem com2_sent (S : Nat → Sd) (j : Nat) : (com2 S j).sent = (S j).sent := (comeS_sent _ _ _ _).trans (comeS_sent _ _ _ _)
theorem Good.com2 {f : Int} {S : Nat → Sd} (h : Good f S) : Good f (com2 S) := (h.come (i := 0) (by decide) 0).come (i := 1) (by decide) 0
def tick2 (S : Nat → Sd) : Nat → Sd := tickS (tickS S 0) 1
theorem tick2_sent (S : Nat → Sd) (j : Nat) : (tick2 S j).sent = (S j).sent := (tickS_sent _ _ _).trans (tickS_sent _ _ _)
theorem Good.tick2 {f : Int} {S : Nat → Sd} (h : Good f S) : Good f (tick2 S) := (h.tick (i := 0) (by decide)).tick (i := 1) (by decide)
def emp2 (S : Nat → Sd) : Prop := (S 0).row = [] ∧ (S 1).row = []
theorem emp2_of {S : Nat → Sd} (h : tot S = 0) : emp2 S := by unfold tot at h; exact ⟨List.eq_nil_of_length_eq_zero (by omega), List.eq_nil_of_length_eq_zero (by omega)⟩
/-- All that was sent is handed on, and nothing waits. -/
def fin2 (S : Nat → Sd) : Prop := (S 0).l.q = [] ∧ (S 1).l.q = [] ∧ (S 1).got = (S 0).sent ∧ (S 0).got = (S 1).sent
structure Rnd (n : Nat) (S : Nat → Sd) : Prop where
  good : Good 1 S
  sum : ssm S ≤ 91
  first : n = 0 → tot S + 7 * ssm S ≤ 640
  later : 1 ≤ n → emp2 S
  last : 2 ≤ n → fin2 S
structure Inn (n k : Nat) (S : Nat → Sd) : Prop where
  good : Good 1 S
  sum : ssm S ≤ 91
  mea : meaS (S 0) (S 1) + k ≤ 500
  liv : 1 ≤ n → LInv 1 (S 0) (S 1)
theorem Rnd.ticks {n : Nat} {S : Nat → Sd} (h : Rnd n S) : Inn n 0 (tick2 S) := by
  have hg := h.good.tick2
  have hs := h.sum
  have es : ssm (tick2 S) = ssm S := ssm_of (tick2_sent S)
  have hm := mea_le (tick2 S 0) (tick2 S 1)
  have hu0 := uns_le hg.inv
  have hu1 := uns_le hg.inv.swap
  have hcap := hg.inv.cap
  have ess := es
  unfold ssm at ess
  by_cases hn : n = 0
  · have hf := h.first hn
    have t0 := tickS_tot S (i := 0) (by decide)
    have t1 := tickS_tot (tickS S 0) (i := 1) (by decide)
    have o0 := (h.good.inv.at (i := 0) (by decide)).right.2.2.2.2
    have o1 := ((h.good.tick (i := 0) (by decide)).inv.at (i := 1) (by decide)).right.2.2.2.2
    have ht : tot (tick2 S) ≤ tot S + 16 := by unfold tick2; omega
    unfold tot at ht
    unfold tot ssm at hf
    unfold ssm at hs
    refine ⟨hg, by rw [es]; exact h.sum, by omega, fun e => by omega⟩
  · have he := h.later (by omega)
    have hu : uns (S 0) + uns (S 1) ≤ 300 := by
      have a := uns_le h.good.inv
      have b := uns_le h.good.inv.swap
      unfold ssm at hs
      omega
    have hl := LInv.ticks h.good.inv he.1 he.2 hu (tick2 S 0) (tick2 S 1) rfl rfl
    unfold ssm at hs
    exact ⟨hg, by rw [es]; exact h.sum, by have := hl.2; omega, fun _ => hl.1⟩
theorem Inn.come {n k : Nat} {S : Nat → Sd} (h : Inn n k S) (hk : tot S ≠ 0) : Inn n (k + 1) (com2 S) := by
  obtain ⟨e0, e1⟩ := com2_eq S
  have hm := h.mea
  have hf := Inv.falls h.good.inv hk
  refine ⟨h.good.com2, by rw [ssm_of (com2_sent S)]; exact h.sum, by rw [e0, e1]; omega, fun hn => by rw [e0, e1]; exact (h.liv hn).step2⟩
theorem Inn.next {n k : Nat} {S : Nat → Sd} (h : Inn n k S) (hk : k = 500 ∨ tot S = 0) : Rnd (n + 1) S := by
  have he : emp2 S := by
    rcases hk with hk | hk
    · have hm := h.mea
      exact mea_zero (by omega)
    · exact emp2_of hk
  refine ⟨h.good, h.sum, fun e => by omega, fun _ => he, fun hn => ?_⟩
  have a := (h.liv (by omega)).ends he.1 he.2
  have b := (h.liv (by omega)).swap.ends he.2 he.1
  exact ⟨a.1, b.1, a.2.1, b.2.1⟩
section
variable {w0 w : World} {bx gN : Nat} {ga ma : Nat → Nat} {va sv gv : Nat → Value} {ow : Nat → Nat} {S : Nat → Sd}
theorem come_a {f : Int} (h : PS w0 w bx gN ga ma va sv gv ow S) (hg : Good f S) (hsl : ∀ i, i < 2 → (S i).sent.length ≤ 1000) : Calls Try.prog 56 #[ptr bx, .int .i64 0, .int .i64 0] w fun e w' => e = .returned (.bool true) ∧ ∃ va' gv' ow', PS w0 w' bx gN ga ma va' sv gv' ow' (comeS S 0 0) := come_is h hg hsl (i := 0) (by decide) (iv := 0) rfl 0
theorem come_b {f : Int} (h : PS w0 w bx gN ga ma va sv gv ow S) (hg : Good f S) (hsl : ∀ i, i < 2 → (S i).sent.length ≤ 1000) : Calls Try.prog 56 #[ptr bx, .int .i64 1, .int .i64 0] w fun e w' => e = .returned (.bool true) ∧ ∃ va' gv' ow', PS w0 w' bx gN ga ma va' sv gv' ow' (comeS S 1 0) := come_is h hg hsl (i := 1) (by decide) (iv := 1) rfl 0
end
section
variable {w0 w : World} {bx gN : Nat} {ga ma : Nat → Nat} {va sv gv : Nat → Value} {ow : Nat → Nat} {S : Nat → Sd}
end
end Go.Proofs.Ytdibaeomepallaa.LK
