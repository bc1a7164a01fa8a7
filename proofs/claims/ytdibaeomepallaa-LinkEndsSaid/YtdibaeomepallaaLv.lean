import Derived.Test.YtdibaeomepallaaLu
import Derived.Test.YtdibaeomepallaaLt
namespace Go.Proofs.Ytdibaeomepallaa.LK
open Go.RowKit Go.Proofs.YtdibaeomepallaaW.PrintWords Go.Proofs.YtdibaeomepallaaW.PrintLast Go.Proofs.YtdibaeomepallaaW.PrintMore Go.Proofs.Ytdibaeomepallaa.PAll Go.Proofs.Ytdibaeomepallaa.NW
set_option linter.unusedVariables false
set_option linter.unusedSimpArgs false
set_option maxRecDepth 100000
/-! ### numbers end: the plain law -/
/-- A text is sent, its packets are lost. -/
def sendN (S : Nat → Sd) (i : Nat) (s : ByteArray) : Nat → Sd := upd S i (sdS (S i) s)
theorem Inv.sendN {f : Int} {A B : Sd} (h : Inv f A B) (s : ByteArray) : Inv f (sdS A s) B := by
  have h2 := h.send s
  obtain ⟨b, w, hab⟩ := h2.ab
  obtain ⟨c, v, hba⟩ := h2.ba
  have e1 := hab.less (row := B.row) (fun p hp => List.mem_append.2 (.inl hp))
  have e2 := hba.less' B.row
  exact ⟨⟨b, w, e1⟩, ⟨c, v, e2⟩, h2.fa, h.fb, h.cap⟩
theorem Good.sendN {f : Int} {S : Nat → Sd} (h : Good f S) {i : Nat} (hi : i < 2) (s : ByteArray) : Good f (sendN S i s) := by
  have hI := (h.inv.at hi).sendN s
  obtain ⟨h1, h2⟩ := one_sub hi
  have e1 : LK.sendN S i s i = sdS (S i) s := upd_same _ _ _
  have e2 : LK.sendN S i s (1 - i) = S (1 - i) := upd_ne _ _ h1
  refine h.mk' hi (by rw [e1, e2]; exact hI) (by_two hi (by rw [e1]; show (sdL (S i).l s).x = _; unfold sdL; split <;> rfl) (by rw [e2]))
/-- Behind i turns (t: texts that were tried). -/
structure EndI (less t : Nat) (S : Nat → Sd) : Prop where
  good : Good (1099511627775 - (less : Int)) S
  s0 : (S 0).sent.length = min t less
  s1 : (S 1).sent = []
  room : tot S + uns (S 0) ≤ t
theorem EndI.err {less t : Nat} {S : Nat → Sd} (h : EndI less t S) (hl : less ≤ 20) : sdE (S 0).l sX = (if t < less then 0 else 13) := by
  obtain ⟨b, w, hab⟩ := h.good.inv.ab
  have h1 := hab.base
  have h2 := hab.qlen
  have h3 := h.s0
  have h4 : sX.size = 1 := by kernel_rfl
  unfold sdE
  rw [if_neg (by omega)]
  by_cases ht : t < less
  · rw [if_neg (by omega), if_neg (by omega), if_pos ht]
  · rw [if_pos (by omega), if_neg ht]
theorem sd_uns {l : Lk} {s : ByteArray} (h : sdE l s = 0) (hf : l.out = min 8 l.q.length) : (sdP l s).length + ((sdL l s).q.length - (sdL l s).out) = l.q.length - l.out + 1 := by
  have e1 : sdP l s = goP { l with q := l.q ++ [s] } := if_pos h
  have e2 : sdL l s = goL { l with q := l.q ++ [s] } := if_pos h
  rw [e1, e2]
  unfold goP goL
  rw [outs_len]
  simp only [List.length_append, List.length_cons, List.length_nil]
  omega
theorem uns_sdS {A : Sd} (s : ByteArray) : uns (sdS A s) = (sdL A.l s).q.length - (sdL A.l s).out := rfl
theorem EndI.sent {less t : Nat} {S : Nat → Sd} (h : EndI less t S) (hl : less ≤ 20) : (sdS (S 0) sX).sent.length = min (t + 1) less ∧ uns (sdS (S 0) sX) + (sdP (S 0).l sX).length ≤ uns (S 0) + 1 := by
  have he := h.err hl
  have h3 := h.s0
  by_cases ht : t < less
  · rw [if_pos ht] at he
    refine ⟨?_, ?_⟩
    · show (if sdE (S 0).l sX = 0 then (S 0).sent ++ [sX] else (S 0).sent).length = _
      rw [if_pos he, List.length_append]
      show _ + 1 = _
      omega
    · have := sd_uns he h.good.inv.fa
      rw [uns_sdS]
      unfold uns
      omega
  · rw [if_neg ht] at he
    have hn : ¬ sdE (S 0).l sX = 0 := by rw [he]; decide
    refine ⟨?_, ?_⟩
    · show (if sdE (S 0).l sX = 0 then (S 0).sent ++ [sX] else (S 0).sent).length = _
      rw [if_neg hn]
      omega
    · have e1 : sdP (S 0).l sX = [] := if_neg hn
      have e2 : sdL (S 0).l sX = (S 0).l := if_neg hn
      rw [uns_sdS, e1, e2]
      unfold uns
      show _ + 0 ≤ _
      omega
theorem EndI.lost {less t : Nat} {S : Nat → Sd} (h : EndI less t S) (hl : less ≤ 20) : EndI less (t + 1) (sendN S 0 sX) := by
  obtain ⟨a, b⟩ := h.sent hl
  have hr := h.room
  refine ⟨h.good.sendN (by decide) sX, a, h.s1, ?_⟩
  have e : tot (sendN S 0 sX) = tot S := upd_tot S (i := 0) (by decide) _ rfl
  rw [e]
  show tot S + uns (sdS (S 0) sX) ≤ _
  omega
theorem EndI.send {less t : Nat} {S : Nat → Sd} (h : EndI less t S) (hl : less ≤ 20) : EndI less (t + 1) (sendS S 0 sX) := by
  obtain ⟨a, b⟩ := h.sent hl
  have hr := h.room
  refine ⟨h.good.send (by decide) sX, a, h.s1, ?_⟩
  have e := outS_tot (upd S 0 (sdS (S 0) sX)) (i := 0) (by decide) (sdP (S 0).l sX)
  rw [upd_tot S (i := 0) (by decide) (sdS (S 0) sX) rfl] at e
  show tot (outS (upd S 0 (sdS (S 0) sX)) 0 (sdP (S 0).l sX)) + uns (sdS (S 0) sX) ≤ _
  omega
theorem stp_room {f : Int} {A B : Sd} (h : Inv f A B) : (stp A B).1.row.length + (stp A B).2.row.length + (uns (stp A B).1 + uns (stp A B).2) ≤ A.row.length + B.row.length + (uns A + uns B) := by
  have hs := h.step1
  have a1 := dat_akn A.row
  have a2 := dat_akn B.row
  have a3 := dat_akn (stp A B).1.row
  have a4 := dat_akn (stp A B).2.row
  unfold Step1 at hs
  rcases hs with hs | ⟨h1, h2, ⟨k, h3⟩ | h3⟩ | ⟨h1, h2, h3, k, h4⟩ <;> omega
theorem uns_one {f : Int} {A B : Sd} (h : Inv f A B) (hs : A.sent = []) : uns A = 0 ∧ A.l.q = [] ∧ A.l.out = 0 := by
  obtain ⟨b, w, hab⟩ := h.ab
  have h2 := hab.qlen
  have h3 := hab.out8
  have h4 := hab.outb
  rw [hs] at h2 h4
  simp only [List.length_nil] at h2 h4
  have hq : A.l.q = [] := List.eq_nil_of_length_eq_zero (by omega)
  refine ⟨?_, hq, by omega⟩
  unfold uns
  omega
theorem EndI.come1 {less t : Nat} {S : Nat → Sd} (h : EndI less t S) : EndI less t (comeS S 1 0) := by
  have hg := h.good.come (i := 1) (by decide) 0
  have e := com1 S
  have hr := stp_room h.good.inv.swap
  have u0 := (uns_one h.good.inv.swap h.s1).1
  have hs := comeS_sent S 1 0
  have u1 := (uns_one hg.inv.swap (by rw [hs]; exact h.s1)).1
  rw [← e.1, ← e.2] at hr
  have := h.room
  refine ⟨hg, by rw [hs]; exact h.s0, by rw [hs]; exact h.s1, ?_⟩
  unfold tot at *
  omega
theorem EndI.come0 {less t : Nat} {S : Nat → Sd} (h : EndI less t S) : EndI less t (comeS S 0 0) := by
  have hg := h.good.come (i := 0) (by decide) 0
  have e := com0 S
  have hr := stp_room h.good.inv
  have u0 := (uns_one h.good.inv.swap h.s1).1
  have hs := comeS_sent S 0 0
  have u1 := (uns_one hg.inv.swap (by rw [hs]; exact h.s1)).1
  rw [← e.1, ← e.2] at hr
  have := h.room
  refine ⟨hg, by rw [hs]; exact h.s0, by rw [hs]; exact h.s1, ?_⟩
  unfold tot at *
  omega
/-- The ends, all handed on. -/
def finE (S : Nat → Sd) : Prop := (S 0).l.q = [] ∧ (S 1).got = (S 0).sent ∧ (S 1).l.want = 1099511627775
structure RndE (less n : Nat) (S : Nat → Sd) : Prop where
  good : Good (1099511627775 - (less : Int)) S
  s0 : (S 0).sent.length = less
  s1 : (S 1).sent = []
  first : n = 0 → tot S + uns (S 0) ≤ 40
  later : 1 ≤ n → emp2 S
  last : 2 ≤ n → finE S
structure InnE (less n k : Nat) (S : Nat → Sd) : Prop where
  good : Good (1099511627775 - (less : Int)) S
  s0 : (S 0).sent.length = less
  s1 : (S 1).sent = []
  mea : meaS (S 0) (S 1) + k ≤ 200
  liv : 1 ≤ n → LInv (1099511627775 - (less : Int)) (S 0) (S 1)
theorem EndI.rounds {less : Nat} {S : Nat → Sd} (h : EndI less 40 S) (hl : less ≤ 20) : RndE less 0 S :=
  ⟨h.good, by rw [h.s0]; omega, h.s1, fun _ => h.room, fun e => absurd e (by decide), fun e => absurd e (by decide)⟩
theorem RndE.ticks {less n : Nat} {S : Nat → Sd} (h : RndE less n S) (hl : less ≤ 20) : InnE less n 0 (tickS S 0) := by
  have hg := h.good.tick (i := 0) (by decide)
  have hsj := tickS_sent S 0
  have hm := mea_le (tickS S 0 0) (tickS S 0 1)
  have hu0 := uns_le hg.inv
  have hu1 := (uns_one hg.inv.swap (by rw [hsj]; exact h.s1))
  have hb1 := (uns_one h.good.inv.swap h.s1)
  have h0 := h.s0
  rw [hsj] at hu0
  by_cases hn : n = 0
  · have hf := h.first hn
    have t0 := tickS_tot S (i := 0) (by decide)
    have o0 := (h.good.inv.at (i := 0) (by decide)).right.2.2.2.2
    unfold tot at t0 hf
    refine ⟨hg, by rw [hsj]; exact h.s0, by rw [hsj]; exact h.s1, by omega, fun e => by omega⟩
  · have he := h.later (by omega)
    have hu : uns (S 0) + uns (S 1) ≤ 300 := by
      have a := uns_le h.good.inv
      omega
    have hT : (dOut (tickS S 0 1) (S 0) (outs (S 1).l 0 (S 1).l.out)) = tickS S 0 0 := by
      rw [hb1.2.2]
      show dOut _ (S 0) [] = S 0
      simp only [dOut, pushR, List.take_nil, List.append_nil]
    have hlv := LInv.ticks h.good.inv he.1 he.2 hu (tickS S 0 0) (tickS S 0 1) rfl hT.symm
    exact ⟨hg, by rw [hsj]; exact h.s0, by rw [hsj]; exact h.s1, by have := hlv.2; omega, fun _ => hlv.1⟩
theorem InnE.come {less n k : Nat} {S : Nat → Sd} (h : InnE less n k S) (hk : tot S ≠ 0) : InnE less n (k + 1) (com2 S) := by
  obtain ⟨e0, e1⟩ := com2_eq S
  have hm := h.mea
  have hf := Inv.falls h.good.inv hk
  refine ⟨h.good.com2, by rw [com2_sent]; exact h.s0, by rw [com2_sent]; exact h.s1, by rw [e0, e1]; omega, fun hn => by rw [e0, e1]; exact (h.liv hn).step2⟩
theorem InnE.next {less n k : Nat} {S : Nat → Sd} (h : InnE less n k S) (hk : k = 200 ∨ tot S = 0) : RndE less (n + 1) S := by
  have he : emp2 S := by
    rcases hk with hk | hk
    · have hm := h.mea
      exact mea_zero (by omega)
    · exact emp2_of hk
  refine ⟨h.good, h.s0, h.s1, fun e => by omega, fun _ => he, fun hn => ?_⟩
  have a := (h.liv (by omega)).ends he.1 he.2
  have h0 := h.s0
  exact ⟨a.1, a.2.1, by rw [a.2.2, h0]; omega⟩
end Go.Proofs.Ytdibaeomepallaa.LK
