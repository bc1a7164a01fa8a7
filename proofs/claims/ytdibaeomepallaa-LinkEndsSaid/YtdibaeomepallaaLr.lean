import Derived.Test.YtdibaeomepallaaLq
namespace Go.Proofs.Ytdibaeomepallaa.LK
open Go.RowKit Go.Proofs.YtdibaeomepallaaW.PrintWords Go.Proofs.YtdibaeomepallaaW.PrintLast Go.Proofs.YtdibaeomepallaaW.PrintMore Go.Proofs.Ytdibaeomepallaa.PAll Go.Proofs.Ytdibaeomepallaa.NW
set_option linter.unusedVariables false
set_option linter.unusedSimpArgs false
set_option maxRecDepth 100000
theorem outS_sent (S : Nat → Sd) (i : Nat) (ps : List Pk) (j : Nat) : (outS S i ps j).sent = (S j).sent := by
  unfold outS
  by_cases e : j = 1 - i
  · subst e; rw [upd_same]; rfl
  · rw [upd_ne _ _ e]
theorem popS_sent (S : Nat → Sd) (i k j : Nat) : (popS S i k j).sent = (S j).sent := by
  unfold popS
  by_cases e : j = i
  · subst e; rw [upd_same]; rfl
  · rw [upd_ne _ _ e]
theorem hearS_sent (S : Nat → Sd) (i : Nat) (p : Pk) (j : Nat) : (hearS S i p j).sent = (S j).sent := by
  unfold hearS
  rw [outS_sent]
  by_cases e : j = i
  · subst e; rw [upd_same]; rfl
  · rw [upd_ne _ _ e]
theorem comeS_sent (S : Nat → Sd) (i k j : Nat) : (comeS S i k j).sent = (S j).sent := by
  unfold comeS
  cases (S i).row[k]? with
  | none => rfl
  | some p => exact (hearS_sent _ _ _ _).trans (popS_sent _ _ _ _)
theorem tickS_sent (S : Nat → Sd) (i j : Nat) : (tickS S i j).sent = (S j).sent := by
  unfold tickS
  exact outS_sent _ _ _ _
end Go.Proofs.Ytdibaeomepallaa.LK
