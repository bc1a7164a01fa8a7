import Derived.Test.YtdibaeomepallaaLr
namespace Go.Proofs.Ytdibaeomepallaa.LK
open Go.RowKit Go.Proofs.YtdibaeomepallaaW.PrintWords Go.Proofs.YtdibaeomepallaaW.PrintLast Go.Proofs.YtdibaeomepallaaW.PrintMore Go.Proofs.Ytdibaeomepallaa.PAll Go.Proofs.Ytdibaeomepallaa.NW
set_option linter.unusedVariables false
set_option linter.unusedSimpArgs false
set_option maxRecDepth 100000
def sX : ByteArray := ⟨#[120]⟩
def zPk : Pk := ⟨0, 0, 0, 0, 0, 0, e0⟩
/-- The end that sends, behind so many texts. -/
def fA : Nat → Lk
  | 0 => lA0
  | n + 1 => sdL (fA n) sX
def pkF (i : Nat) : Pk := (sdP (fA i) sX).headD zPk
def gB : Nat → Lk
  | 0 => lB0
  | i + 1 => tkL (gB i) (pkF i)
def ackF (i : Nat) : Pk := (tkP (gB i) (pkF i)).headD zPk
def gA (m : Nat) : Nat → Lk
  | 0 => fA m
  | i + 1 => tkL (gA m i) (ackF i)
theorem one_of {xs : List Pk} (h : xs.length = 1) : xs = [xs.headD zPk] := by
  match xs, h with
  | [x], _ => rfl
/-- Two ends and a row of packets of its own. -/
def okFF (ga ma gb mb : Nat) (va vb : Value) (k : Nat) : Prop := ¬ lf ga va ma k ∧ ¬ lf gb vb mb k
structure FF (w0 w : World) (ga ma gb mb : Nat) (la lb : Lk) (va vb v : Value) (xs : List Pk) : Prop where
  two : Two w0 w ga ma gb mb la lb va vb
  row : k28.R 28 w w0.heap.size (okFF ga ma gb mb va vb) v xs
section
variable {w0 w w' : World} {ga ma gb mb : Nat} {la lb la' lb' : Lk} {va vb va' vb' v v1 : Value} {xs ys : List Pk}
theorem FF.swap (h : FF w0 w ga ma gb mb la lb va vb v xs) : FF w0 w gb mb ga ma lb la vb va v xs := ⟨h.two.swap, Kd.R_mono h.row (fun _ hk => ⟨hk.2, hk.1⟩)⟩
theorem FF.bel (h : FF w0 w ga ma gb mb la lb va vb v xs) (hb : Below w.heap.size w w') : FF w0 w' ga ma gb mb la lb va vb v xs := ⟨h.two.bel hb, Kd.R_step h.row (fun k _ hk => hb.block k hk)⟩
theorem FF.act (h : FF w0 w ga ma gb mb la lb va vb v xs) (st : LkStep w ga va ma la' va' w') : FF w0 w' ga ma gb mb la' lb va' vb v xs := by
  refine ⟨h.two.act st, Kd.R_mono (Kd.R_step (Kd.R_bound h.row) (fun k hk hlt => st.mods.block k hlt hk.1.1)) (fun k hk => ⟨fun e => ?_, hk.1.2⟩)⟩
  rcases e with e | e | e
  · exact hk.1.1 (.inl e)
  · exact hk.1.1 (.inr (.inl e))
  · rcases st.own k e with e2 | e2
    · exact hk.1.1 (.inr (.inr e2))
    · have := hk.2.2.1; omega
theorem FF.fresh (h : FF w0 w ga ma gb mb la lb va vb v xs) : ∀ k, w.heap.size ≤ k → okFF ga ma gb mb va vb k := fun k hk => ⟨fun e => by have := h.two.a.foot_lt e; omega, fun e => by have := h.two.b.foot_lt e; omega⟩
end
end Go.Proofs.Ytdibaeomepallaa.LK
