import Derived.Test.YtdibaeomepallaaLq
namespace Go.Proofs.Ytdibaeomepallaa.LK
open Go.RowKit Go.Proofs.YtdibaeomepallaaW.PrintWords Go.Proofs.YtdibaeomepallaaW.PrintLast Go.Proofs.YtdibaeomepallaaW.PrintMore Go.Proofs.Ytdibaeomepallaa.PAll Go.Proofs.Ytdibaeomepallaa.NW
set_option linter.unusedVariables false
set_option linter.unusedSimpArgs false
set_option maxRecDepth 100000
/-- The deeds of a list, one behind the other. -/
def doN (S : Nat → Sd) (l : List S109) (n : Nat) : Nat → Sd := (l.take n).foldl doS S
theorem doN_succ (S : Nat → Sd) {l : List S109} {n : Nat} (h : n < l.length) : doN S l (n + 1) = doS (doN S l n) (rd_T109 l (n : Int)) := by
  unfold doN rd_T109
  rw [List.take_succ_eq_append_getElem h, List.foldl_append, Int.toNat_natCast, List.getD_eq_getElem?_getD, List.getElem?_eq_getElem h]
  rfl
theorem outS_sent (S : Nat → Sd) (i : Nat) (ps : List Pk) (j : Nat) : (outS S i ps j).sent = (S j).sent := by
  unfold outS
  by_cases e : j = 1 - i
  · subst e; rw [upd_same]; rfl
  · rw [upd_ne _ _ e]
theorem popS_sent (S : Nat → Sd) (i k j : Nat) : (popS S i k j).sent = (S j).sent := by
  unfold popS
  by_cases e : j = i
  · subst e; rw [upd_same]; rfl
  · rw [upd_ne _ _ e]
theorem hearS_sent (S : Nat → Sd) (i : Nat) (p : Pk) (j : Nat) : (hearS S i p j).sent = (S j).sent := by
  unfold hearS
  rw [outS_sent]
  by_cases e : j = i
  · subst e; rw [upd_same]; rfl
  · rw [upd_ne _ _ e]
theorem comeS_sent (S : Nat → Sd) (i k j : Nat) : (comeS S i k j).sent = (S j).sent := by
  unfold comeS
  cases (S i).row[k]? with
  | none => rfl
  | some p => exact (hearS_sent _ _ _ _).trans (popS_sent _ _ _ _)
theorem twiceS_sent (S : Nat → Sd) (i k j : Nat) : (twiceS S i k j).sent = (S j).sent := by
  unfold twiceS
  cases (S i).row[k]? with
  | none => rfl
  | some p =>
    show (upd S i (dOut (S (1 - i)) (S i) [p]) j).sent = _
    by_cases e : j = i
    · subst e; rw [upd_same]; rfl
    · rw [upd_ne _ _ e]
theorem tickS_sent (S : Nat → Sd) (i j : Nat) : (tickS S i j).sent = (S j).sent := by
  unfold tickS
  exact outS_sent _ _ _ _
theorem sendS_sent (S : Nat → Sd) (i : Nat) (s : ByteArray) (j : Nat) : (sendS S i s j).sent.length ≤ (S j).sent.length + 1 := by
  unfold sendS
  rw [outS_sent]
  by_cases e : j = i
  · subst e
    rw [upd_same]
    show (if sdE (S j).l s = 0 then (S j).sent ++ [s] else (S j).sent).length ≤ _
    split
    · rw [List.length_append]; exact Nat.le_refl _
    · omega
  · rw [upd_ne _ _ e]; omega
theorem doS_ind {P : (Nat → Sd) → Prop} {S : Nat → Sd} (d : S109) (h0 : P S) (hs : ∀ i s, i < 2 → P (sendS S i s)) (ht : ∀ i, i < 2 → P (tickS S i)) (h3 : ∀ i k, i < 2 → P (twiceS S i k)) (h4 : ∀ i k, i < 2 → P (popS S i k)) (h2 : ∀ i k, i < 2 → P (comeS S i k)) : P (doS S d) := by
  have hi : atN d.f1 2 < 2 := (atN_lt d.f1 (by decide)).1
  unfold doS
  dsimp only
  repeat' split
  · exact hs _ _ hi
  · exact h0
  · exact ht _ hi
  · exact h0
  · exact h3 _ _ hi
  · exact h4 _ _ hi
  · exact h2 _ _ hi
  · exact h0
theorem doS_sent (S : Nat → Sd) (d : S109) (j : Nat) : (doS S d j).sent.length ≤ (S j).sent.length + 1 :=
  doS_ind (P := fun T => (T j).sent.length ≤ (S j).sent.length + 1) d (by omega) (fun i s _ => sendS_sent _ _ _ _) (fun i _ => by show (tickS S i j).sent.length ≤ _; rw [tickS_sent]; omega) (fun i k _ => by show (twiceS S i k j).sent.length ≤ _; rw [twiceS_sent]; omega) (fun i k _ => by show (popS S i k j).sent.length ≤ _; rw [popS_sent]; omega) (fun i k _ => by show (comeS S i k j).sent.length ≤ _; rw [comeS_sent]; omega)
theorem doN_sent (f : Int) (l : List S109) (n : Nat) (hn : n ≤ l.length) (j : Nat) : (doN (freshL f) l n j).sent.length ≤ n := by
  induction n with
  | zero => exact Nat.le_refl _
  | succ n ih =>
    rw [doN_succ _ (by omega)]
    exact Nat.le_trans (doS_sent _ _ j) (by have := ih (by omega); omega)
theorem doN_good {f : Int} (h1 : 1 ≤ f) (h2 : f ≤ 1099511627775) (l : List S109) (n : Nat) (hn : n ≤ l.length) : Good f (doN (freshL f) l n) := by
  induction n with
  | zero => exact good_fresh f h1 h2
  | succ n ih =>
    rw [doN_succ _ (by omega)]
    exact (ih (by omega)).do _
theorem rd109_size {l : List S109} {M : Nat} (h : ∀ y ∈ l, y.f3.size ≤ M) {n : Nat} (hn : n < l.length) : (rd_T109 l (n : Int)).f3.size ≤ M := by
  unfold rd_T109
  rw [Int.toNat_natCast, List.getD_eq_getElem?_getD, List.getElem?_eq_getElem hn]
  exact h _ (List.getElem_mem hn)
theorem cells109 {w W : World} {Al : Option Addr} {l : List S109} {i : Nat} {x : S109} {ad : Addr} (hl : Kd.C k109 w Al l.length l) (hb : Below w.heap.size w W) (hi : i < l.length) (hx : rd_T109 l (i : Int) = x) (hA : Al = some ad) : W.cell? (ad.add (i * 4)) = some (.int .i64 x.f0) ∧ W.cell? ⟨(ad.add (i * 4)).block, (ad.add (i * 4)).off + 1, none⟩ = some (.int .i64 x.f1) ∧ W.cell? ⟨(ad.add (i * 4)).block, (ad.add (i * 4)).off + 2, none⟩ = some (.int .i64 x.f2) ∧ W.cell? ⟨(ad.add (i * 4)).block, (ad.add (i * 4)).off + 3, none⟩ = some (.string x.f3) := by
  obtain ⟨ad', hA', e⟩ := at_T109 (Kd.C_below hl hb) (i : Int) (by omega) (by omega)
  rw [hA] at hA'
  injection hA' with hA'
  subst hA'
  rw [Int.toNat_natCast, hx] at e
  exact e
/-- A pair behind so many deeds. -/
def DN (w0 : World) (bx gN : Nat) (ga ma : Nat → Nat) (l : List S109) (n : Nat) (w : World) : Prop := ∃ va sv gv ow, PS w0 w bx gN ga ma va sv gv ow (doN (freshL 1) l n)
theorem DN.below {w0 w : World} {bx gN : Nat} {ga ma : Nat → Nat} {l : List S109} {n : Nat} (h : DN w0 bx gN ga ma l n w) : Below w0.heap.size w0 w := by
  obtain ⟨_, _, _, _, h⟩ := h; exact h.below
abbrev Good109 (l : List S109) : Prop := ∀ y ∈ l, ((Lit.int .i64 y.f0).wf = true) ∧ ((Lit.int .i64 y.f1).wf = true) ∧ ((Lit.int .i64 y.f2).wf = true) ∧ (y.f3.size ≤ maxLen)
theorem size109 {l : List S109} (g : Good109 l) {n : Nat} (hn : n < l.length) : (rd_T109 l (n : Int)).f3.size ≤ 9223372036854775807 := by
  have h := rd109_size (M := maxLen) (fun y hy => (g y hy).2.2.2) hn
  unfold maxLen at h
  omega
end Go.Proofs.Ytdibaeomepallaa.LK
