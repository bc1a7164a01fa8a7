/- The deeds of a pair in plain words; packets go under way (pair.out). By hand. -/
import Derived.Test.YtdibaeomepallaaLj
namespace Go.Proofs.Ytdibaeomepallaa.LK
open Go.RowKit Go.Proofs.YtdibaeomepallaaW.PrintWords Go.Proofs.YtdibaeomepallaaW.PrintLast Go.Proofs.YtdibaeomepallaaW.PrintMore Go.Proofs.Ytdibaeomepallaa.PAll Go.Proofs.Ytdibaeomepallaa.NW
set_option linter.unusedVariables false
set_option linter.unusedSimpArgs false
set_option maxRecDepth 100000
/-! ### deeds of a pair -/
theorem Inv.bd {f : Int} {A B : Sd} (h : Inv f A B) : Bd A.l ∧ A.l.er.length ≤ 999 := by
  obtain ⟨b, w, hab⟩ := h.ab
  obtain ⟨c, v, hba⟩ := h.ba
  have h1 := hab.base
  have h2 := hab.qlen
  have h3 := hab.num
  have h4 := hba.early
  have h5 := hba.want
  have h6 := hba.num
  have h7 := hba.wlen
  have h8 := hab.outb
  have h9 := hab.hf
  exact ⟨⟨by omega, by omega, hab.out8, by omega, hab.q64, by omega, by omega, by omega⟩, by omega⟩
/-- The pair is as it should be: both ways, and the ends are 1 and 2. -/
structure Good (f : Int) (S : Nat → Sd) : Prop where
  inv : InvS f S
  ends : ∀ i, i < 2 → (S i).l.x = ⟨1 + (i : Int), 1, 2 - (i : Int), 1, f⟩
theorem Good.from {f : Int} {S : Nat → Sd} (h : Good f S) {i : Nat} (hi : i < 2) {q : Pk} (hq : okP q = true ∧ q.f0 = (S i).l.x.f0 ∧ q.f1 = (S i).l.x.f2) : from_ i q := by
  obtain ⟨a, b, c⟩ := hq
  rw [h.ends i hi] at b c
  exact ⟨a, b, c⟩
def sendS (S : Nat → Sd) (i : Nat) (s : ByteArray) : Nat → Sd := outS (upd S i (sdS (S i) s)) i (sdP (S i).l s)
def tickS (S : Nat → Sd) (i : Nat) : Nat → Sd := outS S i (outs (S i).l 0 (S i).l.out)
def popS (S : Nat → Sd) (i k : Nat) : Nat → Sd := upd S i (popR (S i) k)
def hearS (S : Nat → Sd) (i : Nat) (p : Pk) : Nat → Sd := outS (upd S i (tkS (S i) p)) i (tkP (S i).l p)
def comeS (S : Nat → Sd) (i k : Nat) : Nat → Sd := match (S i).row[k]? with
  | none => S
  | some p => hearS (popS S i k) i p
def twiceS (S : Nat → Sd) (i k : Nat) : Nat → Sd := match (S i).row[k]? with
  | none => S
  | some p => upd S i (dOut (S (1 - i)) (S i) [p])
theorem one_sub {i : Nat} (hi : i < 2) : 1 - i ≠ i ∧ 1 - i < 2 := by omega
theorem outS_at {S : Nat → Sd} {i : Nat} (hi : i < 2) (X : Sd) (ps : List Pk) : outS (upd S i X) i ps i = X ∧ outS (upd S i X) i ps (1 - i) = dOut X (S (1 - i)) ps := by
  obtain ⟨h1, h2⟩ := one_sub hi
  unfold outS
  refine ⟨?_, ?_⟩
  · rw [upd_ne _ _ (Ne.symm h1), upd_same]
  · rw [upd_same, upd_same, upd_ne _ _ h1]
theorem dOut_row {A A' B : Sd} (ps : List Pk) (h : A.row.length = A'.row.length) : dOut A B ps = dOut A' B ps := by unfold dOut pushR; rw [h]
theorem Good.mk' {f : Int} {S S' : Nat → Sd} (h : Good f S) {i : Nat} (hi : i < 2) (hI : Inv f (S' i) (S' (1 - i))) (hx : ∀ j, j < 2 → (S' j).l.x = (S j).l.x) : Good f S' :=
  ⟨InvS.mk hi hI, fun j hj => (hx j hj).trans (h.ends j hj)⟩
theorem by_two {P : Nat → Prop} {i : Nat} (hi : i < 2) (h1 : P i) (h2 : P (1 - i)) : ∀ j, j < 2 → P j := by
  intro j hj
  by_cases e : j = i
  · rw [e]; exact h1
  · have : j = 1 - i := by omega
    rw [this]; exact h2
theorem Good.send {f : Int} {S : Nat → Sd} (h : Good f S) {i : Nat} (hi : i < 2) (s : ByteArray) : Good f (sendS S i s) := by
  have hI := (h.inv.at hi).send s
  obtain ⟨e1, e2⟩ := outS_at (S := S) hi (sdS (S i) s) (sdP (S i).l s)
  have e3 : dOut (sdS (S i) s) (S (1 - i)) (sdP (S i).l s) = dOut (S i) (S (1 - i)) (sdP (S i).l s) := dOut_row _ rfl
  refine h.mk' hi ?_ (by_two hi ?_ ?_)
  · unfold sendS; rw [e1, e2, e3]; exact hI
  · unfold sendS; rw [e1]; show (sdL (S i).l s).x = _; unfold sdL; split <;> rfl
  · unfold sendS; rw [e2]; rfl
theorem Good.tick {f : Int} {S : Nat → Sd} (h : Good f S) {i : Nat} (hi : i < 2) : Good f (tickS S i) := by
  have hI := (h.inv.at hi).tick
  obtain ⟨h1, h2⟩ := one_sub hi
  have e1 : tickS S i i = S i := upd_ne _ _ (Ne.symm h1)
  have e2 : tickS S i (1 - i) = dOut (S i) (S (1 - i)) (outs (S i).l 0 (S i).l.out) := upd_same _ _ _
  refine h.mk' hi (by rw [e1, e2]; exact hI) (by_two hi (by rw [e1]) (by rw [e2]; rfl))
theorem Good.lose {f : Int} {S : Nat → Sd} (h : Good f S) {i : Nat} (hi : i < 2) (k : Nat) : Good f (popS S i k) := by
  have hI := (h.inv.at hi).lose k
  obtain ⟨h1, h2⟩ := one_sub hi
  have e1 : popS S i k i = popR (S i) k := upd_same _ _ _
  have e2 : popS S i k (1 - i) = S (1 - i) := upd_ne _ _ h1
  refine h.mk' hi (by rw [e1, e2]; exact hI) (by_two hi (by rw [e1]; rfl) (by rw [e2]))
theorem Good.twice {f : Int} {S : Nat → Sd} (h : Good f S) {i : Nat} (hi : i < 2) (k : Nat) : Good f (twiceS S i k) := by
  unfold twiceS
  cases hp : (S i).row[k]? with
  | none => exact h
  | some p =>
    have hI := (h.inv.at hi).twice (List.mem_of_getElem? hp)
    obtain ⟨h1, h2⟩ := one_sub hi
    have e1 : upd S i (dOut (S (1 - i)) (S i) [p]) i = dOut (S (1 - i)) (S i) [p] := upd_same _ _ _
    have e2 : upd S i (dOut (S (1 - i)) (S i) [p]) (1 - i) = S (1 - i) := upd_ne _ _ h1
    exact Good.mk' (S' := upd S i (dOut (S (1 - i)) (S i) [p])) h hi (by rw [e1, e2]; exact hI) (by_two hi (by rw [e1]; rfl) (by rw [e2]))
theorem tkL_x (l : Lk) (p : Pk) : (tkL l p).x = l.x := by
  unfold tkL
  split
  · show (tk2 l p).x = _; unfold tk2; split <;> rfl
  · rfl
theorem popS_at {S : Nat → Sd} {i : Nat} (hi : i < 2) (k : Nat) : popS S i k i = popR (S i) k ∧ popS S i k (1 - i) = S (1 - i) := ⟨upd_same _ _ _, upd_ne _ _ (one_sub hi).1⟩
theorem comeS_at {S : Nat → Sd} {i : Nat} (hi : i < 2) {k : Nat} {p : Pk} (hp : (S i).row[k]? = some p) : comeS S i k i = tkS (popR (S i) k) p ∧ comeS S i k (1 - i) = dOut (popR (S i) k) (S (1 - i)) (tkP (S i).l p) := by
  obtain ⟨e3, e4⟩ := popS_at (S := S) hi k
  obtain ⟨e1, e2⟩ := outS_at (S := popS S i k) hi (tkS (popS S i k i) p) (tkP (popS S i k i).l p)
  unfold comeS
  rw [hp]
  show hearS _ _ _ _ = _ ∧ hearS _ _ _ _ = _
  unfold hearS
  rw [e1, e2, e3, e4]
  exact ⟨rfl, dOut_row _ rfl⟩
theorem Good.come {f : Int} {S : Nat → Sd} (h : Good f S) {i : Nat} (hi : i < 2) (k : Nat) : Good f (comeS S i k) := by
  cases hp : (S i).row[k]? with
  | none => unfold comeS; rw [hp]; exact h
  | some p =>
    have hI := ((h.inv.at hi).come hp).2
    obtain ⟨e1, e2⟩ := comeS_at hi hp
    exact h.mk' hi (by rw [e1, e2]; exact hI) (by_two hi (by rw [e1]; exact tkL_x _ _) (by rw [e2]; rfl))
/-- The document's place of a number in a list of so many. -/
def atN (n : Int) (many : Nat) : Nat := (Int.tmod (Int.tmod n many + many) many).toNat
theorem atN_lt (n : Int) {many : Nat} (h : 0 < many) : atN n many < many ∧ (atN n many : Int) = Int.tmod (Int.tmod n many + many) many := by
  have a := Int.lt_tmod_of_pos n (show (0 : Int) < many by omega)
  have b := Int.tmod_nonneg (a := Int.tmod n many + many) (many : Int) (by omega)
  have c := Int.tmod_lt_of_pos (Int.tmod n many + many) (show (0 : Int) < many by omega)
  unfold atN
  omega
def doS (S : Nat → Sd) (d : S109) : Nat → Sd :=
  let i := atN d.f1 2
  if d.f0 = 0 then (if d.f3.size ≤ 300 then sendS S i d.f3 else S)
  else if d.f0 = 1 then tickS S i
  else if d.f0 = 2 ∨ d.f0 = 3 ∨ d.f0 = 4 then
    (if (S i).row.length = 0 then S
     else if d.f0 = 3 then twiceS S i (atN d.f2 (S i).row.length)
     else if d.f0 = 4 then popS S i (atN d.f2 (S i).row.length)
     else comeS S i (atN d.f2 (S i).row.length))
  else S
theorem Good.do {f : Int} {S : Nat → Sd} (h : Good f S) (d : S109) : Good f (doS S d) := by
  have hi : atN d.f1 2 < 2 := (atN_lt d.f1 (by decide)).1
  unfold doS
  dsimp only
  repeat' split
  · exact h.send hi _
  · exact h
  · exact h.tick hi
  · exact h
  · exact h.twice hi _
  · exact h.lose hi _
  · exact h.come hi _
  · exact h
theorem rd28_at {L : List Pk} {i : Nat} {x : Pk} (h : L[i]? = some x) : rd_T28 L (i : Int) = x := by
  unfold rd_T28
  rw [Int.toNat_natCast, List.getD_eq_getElem?_getD, h]
  rfl
/-- A row of packets, read. -/
def RowP (w : World) (ok : Nat → Prop) (A : Option Addr) (c : Nat) (xs : List Pk) : Prop := Kd.F k28 w ok A xs.length xs ∧ xs.length ≤ c
theorem RowP.of_R {w : World} {base : Nat} {ok : Nat → Prop} {v : Value} {xs : List Pk} (h : k28.R 28 w base ok v xs) : ∃ A c, v = .slice A xs.length c ∧ RowP w (fun k => ok k ∧ base ≤ k ∧ k < w.heap.size) A c xs := by
  have h2 := Kd.R_bound h
  obtain ⟨A, c, rfl, hc, _⟩ := Kd.R_reads h
  exact ⟨A, c, rfl, Kd.F_mono (Kd.R_F h2) (fun k hk => ⟨hk.1, hk.2.1, hk.2.2.1⟩), hc⟩
theorem RowP.mono {w : World} {ok ok' : Nat → Prop} {A : Option Addr} {c : Nat} {xs : List Pk} (h : RowP w ok A c xs) (hk : ∀ k, ok k → ok' k) : RowP w ok' A c xs := ⟨Kd.F_mono h.1 hk, h.2⟩
theorem RowP.below {w w' : World} {ok : Nat → Prop} {A : Option Addr} {c : Nat} {xs : List Pk} (h : RowP w ok A c xs) (hb : Below w.heap.size w w') : RowP w' ok A c xs := ⟨Kd.F_below h.1 hb, h.2⟩
theorem RowP.act {w w' : World} {ow : Nat → Nat} {t : Nat} {A : Option Addr} {c : Nat} {xs : List Pk} (h : RowP w (fun k => ow k ≠ t) A c xs) (hm : Mods (fun k => ow k = t) w w') : RowP w' (fun k => tg ow w w' t k ≠ t) A c xs :=
  ⟨Kd.F_mono (Kd.F_step (Kd.F_bound h.1) (fun k hk hlt => hm.block k hlt hk.1)) (fun k hk => by rw [tg_old hk.2]; exact hk.1), h.2⟩
section
variable {w0 w : World} {bx gN : Nat} {ga ma : Nat → Nat} {va sv gv : Nat → Value} {ow : Nat → Nat} {S : Nat → Sd}
end
end Go.Proofs.Ytdibaeomepallaa.LK
