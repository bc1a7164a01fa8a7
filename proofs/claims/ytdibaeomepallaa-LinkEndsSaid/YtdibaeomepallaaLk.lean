/- The deeds of a pair in plain words; packets go under way (pair.out). By hand. -/
import Derived.Test.YtdibaeomepallaaLj
namespace Go.Proofs.Ytdibaeomepallaa.LK
open Go.RowKit Go.Proofs.YtdibaeomepallaaW.PrintWords Go.Proofs.YtdibaeomepallaaW.PrintLast Go.Proofs.YtdibaeomepallaaW.PrintMore Go.Proofs.Ytdibaeomepallaa.PAll Go.Proofs.Ytdibaeomepallaa.NW
set_option linter.unusedVariables false
set_option linter.unusedSimpArgs false
set_option maxRecDepth 100000
/-! ### deeds of a pair -/
theorem hears_pk {f : Int} {R S : Sd} (h : Inv f R S) {p : Pk} (hp : ∀ b w, Half f b w S R → POk f (b + S.l.out) S p) : ∀ q ∈ tkP R.l p, okP q = true ∧ q.f0 = R.l.x.f0 ∧ q.f1 = R.l.x.f2 := by
  obtain ⟨c, v, hrs⟩ := h.ab
  obtain ⟨b, w, hsr⟩ := h.ba
  have hpk := hp b w hsr
  have hE : tkE R.l p = 0 := (h.hears hp).1
  have a1 := hrs.acked hpk.ack
  have a2 := hsr.acked' p.f5
  have key : ∃ w', Half f b w' S { R with l := tk2 R.l p, got := R.got ++ tkT R.l p } ∧ Half f (c + ackN R.l p.f5) v { R with l := tk2 R.l p, got := R.got ++ tkT R.l p } S := by
    unfold tk2 tkT
    by_cases h4 : p.f4 = 0
    · rw [if_pos h4, if_neg (fun e => e.2 h4), List.append_nil]
      exact ⟨w, a2, a1⟩
    · rw [if_neg h4, if_pos ⟨hE, h4⟩]
      obtain ⟨d, _, hd, _⟩ := a2.comes { hpk with } h4
      exact ⟨w + d, hd, a1.comes' _ _ _⟩
  obtain ⟨w', k1, k2⟩ := key
  have hx : (tk2 R.l p).x = R.l.x := by unfold tk2; split <;> rfl
  intro q hq
  rcases tkP_ok hE hq with hq | rfl
  · have := k2.goP k1 q hq
    exact ⟨this.ok, this.f0.trans (by show (tk2 R.l p).x.f0 = _; rw [hx]), this.f1.trans (by show (tk2 R.l p).x.f2 = _; rw [hx])⟩
  · have := k2.pkt k1 0 e0 (.inl ⟨rfl, rfl⟩)
    exact ⟨this.ok, this.f0.trans (by show (tk2 R.l p).x.f0 = _; rw [hx]), this.f1.trans (by show (tk2 R.l p).x.f2 = _; rw [hx])⟩
theorem send_pk {f : Int} {A B : Sd} (h : Inv f A B) (s : ByteArray) : ∀ q ∈ sdP A.l s, okP q = true ∧ q.f0 = A.l.x.f0 ∧ q.f1 = A.l.x.f2 := by
  intro q hq
  by_cases hE : sdE A.l s = 0
  · obtain ⟨h1, h2, h3⟩ := sdE_ok hE
    obtain ⟨b, w, hab⟩ := h.ab
    obtain ⟨c, v, hba⟩ := h.ba
    have k1 := hab.adds h1 h3 h2
    have k2 := hba.adds' s
    have eP : sdP A.l s = goP { A.l with q := A.l.q ++ [s] } := if_pos hE
    rw [eP] at hq
    have := k1.goP k2 q hq
    exact ⟨this.ok, this.f0, this.f1⟩
  · have eP : sdP A.l s = [] := if_neg hE
    rw [eP] at hq
    cases hq
theorem tick_pk {f : Int} {A B : Sd} (h : Inv f A B) : ∀ q ∈ outs A.l 0 A.l.out, okP q = true ∧ q.f0 = A.l.x.f0 ∧ q.f1 = A.l.x.f2 := by
  intro q hq
  obtain ⟨b, w, hab⟩ := h.ab
  obtain ⟨c, v, hba⟩ := h.ba
  obtain ⟨i, h1, h2, rfl⟩ := mem_outs hq
  have := hab.nth hba (i := i) (by omega)
  exact ⟨this.ok, this.f0, this.f1⟩
theorem Inv.bd {f : Int} {A B : Sd} (h : Inv f A B) : Bd A.l ∧ A.l.er.length ≤ 999 := by
  obtain ⟨b, w, hab⟩ := h.ab
  obtain ⟨c, v, hba⟩ := h.ba
  have h1 := hab.base
  have h2 := hab.qlen
  have h3 := hab.num
  have h4 := hba.early
  have h5 := hba.want
  have h6 := hba.num
  have h7 := hba.wlen
  have h8 := hab.outb
  have h9 := hab.hf
  exact ⟨⟨by omega, by omega, hab.out8, by omega, hab.q64, by omega, by omega, by omega⟩, by omega⟩
/-- The pair is as it should be: both ways, and the ends are 1 and 2. -/
structure Good (f : Int) (S : Nat → Sd) : Prop where
  inv : InvS f S
  ends : ∀ i, i < 2 → (S i).l.x = ⟨1 + (i : Int), 1, 2 - (i : Int), 1, f⟩
theorem Good.from {f : Int} {S : Nat → Sd} (h : Good f S) {i : Nat} (hi : i < 2) {q : Pk} (hq : okP q = true ∧ q.f0 = (S i).l.x.f0 ∧ q.f1 = (S i).l.x.f2) : from_ i q := by
  obtain ⟨a, b, c⟩ := hq
  rw [h.ends i hi] at b c
  exact ⟨a, b, c⟩
def sendS (S : Nat → Sd) (i : Nat) (s : ByteArray) : Nat → Sd := outS (upd S i (sdS (S i) s)) i (sdP (S i).l s)
def tickS (S : Nat → Sd) (i : Nat) : Nat → Sd := outS S i (outs (S i).l 0 (S i).l.out)
def popS (S : Nat → Sd) (i k : Nat) : Nat → Sd := upd S i (popR (S i) k)
def hearS (S : Nat → Sd) (i : Nat) (p : Pk) : Nat → Sd := outS (upd S i (tkS (S i) p)) i (tkP (S i).l p)
def comeS (S : Nat → Sd) (i k : Nat) : Nat → Sd := match (S i).row[k]? with
  | none => S
  | some p => hearS (popS S i k) i p
def twiceS (S : Nat → Sd) (i k : Nat) : Nat → Sd := match (S i).row[k]? with
  | none => S
  | some p => upd S i (dOut (S (1 - i)) (S i) [p])
theorem one_sub {i : Nat} (hi : i < 2) : 1 - i ≠ i ∧ 1 - i < 2 := by omega
theorem outS_at {S : Nat → Sd} {i : Nat} (hi : i < 2) (X : Sd) (ps : List Pk) : outS (upd S i X) i ps i = X ∧ outS (upd S i X) i ps (1 - i) = dOut X (S (1 - i)) ps := by
  obtain ⟨h1, h2⟩ := one_sub hi
  unfold outS
  refine ⟨?_, ?_⟩
  · rw [upd_ne _ _ (Ne.symm h1), upd_same]
  · rw [upd_same, upd_same, upd_ne _ _ h1]
theorem dOut_row {A A' B : Sd} (ps : List Pk) (h : A.row.length = A'.row.length) : dOut A B ps = dOut A' B ps := by unfold dOut pushR; rw [h]
theorem Good.mk' {f : Int} {S S' : Nat → Sd} (h : Good f S) {i : Nat} (hi : i < 2) (hI : Inv f (S' i) (S' (1 - i))) (hx : ∀ j, j < 2 → (S' j).l.x = (S j).l.x) : Good f S' :=
  ⟨InvS.mk hi hI, fun j hj => (hx j hj).trans (h.ends j hj)⟩
theorem by_two {P : Nat → Prop} {i : Nat} (hi : i < 2) (h1 : P i) (h2 : P (1 - i)) : ∀ j, j < 2 → P j := by
  intro j hj
  by_cases e : j = i
  · rw [e]; exact h1
  · have : j = 1 - i := by omega
    rw [this]; exact h2
theorem Good.send {f : Int} {S : Nat → Sd} (h : Good f S) {i : Nat} (hi : i < 2) (s : ByteArray) : Good f (sendS S i s) := by
  have hI := (h.inv.at hi).send s
  obtain ⟨e1, e2⟩ := outS_at (S := S) hi (sdS (S i) s) (sdP (S i).l s)
  have e3 : dOut (sdS (S i) s) (S (1 - i)) (sdP (S i).l s) = dOut (S i) (S (1 - i)) (sdP (S i).l s) := dOut_row _ rfl
  refine h.mk' hi ?_ (by_two hi ?_ ?_)
  · unfold sendS; rw [e1, e2, e3]; exact hI
  · unfold sendS; rw [e1]; show (sdL (S i).l s).x = _; unfold sdL; split <;> rfl
  · unfold sendS; rw [e2]; rfl
theorem Good.tick {f : Int} {S : Nat → Sd} (h : Good f S) {i : Nat} (hi : i < 2) : Good f (tickS S i) := by
  have hI := (h.inv.at hi).tick
  obtain ⟨h1, h2⟩ := one_sub hi
  have e1 : tickS S i i = S i := upd_ne _ _ (Ne.symm h1)
  have e2 : tickS S i (1 - i) = dOut (S i) (S (1 - i)) (outs (S i).l 0 (S i).l.out) := upd_same _ _ _
  refine h.mk' hi (by rw [e1, e2]; exact hI) (by_two hi (by rw [e1]) (by rw [e2]; rfl))
theorem Good.lose {f : Int} {S : Nat → Sd} (h : Good f S) {i : Nat} (hi : i < 2) (k : Nat) : Good f (popS S i k) := by
  have hI := (h.inv.at hi).lose k
  obtain ⟨h1, h2⟩ := one_sub hi
  have e1 : popS S i k i = popR (S i) k := upd_same _ _ _
  have e2 : popS S i k (1 - i) = S (1 - i) := upd_ne _ _ h1
  refine h.mk' hi (by rw [e1, e2]; exact hI) (by_two hi (by rw [e1]; rfl) (by rw [e2]))
theorem Good.twice {f : Int} {S : Nat → Sd} (h : Good f S) {i : Nat} (hi : i < 2) (k : Nat) : Good f (twiceS S i k) := by
  unfold twiceS
  cases hp : (S i).row[k]? with
  | none => exact h
  | some p =>
    have hI := (h.inv.at hi).twice (List.mem_of_getElem? hp)
    obtain ⟨h1, h2⟩ := one_sub hi
    have e1 : upd S i (dOut (S (1 - i)) (S i) [p]) i = dOut (S (1 - i)) (S i) [p] := upd_same _ _ _
    have e2 : upd S i (dOut (S (1 - i)) (S i) [p]) (1 - i) = S (1 - i) := upd_ne _ _ h1
    exact Good.mk' (S' := upd S i (dOut (S (1 - i)) (S i) [p])) h hi (by rw [e1, e2]; exact hI) (by_two hi (by rw [e1]; rfl) (by rw [e2]))
theorem tkL_x (l : Lk) (p : Pk) : (tkL l p).x = l.x := by
  unfold tkL
  split
  · show (tk2 l p).x = _; unfold tk2; split <;> rfl
  · rfl
theorem popS_at {S : Nat → Sd} {i : Nat} (hi : i < 2) (k : Nat) : popS S i k i = popR (S i) k ∧ popS S i k (1 - i) = S (1 - i) := ⟨upd_same _ _ _, upd_ne _ _ (one_sub hi).1⟩
theorem comeS_at {S : Nat → Sd} {i : Nat} (hi : i < 2) {k : Nat} {p : Pk} (hp : (S i).row[k]? = some p) : comeS S i k i = tkS (popR (S i) k) p ∧ comeS S i k (1 - i) = dOut (popR (S i) k) (S (1 - i)) (tkP (S i).l p) := by
  obtain ⟨e3, e4⟩ := popS_at (S := S) hi k
  obtain ⟨e1, e2⟩ := outS_at (S := popS S i k) hi (tkS (popS S i k i) p) (tkP (popS S i k i).l p)
  unfold comeS
  rw [hp]
  show hearS _ _ _ _ = _ ∧ hearS _ _ _ _ = _
  unfold hearS
  rw [e1, e2, e3, e4]
  exact ⟨rfl, dOut_row _ rfl⟩
theorem Good.come {f : Int} {S : Nat → Sd} (h : Good f S) {i : Nat} (hi : i < 2) (k : Nat) : Good f (comeS S i k) := by
  cases hp : (S i).row[k]? with
  | none => unfold comeS; rw [hp]; exact h
  | some p =>
    have hI := ((h.inv.at hi).come hp).2
    obtain ⟨e1, e2⟩ := comeS_at hi hp
    exact h.mk' hi (by rw [e1, e2]; exact hI) (by_two hi (by rw [e1]; exact tkL_x _ _) (by rw [e2]; rfl))
/-- The document's place of a number in a list of so many. -/
def atN (n : Int) (many : Nat) : Nat := (Int.tmod (Int.tmod n many + many) many).toNat
theorem atN_lt (n : Int) {many : Nat} (h : 0 < many) : atN n many < many ∧ (atN n many : Int) = Int.tmod (Int.tmod n many + many) many := by
  have a := Int.lt_tmod_of_pos n (show (0 : Int) < many by omega)
  have b := Int.tmod_nonneg (a := Int.tmod n many + many) (many : Int) (by omega)
  have c := Int.tmod_lt_of_pos (Int.tmod n many + many) (show (0 : Int) < many by omega)
  unfold atN
  omega
def doS (S : Nat → Sd) (d : S109) : Nat → Sd :=
  let i := atN d.f1 2
  if d.f0 = 0 then (if d.f3.size ≤ 300 then sendS S i d.f3 else S)
  else if d.f0 = 1 then tickS S i
  else if d.f0 = 2 ∨ d.f0 = 3 ∨ d.f0 = 4 then
    (if (S i).row.length = 0 then S
     else if d.f0 = 3 then twiceS S i (atN d.f2 (S i).row.length)
     else if d.f0 = 4 then popS S i (atN d.f2 (S i).row.length)
     else comeS S i (atN d.f2 (S i).row.length))
  else S
theorem Good.do {f : Int} {S : Nat → Sd} (h : Good f S) (d : S109) : Good f (doS S d) := by
  have hi : atN d.f1 2 < 2 := (atN_lt d.f1 (by decide)).1
  unfold doS
  dsimp only
  repeat' split
  · exact h.send hi _
  · exact h
  · exact h.tick hi
  · exact h
  · exact h.twice hi _
  · exact h.lose hi _
  · exact h.come hi _
  · exact h
def freshL (f : Int) (i : Nat) : Sd := ⟨newL ⟨1 + (i : Int), 1, 2 - (i : Int), 1, f⟩, [], [], []⟩
theorem half_fresh (f : Int) (h1 : 1 ≤ f) (h2 : f ≤ 1099511627775) {i j : Nat} (hi : i < 2) (hj : j = 1 - i) : Half f 0 0 (freshL f i) (freshL f j) := by
  subst hj
  exact { hf := h1, base := (by show f = f + 0; omega), want := (by show f = f + 0; omega), q := rfl, out8 := Nat.zero_le _, outb := Nat.le_refl _, q64 := Nat.zero_le _, num := (by show f + ((0 : Nat) : Int) ≤ _; omega), bw := Nat.le_refl _, wo := Nat.le_refl _, got := rfl, row := fun p hp => (by cases hp), er := fun e he => (by cases he), keys := List.Pairwise.nil, size := fun s hs => (by cases hs), x0 := (by show 1 + (i : Int) = 2 - ((1 - i : Nat) : Int); omega), x1 := rfl, x2 := (by show 2 - (i : Int) = 1 + ((1 - i : Nat) : Int); omega), x3 := rfl, may := (by show (1 ≤ 1 + (i : Int) ∧ 1 + (i : Int) ≤ 15) ∧ (1 ≤ 2 - (i : Int) ∧ 2 - (i : Int) ≤ 15) ∧ 1 + (i : Int) ≠ 2 - (i : Int) ∧ (1 ≤ (1 : Int) ∧ (1 : Int) ≤ 1099511627775) ∧ (1 ≤ (1 : Int) ∧ (1 : Int) ≤ 1099511627775); omega) }
theorem good_fresh (f : Int) (h1 : 1 ≤ f) (h2 : f ≤ 1099511627775) : Good f (freshL f) :=
  ⟨⟨⟨0, 0, half_fresh f h1 h2 (i := 0) (by decide) rfl⟩, ⟨0, 0, half_fresh f h1 h2 (i := 1) (by decide) rfl⟩, rfl, rfl, Nat.zero_le _⟩, fun i _ => rfl⟩
theorem rd28_at {L : List Pk} {i : Nat} {x : Pk} (h : L[i]? = some x) : rd_T28 L (i : Int) = x := by
  unfold rd_T28
  rw [Int.toNat_natCast, List.getD_eq_getElem?_getD, h]
  rfl
/-- A row of packets, read. -/
def RowP (w : World) (ok : Nat → Prop) (A : Option Addr) (c : Nat) (xs : List Pk) : Prop := Kd.F k28 w ok A xs.length xs ∧ xs.length ≤ c
theorem RowP.of_R {w : World} {base : Nat} {ok : Nat → Prop} {v : Value} {xs : List Pk} (h : k28.R 28 w base ok v xs) : ∃ A c, v = .slice A xs.length c ∧ RowP w (fun k => ok k ∧ base ≤ k ∧ k < w.heap.size) A c xs := by
  have h2 := Kd.R_bound h
  obtain ⟨A, c, rfl, hc, _⟩ := Kd.R_reads h
  exact ⟨A, c, rfl, Kd.F_mono (Kd.R_F h2) (fun k hk => ⟨hk.1, hk.2.1, hk.2.2.1⟩), hc⟩
theorem RowP.mono {w : World} {ok ok' : Nat → Prop} {A : Option Addr} {c : Nat} {xs : List Pk} (h : RowP w ok A c xs) (hk : ∀ k, ok k → ok' k) : RowP w ok' A c xs := ⟨Kd.F_mono h.1 hk, h.2⟩
theorem RowP.below {w w' : World} {ok : Nat → Prop} {A : Option Addr} {c : Nat} {xs : List Pk} (h : RowP w ok A c xs) (hb : Below w.heap.size w w') : RowP w' ok A c xs := ⟨Kd.F_below h.1 hb, h.2⟩
theorem RowP.act {w w' : World} {ow : Nat → Nat} {t : Nat} {A : Option Addr} {c : Nat} {xs : List Pk} (h : RowP w (fun k => ow k ≠ t) A c xs) (hm : Mods (fun k => ow k = t) w w') : RowP w' (fun k => tg ow w w' t k ≠ t) A c xs :=
  ⟨Kd.F_mono (Kd.F_step (Kd.F_bound h.1) (fun k hk hlt => hm.block k hlt hk.1)) (fun k hk => by rw [tg_old hk.2]; exact hk.1), h.2⟩
section
variable {w0 w : World} {bx gN : Nat} {ga ma : Nat → Nat} {va sv gv : Nat → Value} {ow : Nat → Nat} {S : Nat → Sd}
theorem outS_mem {S : Nat → Sd} {i : Nat} (hi : i < 2) (xs : List Pk) : ∀ j, j < 2 → (outS S i xs j).l = (S j).l ∧ (outS S i xs j).sent = (S j).sent ∧ (outS S i xs j).got = (S j).got := by
  intro j hj
  unfold outS
  by_cases e : j = 1 - i
  · subst e; rw [upd_same]; exact ⟨rfl, rfl, rfl⟩
  · rw [upd_ne _ _ e]; exact ⟨rfl, rfl, rfl⟩
theorem outS_same {S : Nat → Sd} {i : Nat} (hi : i < 2) (xs ys : List Pk) : ∀ j, j < 2 → (outS S i xs j).l = (outS S i ys j).l ∧ (outS S i xs j).sent = (outS S i ys j).sent ∧ (outS S i xs j).got = (outS S i ys j).got := fun j hj => by
  obtain ⟨a, b, c⟩ := outS_mem hi xs j hj
  obtain ⟨d, e, f⟩ := outS_mem (S := S) hi ys j hj
  exact ⟨a.trans d.symm, b.trans e.symm, c.trans f.symm⟩
theorem outS_cap {S : Nat → Sd} {i : Nat} (hi : i < 2) (xs : List Pk) (h : (S 0).row.length + (S 1).row.length ≤ 400) : cnt (qOf (outS S i xs 0).row (outS S i xs 1).row) ≤ 1000 := by
  rw [qOf_cnt]
  rcases two_cases hi with rfl | rfl
  · have := dOut_le (A := S 0) (B := S 1) xs h
    show (S 0).row.length + (dOut (S 0) (S 1) xs).row.length ≤ 1000
    omega
  · have := dOut_le (A := S 1) (B := S 0) xs (by omega)
    show (dOut (S 1) (S 0) xs).row.length + (S 1).row.length ≤ 1000
    omega
set_option maxHeartbeats 4000000 in
theorem out_is (h : PS w0 w bx gN ga ma va sv gv ow S) {i : Nat} (hi : i < 2) {A : Option Addr} {c : Nat} {xs : List Pk} (hx : RowP w (fun k => ow k ≠ 3) A c xs) (hf : ∀ p ∈ xs, from_ i p) (hcap : (S 0).row.length + (S 1).row.length ≤ 400) (hl : xs.length ≤ 1000) :
    Calls Try.prog 55 #[ptr bx, .slice A xs.length c] w fun e w' => e = .returned (.tuple #[]) ∧ ∃ ow', PS w0 w' bx gN ga ma va sv gv ow' (outS S i xs) := by
  have HF := Aside0.mk hf
  have HI := Aside0.mk hi
  have HC := Aside0.mk hcap
  have HP0 := Aside0.mk (show PS w0 w bx gN ga ma va sv gv ow (outS S i (xs.take 0)) by rw [List.take_zero, outS_nil hi]; exact h)
  have HX0 := Aside0.mk hx
  clear h hx hf hcap hi
  go_enter Try.func55, Try.ntmps55
  go_wp2
  go_loopg [4] xs.length (fun kq v4 w' => ∃ (n : Nat) (ow' : Nat → Nat), v4 = .int .i64 n ∧ Aside0 (n + kq = xs.length) ∧ Aside0 (PS w0 w' bx gN ga ma va sv gv ow' (outS S i (xs.take n))) ∧ Aside0 (RowP w' (fun k => ow' k ≠ 3) A c xs))
  case atStart => exact ⟨0, ow, rfl, ⟨by omega⟩, HP0, HX0⟩
  case round =>
    clear HP0 HX0
    obtain ⟨n, ow', rfl, HN, HP, HX⟩ := hrel
    have hn := HN.out
    cases gk with
    | zero =>
      have d1 : decide (n < xs.length) = false := decide_eq_false (by omega)
      have HE := Aside0.mk (show xs.take n = xs from List.take_of_length_le (by omega))
      go_wp2
      go_end0
      exact ⟨rfl, ow', by have h := HP.out; rw [HE.out] at h; exact h⟩
    | succ k1 =>
      have hlt : n < xs.length := by omega
      have d1 : decide (n < xs.length) = true := decide_eq_true hlt
      obtain ⟨p, hp⟩ : ∃ p, xs[n]? = some p := ⟨_, List.getElem?_eq_getElem hlt⟩
      have HFp := Aside0.mk (HF.out p (List.mem_of_getElem? hp))
      have HT := Aside0.mk (show xs.take (n + 1) = xs.take n ++ [p] by rw [List.take_add_one, hp]; rfl)
      go_wp2
      have HPd := Aside0.mk HP.out.drew
      have HXd := Aside0.mk (HX.out.below (below_drew1 (Below.refl _ _)))
      obtain ⟨ad, hA, e0, e1, e2, e3, e4, e5, e6⟩ := at_T28 (Kd.F_now HXd.out.1) (n : Int) (by omega) (by omega)
      subst hA
      rw [rd28_at hp] at e0 e1 e2 e3 e4 e5 e6
      clear hp
      simp only [Int.toNat_natCast] at e0 e1 e2 e3 e4 e5 e6
      have b2 : wr.drew.cell? ⟨bx, 2, none⟩ = some (ptr gN) := (blk_cell HPd.out.box 2).trans rfl
      have i1 : (0 : Int) ≤ (n : Int) := by omega
      have i2 : (n : Int) < (xs.length : Int) := by omega
      refine start_ (n := 9) (S := fun w' => w'.cell? ⟨bx, 2, none⟩ = some (ptr gN) ∧ w'.cell? (ad.add (n * 7)) = some (.int .i64 p.f0) ∧ w'.cell? ⟨(ad.add (n * 7)).block, (ad.add (n * 7)).off + 1, none⟩ = some (.int .i64 p.f1) ∧ w'.cell? ⟨(ad.add (n * 7)).block, (ad.add (n * 7)).off + 2, none⟩ = some (.int .i64 p.f2) ∧ w'.cell? ⟨(ad.add (n * 7)).block, (ad.add (n * 7)).off + 3, none⟩ = some (.int .i64 p.f3) ∧ w'.cell? ⟨(ad.add (n * 7)).block, (ad.add (n * 7)).off + 4, none⟩ = some (.int .i64 p.f4) ∧ w'.cell? ⟨(ad.add (n * 7)).block, (ad.add (n * 7)).off + 5, none⟩ = some (.int .i64 p.f5) ∧ w'.cell? ⟨(ad.add (n * 7)).block, (ad.add (n * 7)).off + 6, none⟩ = some (.string p.f6)) (ds := [8]) #[false, false, false, false, false, false, false, false, false] (by kernel_rfl) rfl rfl ⟨b2, e0, e1, e2, e3, e4, e5, e6⟩ (fun hHeld => ?_)
      refine pure_ (i := 0) (N := some 11) (v := ?_) (a' := ?_) #[true, false, false, false, false, false, false, false, false] rfl rfl (by kernel_rfl) (fun _ _ _ h => h) (Or.inl ⟨by rfl, ?_⟩) ?_ ?_
      rotate_left
      · intro w'; go_simp; with_reducible rfl
      rotate_left
      · simp only [Act.put, List.setIfInBounds_toArray, List.set_cons_zero, List.set_cons_succ, i64_w, i32_w]; rfl
      refine pure_ (i := 1) (N := some 12) (v := ?_) (a' := ?_) #[true, true, false, false, false, false, false, false, false] rfl rfl (by kernel_rfl) (fun _ _ _ h => h) (Or.inl ⟨by rfl, ?_⟩) ?_ ?_
      rotate_left
      · intro w'; go_simp; with_reducible rfl
      rotate_left
      · simp only [Act.put, List.setIfInBounds_toArray, List.set_cons_zero, List.set_cons_succ, i64_w, i32_w]; rfl
      refine pure_ (i := 2) (N := some 13) (v := ?_) (a' := ?_) #[true, true, true, false, false, false, false, false, false] rfl rfl (by kernel_rfl) (fun _ _ _ h => h) (Or.inl ⟨by rfl, ?_⟩) ?_ ?_
      rotate_left
      · intro w'; go_simp; with_reducible rfl
      rotate_left
      · simp only [Act.put, List.setIfInBounds_toArray, List.set_cons_zero, List.set_cons_succ, i64_w, i32_w]; rfl
      refine take_ (i := 3) (N := some 14) (v := ?_) (a' := ?_) #[true, true, true, true, false, false, false, false, false] rfl rfl (by kernel_rfl) (fun _ _ _ h => h) (Or.inl ⟨by rfl, ?_⟩) hHeld ?_ ?_
      rotate_left
      · rintro w' ⟨s0, s1, s2, s3, s4, s5, s6, s7⟩; go_simp; with_reducible rfl
      rotate_left
      · simp only [Act.put, List.setIfInBounds_toArray, List.set_cons_zero, List.set_cons_succ, i64_w, i32_w]; rfl
      refine pure_ (i := 4) (N := some 15) (v := ?_) (a' := ?_) #[true, true, true, true, true, false, false, false, false] rfl rfl (by kernel_rfl) (fun _ _ _ h => h) (Or.inl ⟨by rfl, ?_⟩) ?_ ?_
      rotate_left
      · intro w'; go_simp; with_reducible rfl
      rotate_left
      · simp only [Act.put, List.setIfInBounds_toArray, List.set_cons_zero, List.set_cons_succ, i64_w, i32_w]; rfl
      refine pure_ (i := 5) (N := some 16) (v := ?_) (a' := ?_) #[true, true, true, true, true, true, false, false, false] rfl rfl (by kernel_rfl) (fun _ _ _ h => h) (Or.inl ⟨by rfl, ?_⟩) ?_ ?_
      rotate_left
      · intro w'; go_simp; with_reducible rfl
      rotate_left
      · simp only [Act.put, List.setIfInBounds_toArray, List.set_cons_zero, List.set_cons_succ, i64_w, i32_w]; rfl
      refine pure_ (i := 6) (N := some 17) (v := ?_) (a' := ?_) #[true, true, true, true, true, true, true, false, false] rfl rfl (by kernel_rfl) (fun _ _ _ h => h) (Or.inl ⟨by rfl, ?_⟩) ?_ ?_
      rotate_left
      · intro w'; go_simp; with_reducible rfl
      rotate_left
      · simp only [Act.put, List.setIfInBounds_toArray, List.set_cons_zero, List.set_cons_succ, i64_w, i32_w]; rfl
      refine take_ (i := 7) (N := some 18) (v := ?_) (a' := ?_) #[true, true, true, true, true, true, true, true, false] rfl rfl (by kernel_rfl) (fun _ _ _ h => h) (Or.inl ⟨by rfl, ?_⟩) hHeld ?_ ?_
      rotate_left
      · rintro w' ⟨s0, s1, s2, s3, s4, s5, s6, s7⟩; go_simp; with_reducible rfl
      rotate_left
      · simp only [Act.put, List.setIfInBounds_toArray, List.set_cons_zero, List.set_cons_succ, i64_w, i32_w]; rfl
      clear b2 e0 e1 e2 e3 e4 e5 e6
      refine last_ (i := 8) (N := some 19) #[true, true, true, true, true, true, true, true, true] rfl rfl (by kernel_rfl) (by decide) (fun K hK => ?_)
      refine goes_ Try.func17 (by kernel_rfl) rfl #[ptr gN, .agg #[.int .i64 p.f0, .int .i64 p.f1, .int .i64 p.f2, .int .i64 p.f3, .int .i64 p.f4, .int .i64 p.f5, .string p.f6]] (by rfl) rfl rfl (by first | rfl | (simp only [List.map_toArray, List.map_cons, List.map_nil]; rfl)) ?_
      refine (NW.send_is p HPd.out.net (outS_cap HI.out _ HC.out)).mono ?_
      rintro e W2 ⟨rfl, hn2, hm2⟩
      have HP2 := Aside0.mk (HPd.out.netAct (S' := outS S i (xs.take (n + 1))) hn2 hm2 (by rw [HT.out]; exact send_snoc HI.out HFp.out _) (outS_same HI.out _ _))
      have HX2 := Aside0.mk (HXd.out.act hm2)
      clear hn2 hm2
      refine ⟨_, rfl, hK.out _ _ ?_⟩
      clear hK K
      refine done_ (by kernel_rfl) ?_
      go_wp2
      go_roundg k1
      case measure => omega
      case rel => exact ⟨n + 1, _, by first | rfl | simp, ⟨by omega⟩, HP2, HX2⟩
end
end Go.Proofs.Ytdibaeomepallaa.LK
