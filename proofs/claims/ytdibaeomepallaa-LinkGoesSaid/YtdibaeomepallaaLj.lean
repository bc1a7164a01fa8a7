/- A pair of ends and the net between them in memory: to whom each block belongs, and what an act of one of them leaves of the others. -/
import Derived.Test.YtdibaeomepallaaLi
namespace Go.Proofs.Ytdibaeomepallaa.LK
open Go.RowKit Go.Proofs.YtdibaeomepallaaW.PrintWords Go.Proofs.YtdibaeomepallaaW.PrintLast Go.Proofs.YtdibaeomepallaaW.PrintMore Go.Proofs.Ytdibaeomepallaa.PAll Go.Proofs.Ytdibaeomepallaa.NW
set_option linter.unusedVariables false
set_option linter.unusedSimpArgs false
set_option maxRecDepth 100000
/-! ### the net of a pair: two rows -/
def qz : List (List Pk) := List.replicate 256 []
def az : List Bool := List.replicate 256 false
/-- The net whose row to the first end is r0, to the second r1. -/
def qOf (r0 r1 : List Pk) : List (List Pk) := (qz.set 33 r0).set 18 r1
theorem qOf_new : qOf [] [] = qz := by kernel_rfl
theorem qOf_33 (r0 r1 : List Pk) : (qOf r0 r1).getD 33 [] = r0 := by
  have hl : (qz.set 33 r0).length = 256 := by simp [qz]
  have hz : qz.length = 256 := by simp [qz]
  unfold qOf
  rw [List.getD_eq_getElem?_getD, List.getElem?_set_ne (by decide), List.getElem?_set_self (by omega)]
  rfl
theorem qOf_18 (r0 r1 : List Pk) : (qOf r0 r1).getD 18 [] = r1 := by
  have hl : (qz.set 33 r0).length = 256 := by simp [qz]
  unfold qOf
  rw [List.getD_eq_getElem?_getD, List.getElem?_set_self (by omega)]
  rfl
theorem qOf_set33 (r0 r1 x : List Pk) : (qOf r0 r1).set 33 x = qOf x r1 := by
  unfold qOf
  rw [List.set_comm _ _ (by decide), List.set_set]
theorem qOf_set18 (r0 r1 x : List Pk) : (qOf r0 r1).set 18 x = qOf r0 x := by
  unfold qOf
  rw [List.set_set]
theorem cnt_setL {q : List (List Pk)} {i : Nat} {xs : List Pk} (hi : q[i]? = some xs) (ys : List Pk) : cnt (q.set i ys) + xs.length = cnt q + ys.length := by
  unfold cnt
  induction q generalizing i with
  | nil => simp at hi
  | cons x r ih =>
    cases i with
    | zero =>
      rw [List.getElem?_cons_zero] at hi
      injection hi with hi
      subst hi
      simp only [List.set_cons_zero, List.map_cons, List.sum_cons]
      omega
    | succ i =>
      rw [List.getElem?_cons_succ] at hi
      have := ih hi
      simp only [List.set_cons_succ, List.map_cons, List.sum_cons]
      omega
theorem qOf_cnt (r0 r1 : List Pk) : cnt (qOf r0 r1) = r0.length + r1.length := by
  have h0 : cnt qz = 0 := by kernel_rfl
  have h1 := cnt_setL (q := qz) (i := 33) (xs := []) (by kernel_rfl) r0
  have h2 := cnt_setL (q := qz.set 33 r0) (i := 18) (xs := []) (by rw [List.getElem?_set_ne (by decide)]; kernel_rfl) r1
  unfold qOf
  simp only [List.length_nil] at h1 h2
  omega
theorem hop12 : hopB 1 2 = true ∧ hopB 2 1 = true := ⟨by decide, by decide⟩
theorem rowAt_0 (r0 r1 : List Pk) : NW.rowAt (qOf r0 r1) 2 1 = r0 := by unfold NW.rowAt; rw [if_pos hop12.2]; exact qOf_33 r0 r1
theorem rowAt_1 (r0 r1 : List Pk) : NW.rowAt (qOf r0 r1) 1 2 = r1 := by unfold NW.rowAt; rw [if_pos hop12.1]; exact qOf_18 r0 r1
theorem cut_az (a b : Int) : cutB az a b = false := by
  unfold cutB
  have : az.getD (at2 a b) false = false := by
    rw [List.getD_eq_getElem?_getD]
    unfold az
    rw [List.getElem?_replicate]
    split <;> rfl
  rw [this, Bool.and_false]
/-! ### sides -/
def upd {α : Type} (S : Nat → α) (i : Nat) (X : α) : Nat → α := fun j => if j = i then X else S j
theorem upd_same {α : Type} (S : Nat → α) (i : Nat) (X : α) : upd S i X i = X := if_pos rfl
theorem upd_ne {α : Type} (S : Nat → α) {i j : Nat} (X : α) (h : j ≠ i) : upd S i X j = S j := if_neg h
/-- Packets go out of the end i. -/
def outS (S : Nat → Sd) (i : Nat) (ps : List Pk) : Nat → Sd := upd S (1 - i) (dOut (S i) (S (1 - i)) ps)
def InvS (f : Int) (S : Nat → Sd) : Prop := Inv f (S 0) (S 1)
theorem two_cases {i : Nat} (h : i < 2) : i = 0 ∨ i = 1 := by omega
theorem InvS.at {f : Int} {S : Nat → Sd} (h : InvS f S) {i : Nat} (hi : i < 2) : Inv f (S i) (S (1 - i)) := by
  rcases two_cases hi with rfl | rfl
  · exact h
  · exact h.swap
theorem InvS.mk {f : Int} {S : Nat → Sd} {i : Nat} (hi : i < 2) (h : Inv f (S i) (S (1 - i))) : InvS f S := by
  rcases two_cases hi with rfl | rfl
  · exact h
  · exact h.swap
/-- A packet from the end i. -/
def from_ (i : Nat) (p : Pk) : Prop := okP p = true ∧ p.f0 = 1 + (i : Int) ∧ p.f1 = 2 - (i : Int)
theorem pushR_snoc (A B : Sd) (xs : List Pk) (x : Pk) : pushR A B (xs ++ [x]) = pushR A B xs ++ (if A.row.length + (B.row ++ pushR A B xs).length < 400 then [x] else []) := by
  unfold pushR
  rw [List.take_append, List.length_append, List.length_take]
  congr 1
  by_cases h : A.row.length + (B.row.length + min (400 - (A.row.length + B.row.length)) xs.length) < 400
  · rw [if_pos h, List.take_of_length_le]
    simp only [List.length_singleton]
    omega
  · rw [if_neg h]
    have e : 400 - (A.row.length + B.row.length) - xs.length = 0 := by omega
    rw [e]
    rfl
theorem dOut_snoc (A B : Sd) (xs : List Pk) (x : Pk) : (dOut A B (xs ++ [x])).row = if A.row.length + (dOut A B xs).row.length < 400 then (dOut A B xs).row ++ [x] else (dOut A B xs).row := by
  show B.row ++ pushR A B (xs ++ [x]) = _
  rw [pushR_snoc, ← List.append_assoc]
  show _ ++ (if A.row.length + (B.row ++ pushR A B xs).length < 400 then [x] else []) = if A.row.length + (B.row ++ pushR A B xs).length < 400 then (B.row ++ pushR A B xs) ++ [x] else B.row ++ pushR A B xs
  split
  · rfl
  · rw [List.append_nil]
theorem dOut_nil (A B : Sd) : dOut A B [] = B := by unfold dOut pushR; simp
theorem outS_nil {S : Nat → Sd} {i : Nat} (hi : i < 2) : outS S i [] = S := by
  funext j
  unfold outS upd
  rw [dOut_nil]
  split
  · rename_i h; rw [h]
  · rfl
/-- One more packet goes out: the net. -/
theorem send_snoc {S : Nat → Sd} {i : Nat} (hi : i < 2) {p : Pk} (hp : from_ i p) (xs : List Pk) : sendQ p (qOf (outS S i xs 0).row (outS S i xs 1).row) = qOf (outS S i (xs ++ [p]) 0).row (outS S i (xs ++ [p]) 1).row := by
  obtain ⟨h1, h2, h3⟩ := hp
  unfold sendQ
  rw [qOf_cnt]
  have hs := dOut_snoc (S i) (S (1 - i)) xs p
  rcases two_cases hi with rfl | rfl
  · have e : at2 p.f0 p.f1 = 18 := by rw [h2, h3]; rfl
    have e0 : ∀ ys, outS S 0 ys 0 = S 0 := fun ys => upd_ne _ _ (by decide)
    have e1 : ∀ ys, outS S 0 ys 1 = dOut (S 0) (S 1) ys := fun ys => upd_same _ _ _
    rw [e, e0, e1, e0, e1, qOf_18, qOf_set18]
    rw [hs]
    by_cases hc : (S 0).row.length + (dOut (S 0) (S (1 - 0)) xs).row.length < 400
    · rw [if_pos ⟨h1, hc⟩, if_pos hc]
    · rw [if_neg (fun e => hc e.2), if_neg hc]
  · have e : at2 p.f0 p.f1 = 33 := by rw [h2, h3]; rfl
    have e0 : ∀ ys, outS S 1 ys 0 = dOut (S 1) (S 0) ys := fun ys => upd_same _ _ _
    have e1 : ∀ ys, outS S 1 ys 1 = S 1 := fun ys => upd_ne _ _ (by decide)
    rw [e, e0, e1, e0, e1, qOf_33, qOf_set33]
    rw [hs]
    show _ = qOf (if (S 1).row.length + (dOut (S 1) (S 0) xs).row.length < 400 then _ else _) _
    by_cases hc : (S 1).row.length + (dOut (S 1) (S 0) xs).row.length < 400
    · rw [if_pos ⟨h1, by omega⟩, if_pos hc]
    · rw [if_neg (fun e => hc (by have := e.2; omega)), if_neg hc]
/-! ### the pair in memory -/
abbrev ptr (g : Nat) : Value := .pointer (some ⟨g, 0, none⟩)
def pairC (gN : Nat) (ga : Nat → Nat) (sv gv : Nat → Value) : Array Value := #[ptr (ga 0), ptr (ga 1), ptr gN, sv 0, sv 1, gv 0, gv 1]
/-- The pair in block bx. ow: to whom a block belongs: 1, 2 the ends, 3 the net, 4, 5 what was sent, 6, 7 what was handed on, 8 the pair itself, 0 nobody. -/
structure PS (w0 w : World) (bx gN : Nat) (ga ma : Nat → Nat) (va sv gv : Nat → Value) (ow : Nat → Nat) (S : Nat → Sd) : Prop where
  box : w.heap[bx]? = some (.cells (pairC gN ga sv gv) 103 (0, 0))
  lk : ∀ i, i < 2 → LkAt w (ga i) (S i).l (va i) (ma i)
  net : NetW w (fun k => ow k = 3) gN (qOf (S 0).row (S 1).row) az
  sent : ∀ i, i < 2 → Kd.string.R 9 w 0 (fun k => ow k = 4 + i) (sv i) (S i).sent
  got : ∀ i, i < 2 → Kd.string.R 9 w 0 (fun k => ow k = 6 + i) (gv i) (S i).got
  olk : ∀ i, i < 2 → ∀ k, lf (ga i) (va i) (ma i) k → ow k = 1 + i
  obx : ow bx = 8
  low : ∀ k, ow k ≠ 0 → w0.heap.size ≤ k
  new : ∀ k, w.heap.size ≤ k → ow k = 0
  below : Below w0.heap.size w0 w
/-- The owners when what is new is i's. -/
def tg (ow : Nat → Nat) (w w' : World) (i : Nat) : Nat → Nat := fun k => if k < w.heap.size then ow k else if k < w'.heap.size then i else 0
theorem tg_old {ow : Nat → Nat} {w w' : World} {i k : Nat} (h : k < w.heap.size) : tg ow w w' i k = ow k := if_pos h
theorem tg_new {ow : Nat → Nat} {w w' : World} {i k : Nat} (h : w.heap.size ≤ k) (h2 : k < w'.heap.size) : tg ow w w' i k = i := by unfold tg; rw [if_neg (by omega), if_pos h2]
theorem tg_out {ow : Nat → Nat} {w w' : World} {i k : Nat} (h : w.heap.size ≤ k) (h2 : w'.heap.size ≤ k) : tg ow w w' i k = 0 := by unfold tg; rw [if_neg (by omega), if_neg (by omega)]
section
variable {w0 w w' : World} {bx gN : Nat} {ga ma : Nat → Nat} {va sv gv : Nat → Value} {ow : Nat → Nat} {S : Nat → Sd}
theorem PS.bxlt (h : PS w0 w bx gN ga ma va sv gv ow S) : bx < w.heap.size := blk_lt h.box
theorem PS.bel (h : PS w0 w bx gN ga ma va sv gv ow S) (hb : Below w.heap.size w w') : PS w0 w' bx gN ga ma va sv gv ow S :=
  ⟨keepB h.box hb, fun i hi => (h.lk i hi).below hb, h.net.below hb, fun i hi => Kd.R_below (h.sent i hi) hb, fun i hi => Kd.R_below (h.got i hi) hb, h.olk, h.obx, h.low, fun k hk => h.new k (Nat.le_trans hb.size hk), h.below.trans (hb.mono h.below.size)⟩
theorem PS.drew (h : PS w0 w bx gN ga ma va sv gv ow S) : PS w0 w.drew bx gN ga ma va sv gv ow S := h.bel (below_drew1 (Below.refl _ _))
theorem PS.drewN (h : PS w0 w bx gN ga ma va sv gv ow S) (n : Nat) : PS w0 (w.drewN n) bx gN ga ma va sv gv ow S := h.bel (pw_below_drewN (Below.refl _ _) n)
theorem PS.alloc (h : PS w0 w bx gN ga ma va sv gv ow S) (o : Obj) : PS w0 (w.alloc o) bx gN ga ma va sv gv ow S := h.bel (below_alloc (Below.refl _ _) o)
theorem PS.below_act {t : Nat} (h : PS w0 w bx gN ga ma va sv gv ow S) (ht : t ≠ 0) (hm : Mods (fun k => ow k = t) w w') : Below w0.heap.size w0 w' := h.below.trans (hm.below h.below.size (fun k hk => h.low k (by rw [hk]; exact ht)))
theorem PS.low_act (h : PS w0 w bx gN ga ma va sv gv ow S) (t : Nat) (hs : w.heap.size ≤ w'.heap.size) : ∀ k, tg ow w w' t k ≠ 0 → w0.heap.size ≤ k := by
  intro k hk
  have := h.below.size
  by_cases h1 : k < w.heap.size
  · rw [tg_old h1] at hk; exact h.low k hk
  · omega
theorem PS.new_act (h : PS w0 w bx gN ga ma va sv gv ow S) (t : Nat) (hs : w.heap.size ≤ w'.heap.size) : ∀ k, w'.heap.size ≤ k → tg ow w w' t k = 0 := fun k hk => tg_out (by omega) hk
theorem R_tag {t u : Nat} {v : Value} {xs : List ByteArray} (h : Kd.string.R 9 w 0 (fun k => ow k = t) v xs) (hm : Mods (fun k => ow k = u) w w') (hu : t ≠ u) : Kd.string.R 9 w' 0 (fun k => tg ow w w' u k = t) v xs :=
  Kd.R_mono (Kd.R_step (Kd.R_bound h) (fun k hk hlt => hm.block k hlt (fun e => hu (hk.1.symm.trans e)))) (fun k hk => (tg_old hk.2.2.1).trans hk.1)
theorem LkAt.tagged {g m i t : Nat} {l : Lk} {v : Value} (h : LkAt w g l v m) (ho : ∀ k, lf g v m k → ow k = i) (hm : Mods (fun k => ow k = t) w w') (ht : i ≠ t) : LkAt w' g l v m ∧ ∀ k, lf g v m k → tg ow w w' t k = i :=
  ⟨h.mods hm (fun k hk e => ht ((ho k hk).symm.trans e)), fun k hk => (tg_old (h.foot_lt hk)).trans (ho k hk)⟩
/-- The net has turned. -/
theorem PS.netAct (h : PS w0 w bx gN ga ma va sv gv ow S) {S' : Nat → Sd} {q : List (List Pk)} (hn : NetW w' (NW.grow (fun k => ow k = 3) w w') gN q az) (hm : Mods (fun k => ow k = 3) w w') (hq : q = qOf (S' 0).row (S' 1).row)
    (hl : ∀ i, i < 2 → (S' i).l = (S i).l ∧ (S' i).sent = (S i).sent ∧ (S' i).got = (S i).got) : PS w0 w' bx gN ga ma va sv gv (tg ow w w' 3) S' := by
  subst hq
  refine ⟨(hm.block _ h.bxlt (fun e => by rw [h.obx] at e; cases e)).trans h.box, fun i hi => ?_, hn.mono (fun k hk e => ?_), fun i hi => ?_, fun i hi => ?_, fun i hi => ?_, (tg_old h.bxlt).trans h.obx, h.low_act 3 hm.size, h.new_act 3 hm.size, h.below_act (by decide) hm⟩
  · rw [(hl i hi).1]; exact ((h.lk i hi).tagged (h.olk i hi) hm (by omega)).1
  · rcases e with e | e
    · by_cases h1 : k < w.heap.size
      · exact (tg_old h1).trans e
      · exfalso; have := h.new k (by omega); omega
    · exact tg_new e.1 e.2
  · rw [(hl i hi).2.1]; exact R_tag (h.sent i hi) hm (by omega)
  · rw [(hl i hi).2.2]; exact R_tag (h.got i hi) hm (by omega)
  · exact ((h.lk i hi).tagged (h.olk i hi) hm (by omega)).2
theorem tag_net {t : Nat} {q : List (List Pk)} (h : NetW w (fun k => ow k = 3) gN q az) (hm : Mods (fun k => ow k = t) w w') (ht : t ≠ 3) : NetW w' (fun k => tg ow w w' t k = 3) gN q az :=
  ((h.mono (G := fun k => ow k = 3 ∧ k < w.heap.size) (fun k hk e => ⟨e, hk⟩)).mods hm (fun k _ e e2 => ht (e2.symm.trans e.1))).mono (fun k _ e => (tg_old e.2).trans e.1)
/-- The end i has acted. -/
theorem PS.linkAct (h : PS w0 w bx gN ga ma va sv gv ow S) {i : Nat} (hi : i < 2) {l' : Lk} {v' : Value} (st : LkStep w (ga i) (va i) (ma i) l' v' w') :
    PS w0 w' bx gN ga ma (upd va i v') sv gv (tg ow w w' (1 + i)) (upd S i { S i with l := l' }) := by
  have hm : Mods (fun k => ow k = 1 + i) w w' := st.mods.mono (fun k _ hk => h.olk i hi k hk)
  have hS : ∀ j, (upd S i { S i with l := l' } j).row = (S j).row ∧ (upd S i { S i with l := l' } j).sent = (S j).sent ∧ (upd S i { S i with l := l' } j).got = (S j).got := by
    intro j
    by_cases e : j = i
    · subst e; rw [upd_same]; exact ⟨rfl, rfl, rfl⟩
    · rw [upd_ne _ _ e]; exact ⟨rfl, rfl, rfl⟩
  refine ⟨(hm.block _ h.bxlt (fun e => by rw [h.obx] at e; omega)).trans h.box, fun j hj => ?_, ?_, fun j hj => ?_, fun j hj => ?_, fun j hj => ?_, (tg_old h.bxlt).trans h.obx, h.low_act _ hm.size, h.new_act _ hm.size, h.below_act (by omega) hm⟩
  · by_cases e : j = i
    · subst e; rw [upd_same, upd_same]; exact st.lk
    · rw [upd_ne _ _ e, upd_ne _ _ e]; exact ((h.lk j hj).tagged (h.olk j hj) hm (by omega)).1
  · rw [(hS 0).1, (hS 1).1]; exact tag_net h.net hm (by omega)
  · rw [(hS j).2.1]; exact R_tag (h.sent j hj) hm (by omega)
  · rw [(hS j).2.2]; exact R_tag (h.got j hj) hm (by omega)
  · by_cases e : j = i
    · subst e
      rw [upd_same]
      intro k hk
      have hlt : k < w'.heap.size := st.lk.foot_lt hk
      by_cases h1 : k < w.heap.size
      · rw [tg_old h1]
        rcases hk with hk | hk | hk
        · exact h.olk j hj k (.inl hk)
        · exact h.olk j hj k (.inr (.inl hk))
        · rcases st.own k hk with hk | hk
          · exact h.olk j hj k (.inr (.inr hk))
          · omega
      · exact tg_new (by omega) hlt
    · rw [upd_ne _ _ e]; exact ((h.lk j hj).tagged (h.olk j hj) hm (by omega)).2
/-- A text has been appended to what the end i sent, and the row lies in the pair. -/
theorem PS.sentAct (h : PS w0 w bx gN ga ma va sv gv ow S) {i : Nat} (hi : i < 2) {v1 : Value} {xs : List ByteArray} (hr : Kd.string.R 9 w' 0 (fun k => ow k = 4 + i ∨ w.heap.size ≤ k) v1 xs) (hg : w.grownBy w' (sv i).ownBlock) :
    PS w0 (w'.setCell ⟨bx, 3 + i, none⟩ v1) bx gN ga ma va (upd sv i v1) gv (tg ow w w' (4 + i)) (upd S i { S i with sent := xs }) ∧ w'.heap[bx]? = some (.cells (pairC gN ga sv gv) 103 (0, 0)) := by
  have hm : Mods (fun k => ow k = 4 + i) w w' := (Mods.refl _ w).grown hg (fun k hk => .inl ((h.sent i hi).1 k hk))
  have hbox : w'.heap[bx]? = some (.cells (pairC gN ga sv gv) 103 (0, 0)) := (hm.block _ h.bxlt (fun e => by rw [h.obx] at e; omega)).trans h.box
  refine ⟨?_, hbox⟩
  have hS : ∀ j, (upd S i { S i with sent := xs } j).row = (S j).row ∧ (upd S i { S i with sent := xs } j).l = (S j).l ∧ (upd S i { S i with sent := xs } j).got = (S j).got := by
    intro j
    by_cases e : j = i
    · subst e; rw [upd_same]; exact ⟨rfl, rfl, rfl⟩
    · rw [upd_ne _ _ e]; exact ⟨rfl, rfl, rfl⟩
  have hbt : tg ow w w' (4 + i) bx = 8 := (tg_old h.bxlt).trans h.obx
  have hs : Mods (fun k => k = bx) w' (w'.setCell ⟨bx, 3 + i, none⟩ v1) := Mods.set (F := fun k => k = bx) (Mods.refl _ w') (.inl rfl) v1
  have hsz : (w'.setCell ⟨bx, 3 + i, none⟩ v1).heap.size = w'.heap.size := by simp [World.setCell]
  have far : ∀ {t : Nat} {v : Value} {ys : List ByteArray}, t ≠ 8 → Kd.string.R 9 w' 0 (fun k => tg ow w w' (4 + i) k = t) v ys → Kd.string.R 9 (w'.setCell ⟨bx, 3 + i, none⟩ v1) 0 (fun k => tg ow w w' (4 + i) k = t) v ys :=
    fun ht hr => Kd.R_step hr (fun k hk hlt => hs.block k hlt (fun e => by rw [e, hbt] at hk; exact ht hk.symm))
  refine ⟨?_, fun j hj => ?_, ?_, fun j hj => ?_, fun j hj => ?_, fun j hj => ?_, hbt, h.low_act _ hm.size, fun k hk => h.new_act _ hm.size k (by omega), (h.below_act (by omega) hm).trans (hs.below (Nat.le_trans h.below.size hm.size) (fun k hk => by rw [hk]; exact h.low bx (by rw [h.obx]; decide)))⟩
  · have hb := blk_set hbox (3 + i) v1
    refine hb.trans ?_
    rcases two_cases hi with rfl | rfl
    · rfl
    · rfl
  · rw [(hS j).2.1]
    have k1 := (h.lk j hj).tagged (h.olk j hj) hm (by omega)
    exact k1.1.mods hs (fun k hk e => by have := k1.2 k hk; rw [e, hbt] at this; omega)
  · rw [(hS 0).1, (hS 1).1]
    exact (tag_net h.net hm (by omega)).mods hs (fun k _ e e2 => by rw [e2, hbt] at e; cases e)
  · by_cases e : j = i
    · subst e
      rw [upd_same, upd_same]
      refine far (by omega) (Kd.R_mono (Kd.R_bound hr) (fun k hk => ?_))
      obtain ⟨hk1, _, hk2, _⟩ := hk
      by_cases h1 : k < w.heap.size
      · rw [tg_old h1]; exact hk1.elim id (fun e => absurd e (by omega))
      · exact tg_new (by omega) hk2
    · rw [upd_ne _ _ e, upd_ne _ _ e]; exact far (by omega) (R_tag (h.sent j hj) hm (by omega))
  · rw [(hS j).2.2]; exact far (by omega) (R_tag (h.got j hj) hm (by omega))
  · exact ((h.lk j hj).tagged (h.olk j hj) hm (by omega)).2
/-- Texts have been appended to what the end i handed on. -/
theorem PS.gotAct (h : PS w0 w bx gN ga ma va sv gv ow S) {i : Nat} (hi : i < 2) {v1 : Value} {xs : List ByteArray} (hr : Kd.string.R 9 w' 0 (fun k => ow k = 6 + i ∨ w.heap.size ≤ k) v1 xs) (hg : w.grownBy w' (gv i).ownBlock) :
    PS w0 (w'.setCell ⟨bx, 5 + i, none⟩ v1) bx gN ga ma va sv (upd gv i v1) (tg ow w w' (6 + i)) (upd S i { S i with got := xs }) ∧ w'.heap[bx]? = some (.cells (pairC gN ga sv gv) 103 (0, 0)) := by
  have hm : Mods (fun k => ow k = 6 + i) w w' := (Mods.refl _ w).grown hg (fun k hk => .inl ((h.got i hi).1 k hk))
  have hbox : w'.heap[bx]? = some (.cells (pairC gN ga sv gv) 103 (0, 0)) := (hm.block _ h.bxlt (fun e => by rw [h.obx] at e; omega)).trans h.box
  refine ⟨?_, hbox⟩
  have hS : ∀ j, (upd S i { S i with got := xs } j).row = (S j).row ∧ (upd S i { S i with got := xs } j).l = (S j).l ∧ (upd S i { S i with got := xs } j).sent = (S j).sent := by
    intro j
    by_cases e : j = i
    · subst e; rw [upd_same]; exact ⟨rfl, rfl, rfl⟩
    · rw [upd_ne _ _ e]; exact ⟨rfl, rfl, rfl⟩
  have hbt : tg ow w w' (6 + i) bx = 8 := (tg_old h.bxlt).trans h.obx
  have hs : Mods (fun k => k = bx) w' (w'.setCell ⟨bx, 5 + i, none⟩ v1) := Mods.set (F := fun k => k = bx) (Mods.refl _ w') (.inl rfl) v1
  have hsz : (w'.setCell ⟨bx, 5 + i, none⟩ v1).heap.size = w'.heap.size := by simp [World.setCell]
  have far : ∀ {t : Nat} {v : Value} {ys : List ByteArray}, t ≠ 8 → Kd.string.R 9 w' 0 (fun k => tg ow w w' (6 + i) k = t) v ys → Kd.string.R 9 (w'.setCell ⟨bx, 5 + i, none⟩ v1) 0 (fun k => tg ow w w' (6 + i) k = t) v ys :=
    fun ht hr => Kd.R_step hr (fun k hk hlt => hs.block k hlt (fun e => by rw [e, hbt] at hk; exact ht hk.symm))
  refine ⟨?_, fun j hj => ?_, ?_, fun j hj => ?_, fun j hj => ?_, fun j hj => ?_, hbt, h.low_act _ hm.size, fun k hk => h.new_act _ hm.size k (by omega), (h.below_act (by omega) hm).trans (hs.below (Nat.le_trans h.below.size hm.size) (fun k hk => by rw [hk]; exact h.low bx (by rw [h.obx]; decide)))⟩
  · have hb := blk_set hbox (5 + i) v1
    refine hb.trans ?_
    rcases two_cases hi with rfl | rfl
    · rfl
    · rfl
  · rw [(hS j).2.1]
    have k1 := (h.lk j hj).tagged (h.olk j hj) hm (by omega)
    exact k1.1.mods hs (fun k hk e => by have := k1.2 k hk; rw [e, hbt] at this; omega)
  · rw [(hS 0).1, (hS 1).1]
    exact (tag_net h.net hm (by omega)).mods hs (fun k _ e e2 => by rw [e2, hbt] at e; cases e)
  · rw [(hS j).2.2]; exact far (by omega) (R_tag (h.sent j hj) hm (by omega))
  · by_cases e : j = i
    · subst e
      rw [upd_same, upd_same]
      refine far (by omega) (Kd.R_mono (Kd.R_bound hr) (fun k hk => ?_))
      obtain ⟨hk1, _, hk2, _⟩ := hk
      by_cases h1 : k < w.heap.size
      · rw [tg_old h1]; exact hk1.elim id (fun e => absurd e (by omega))
      · exact tg_new (by omega) hk2
    · rw [upd_ne _ _ e, upd_ne _ _ e]; exact far (by omega) (R_tag (h.got j hj) hm (by omega))
  · exact ((h.lk j hj).tagged (h.olk j hj) hm (by omega)).2
end
end Go.Proofs.Ytdibaeomepallaa.LK
