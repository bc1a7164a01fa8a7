/- LinkPlays: both links in memory, beside one another. By hand. -/
import Derived.Test.YtdibaeomepallaaMd
namespace Go.Proofs.Ytdibaeomepallaa.LK
open Go.RowKit Go.Proofs.YtdibaeomepallaaW.PrintWords Go.Proofs.YtdibaeomepallaaW.PrintLast Go.Proofs.YtdibaeomepallaaW.PrintMore Go.Proofs.Ytdibaeomepallaa.PAll Go.Proofs.Ytdibaeomepallaa.NW
set_option linter.unusedVariables false
set_option linter.unusedSimpArgs false
set_option maxRecDepth 100000
/-! ### both links, plain -/
theorem One.send {l : Lk} (h : One l) (s : ByteArray) : One (sdL l s) := by
  have he : (sdL l s).er = l.er ∧ (sdL l s).want = l.want := by unfold sdL; split <;> exact ⟨rfl, rfl⟩
  exact ⟨h.bd.send s, by rw [he.1]; exact h.keys, by rw [he.1, he.2]; exact h.idle⟩
theorem sdL_er (l : Lk) (s : ByteArray) : (sdL l s).er = l.er := by unfold sdL; split <;> rfl
theorem tk2_keeps {l : Lk} (h : One l) (p : Pk) : Idle (tk2 l p).want (tk2 l p).er ∧ Keys (tk2 l p).er := by
  unfold tk2
  split
  · exact ⟨h.idle, h.keys⟩
  · exact came_keeps (l := ack l p.f5) h.idle h.keys p.f4 p.f6
theorem One.take {l : Lk} (h : One l) (h9 : l.er.length ≤ 999) (p : Pk) : One (tkL l p) := by
  have hb := h.bd.take h9 p
  obtain ⟨a, b⟩ := tk2_keeps h p
  by_cases hE : tkE l p = 0
  · have e : tkL l p = goL (tk2 l p) := if_pos hE
    rw [e] at hb ⊢
    exact ⟨hb, b, a⟩
  · have e : tkL l p = l := if_neg hE
    rw [e]
    exact h
theorem tkL_er {l : Lk} (p : Pk) : (tkL l p).er.length ≤ l.er.length + 1 := by
  unfold tkL
  split
  · show (tk2 l p).er.length ≤ _
    unfold tk2
    split
    · exact Nat.le_succ _
    · show (cameR (ack l p.f5) p.f4 p.f6).2.1.length ≤ l.er.length + 1
      unfold cameR
      split
      · exact Nat.le_succ _
      · exact Nat.le_trans (hand_len _ _ _) (put_length l.er _ _)
  · exact Nat.le_succ _
theorem one_new (x : S65) (h : mayL x = true) : One (newL x) := ⟨bd_new x h, List.Pairwise.nil, .inl rfl⟩
/-! ### both links in memory -/
/-- The program's link (block g) and the document's (in the box gd). -/
structure PL (w0 w : World) (gd g m : Nat) (lp l : Lk) (v vq ve : Value) : Prop where
  bd : w.heap[gd]? = some (.cells #[.int .i64 l.x.f0, .int .i64 l.x.f1, .int .i64 l.x.f2, .int .i64 l.x.f3, .int .i64 l.x.f4, vq, .int .i64 l.base, .int .i64 l.out, .int .i64 l.want, ve] 81 (0, 0))
  lk : LkAt w g lp v m
  q : RW Kd.string w (fun k => w0.heap.size ≤ k ∧ ¬ lf g v m k ∧ k ≠ gd) vq l.q
  e : RW k142 w (fun k => w0.heap.size ≤ k ∧ ¬ lf g v m k ∧ k ≠ gd) ve (erS l.er)
  nd : ¬ lf g v m gd
  low : ∀ k, lf g v m k → w0.heap.size ≤ k
  ld : w0.heap.size ≤ gd
  below : Below w0.heap.size w0 w
section
variable {w0 w w' : World} {gd g m : Nat} {lp lp' l l' : Lk} {v v' vq vq' ve ve' : Value}
theorem PL.bel (h : PL w0 w gd g m lp l v vq ve) (hb : Below w.heap.size w w') : PL w0 w' gd g m lp l v vq ve :=
  ⟨keepB h.bd hb, h.lk.below hb, h.q.below hb, h.e.below hb, h.nd, h.low, h.ld, h.below.trans (hb.mono h.below.size)⟩
theorem lf_new (st : LkStep w g v m lp' v' w') {k : Nat} (hk : lf g v' m k) : lf g v m k ∨ w.heap.size ≤ k := by
  rcases hk with hk | hk | hk
  · exact .inl (.inl hk)
  · exact .inl (.inr (.inl hk))
  · rcases st.own k hk with h | h
    · exact .inl (.inr (.inr h))
    · exact .inr h
theorem RW.acted {α : Type} {d : Kd α} {u : Value} {xs : List α} (h : RW d w (fun k => w0.heap.size ≤ k ∧ ¬ lf g v m k ∧ k ≠ gd) u xs) (st : LkStep w g v m lp' v' w') : RW d w' (fun k => w0.heap.size ≤ k ∧ ¬ lf g v' m k ∧ k ≠ gd) u xs :=
  (h.bound.step (fun k hk hlt => st.mods.block k hlt hk.1.2.1)).mono (fun k hk => ⟨hk.1.1, fun e => by
    rcases lf_new st e with e | e
    · exact hk.1.2.1 e
    · have := hk.2; omega, hk.1.2.2⟩)
/-- The program's link acts. -/
theorem PL.act (h : PL w0 w gd g m lp l v vq ve) (st : LkStep w g v m lp' v' w') : PL w0 w' gd g m lp' l v' vq ve := by
  refine ⟨(st.mods.block _ (blk_lt h.bd) h.nd).trans h.bd, st.lk, h.q.acted st, h.e.acted st, fun e => ?_, fun k hk => ?_, h.ld, h.below.trans (st.mods.below h.below.size (fun k hk => h.low k hk))⟩
  · rcases lf_new st e with e | e
    · exact h.nd e
    · have := blk_lt h.bd; omega
  · rcases lf_new st hk with e | e
    · exact h.low k e
    · exact Nat.le_trans h.below.size e
theorem RW.turned {α : Type} {d : Kd α} {u : Value} {xs : List α} (h : PL w0 w gd g m lp l v vq ve) (hu : RW d w' (fun k => (w0.heap.size ≤ k ∧ ¬ lf g v m k ∧ k ≠ gd) ∨ w.heap.size ≤ k) u xs) (cs : Array Value) : RW d (w'.setRow gd cs) (fun k => w0.heap.size ≤ k ∧ ¬ lf g v m k ∧ k ≠ gd) u xs := by
  have h1 := blk_lt h.bd
  refine (hu.step (fun k hk _ => setRow_other w' gd k cs (by rcases hk with hk | hk; exact hk.2.2; omega))).mono (fun k hk => ?_)
  rcases hk with hk | hk
  · exact hk
  · exact ⟨Nat.le_trans h.below.size hk, fun e => by have := h.lk.foot_lt e; omega, by omega⟩
/-- The document's link is another one. -/
theorem PL.doc (h : PL w0 w gd g m lp l v vq ve) (hb : Below w.heap.size w w') (hq : RW Kd.string w' (fun k => (w0.heap.size ≤ k ∧ ¬ lf g v m k ∧ k ≠ gd) ∨ w.heap.size ≤ k) vq' l'.q) (he : RW k142 w' (fun k => (w0.heap.size ≤ k ∧ ¬ lf g v m k ∧ k ≠ gd) ∨ w.heap.size ≤ k) ve' (erS l'.er)) :
    PL w0 (w'.setRow gd #[.int .i64 l'.x.f0, .int .i64 l'.x.f1, .int .i64 l'.x.f2, .int .i64 l'.x.f3, .int .i64 l'.x.f4, vq', .int .i64 l'.base, .int .i64 l'.out, .int .i64 l'.want, ve']) gd g m lp l' v vq' ve' := by
  have hbd := keepB h.bd hb
  refine ⟨setRow_heap _ _ _ _ _ _ hbd, (h.lk.below hb).stay (fun k hk => setRow_other _ _ _ _ (fun e => h.nd (by rw [← e]; exact hk))), RW.turned h hq _, RW.turned h he _, h.nd, h.low, h.ld, below_setRow (h.below.trans (hb.mono h.below.size)) h.ld _⟩
end
theorem tick13_is {w : World} {l : Lk} {Aq Ae : Option Addr} {cq ce : Nat} (hb : Bd l) (hq : Kd.string.C w Aq l.q.length l.q) (hcq : l.q.length ≤ cq) (he : k142.C w Ae l.er.length (erS l.er)) (hce : l.er.length ≤ ce) :
    Calls Try.prog 51 #[.agg #[.int .i64 l.x.f0, .int .i64 l.x.f1, .int .i64 l.x.f2, .int .i64 l.x.f3, .int .i64 l.x.f4, .slice Aq l.q.length cq, .int .i64 l.base, .int .i64 l.out, .int .i64 l.want, .slice Ae l.er.length ce]] w fun e w' => ∃ o, e = .returned o ∧ k58.R 58 w' w.heap.size (fun _ => True) o ((outs l 0 l.out).map to58) ∧ Below w.heap.size w w' := by
  have h := caduceusref13_Link_Tick.calls 1000001 l.x.f0 l.x.f1 l.x.f2 l.x.f3 l.x.f4 Aq cq l.q l.base l.out l.want Ae ce (erS l.er) _ w hq hcq (by rw [erS_len]; exact he) (by rw [erS_len]; exact hce) (tick_f l hb)
  rw [erS_len] at h
  exact h
theorem same58_is {w : World} {A0 A1 : Option Addr} {c0 c1 n : Nat} {os : List S58} (h0 : k58.C w A0 os.length os) (hc0 : os.length ≤ c0) (h1 : k58.C w A1 os.length os) (hc1 : os.length ≤ c1) (hl : os.length ≤ 1000000) (hn : os.length = n) :
    Calls Try.prog 46 #[.slice A0 n c0, .slice A1 n c1] w fun e w' => e = .returned (.bool true) ∧ Below w.heap.size w w' := by
  subst hn
  exact (caduceusref13_Same.calls 1000001 A0 c0 os A1 c1 os true w h0 hc0 h1 hc1 (same58_f os hl)).mono (fun e w' h => ⟨h.1, h.2.below⟩)
theorem sameTexts_is {w : World} {A0 A1 : Option Addr} {c0 c1 n : Nat} {os : List ByteArray} (h0 : Kd.string.C w A0 os.length os) (hc0 : os.length ≤ c0) (h1 : Kd.string.C w A1 os.length os) (hc1 : os.length ≤ c1) (hl : os.length ≤ 1000000) (hn : os.length = n) :
    Calls Try.prog 49 #[.slice A0 n c0, .slice A1 n c1] w fun e w' => e = .returned (.bool true) ∧ Below w.heap.size w w' := by
  subst hn
  exact (caduceusref01_SameTexts.calls 1000001 A0 c0 os A1 c1 os true w h0 hc0 h1 hc1 (same_f os hl)).mono (fun e w' h => ⟨h.1, h.2.below⟩)
/-- A row of a box's value: its slice, its length by another name. -/
theorem R_named {α : Type} {d : Kd α} {e base n : Nat} {w : World} {ok : Nat → Prop} {v : Value} {xs : List α} (h : d.R e w base ok v xs) (hn : xs.length = n) : ∃ A c, v = .slice A n c ∧ n ≤ c ∧ d.R e w base ok (.slice A n c) xs := by
  obtain ⟨A, c, rfl, hc, _⟩ := Kd.R_reads h
  subst hn
  exact ⟨A, c, rfl, hc, h⟩
theorem C_named {α : Type} {d : Kd α} {e base n c : Nat} {w : World} {ok : Nat → Prop} {A : Option Addr} {xs : List α} (h : d.R e w base ok (.slice A n c) xs) : xs.length ≤ c ∧ d.C w A xs.length xs := by
  obtain ⟨a, b, c⟩ := Kd.R_reads' h
  exact ⟨by omega, c⟩
/-- What the document did, and the box that it is put into: in either order. -/
structure J1 (wd : World) (D : Nat → Prop) (l' : Lk) (tx : List ByteArray) (os : List S58) (b : Nat) (vq ve t o : Value) (w' : World) : Prop where
  below : Below wd.heap.size wd w'
  box : w'.heap[b]? = some (.cells #[.int .i64 0, .int .i64 0, .int .i64 0, .int .i64 0, .int .i64 0, .slice none 0 0, .int .i64 0, .int .i64 0, .int .i64 0, .slice none 0 0, .slice none 0 0, .slice none 0 0, .int .i64 0] 87 (0, 0))
  new : wd.heap.size ≤ b
  q : RW Kd.string w' (fun k => (D k ∨ wd.heap.size ≤ k) ∧ k ≠ b) vq l'.q
  e : RW k142 w' (fun k => (D k ∨ wd.heap.size ≤ k) ∧ k ≠ b) ve (erS l'.er)
  t : Kd.string.R 9 w' wd.heap.size (fun _ => True) t tx
  o : k58.R 58 w' wd.heap.size (fun _ => True) o os
section
variable {w0 wd W2 : World} {D : Nat → Prop} {l' : Lk} {tx : List ByteArray} {os : List S58} {vq ve t o : Value}
theorem J1.one (hb : Below wd.heap.size wd W2) (hq : RW Kd.string W2 (fun k => D k ∨ wd.heap.size ≤ k) vq l'.q) (he : RW k142 W2 (fun k => D k ∨ wd.heap.size ≤ k) ve (erS l'.er)) (ht : Kd.string.R 9 W2 wd.heap.size (fun _ => True) t tx) (ho : k58.R 58 W2 wd.heap.size (fun _ => True) o os) : J1 wd D l' tx os W2.heap.size vq ve t o (W2.alloc (.cells #[.int .i64 0, .int .i64 0, .int .i64 0, .int .i64 0, .int .i64 0, .slice none 0 0, .int .i64 0, .int .i64 0, .int .i64 0, .slice none 0 0, .slice none 0 0, .slice none 0 0, .int .i64 0] 87 (0, 0))) := by
  have ha : Below W2.heap.size W2 (W2.alloc (.cells #[.int .i64 0, .int .i64 0, .int .i64 0, .int .i64 0, .int .i64 0, .slice none 0 0, .int .i64 0, .int .i64 0, .int .i64 0, .slice none 0 0, .slice none 0 0, .slice none 0 0, .int .i64 0] 87 (0, 0))) := below_alloc (Below.refl _ _) _
  exact ⟨hb.trans (ha.mono hb.size), blk_new _ _, hb.size, (hq.bound.below ha).mono (fun k hk => ⟨hk.1, by have := hk.2; omega⟩), (he.bound.below ha).mono (fun k hk => ⟨hk.1, by have := hk.2; omega⟩), Kd.R_below ht ha, Kd.R_below ho ha⟩
theorem J1.two (hb : Below (wd.alloc (.cells #[.int .i64 0, .int .i64 0, .int .i64 0, .int .i64 0, .int .i64 0, .slice none 0 0, .int .i64 0, .int .i64 0, .int .i64 0, .slice none 0 0, .slice none 0 0, .slice none 0 0, .int .i64 0] 87 (0, 0))).heap.size (wd.alloc (.cells #[.int .i64 0, .int .i64 0, .int .i64 0, .int .i64 0, .int .i64 0, .slice none 0 0, .int .i64 0, .int .i64 0, .int .i64 0, .slice none 0 0, .slice none 0 0, .slice none 0 0, .int .i64 0] 87 (0, 0))) W2) (hq : RW Kd.string W2 (fun k => (D k ∧ k < wd.heap.size) ∨ (wd.alloc (.cells #[.int .i64 0, .int .i64 0, .int .i64 0, .int .i64 0, .int .i64 0, .slice none 0 0, .int .i64 0, .int .i64 0, .int .i64 0, .slice none 0 0, .slice none 0 0, .slice none 0 0, .int .i64 0] 87 (0, 0))).heap.size ≤ k) vq l'.q) (he : RW k142 W2 (fun k => (D k ∧ k < wd.heap.size) ∨ (wd.alloc (.cells #[.int .i64 0, .int .i64 0, .int .i64 0, .int .i64 0, .int .i64 0, .slice none 0 0, .int .i64 0, .int .i64 0, .int .i64 0, .slice none 0 0, .slice none 0 0, .slice none 0 0, .int .i64 0] 87 (0, 0))).heap.size ≤ k) ve (erS l'.er))
    (ht : Kd.string.R 9 W2 (wd.alloc (.cells #[.int .i64 0, .int .i64 0, .int .i64 0, .int .i64 0, .int .i64 0, .slice none 0 0, .int .i64 0, .int .i64 0, .int .i64 0, .slice none 0 0, .slice none 0 0, .slice none 0 0, .int .i64 0] 87 (0, 0))).heap.size (fun _ => True) t tx) (ho : k58.R 58 W2 (wd.alloc (.cells #[.int .i64 0, .int .i64 0, .int .i64 0, .int .i64 0, .int .i64 0, .slice none 0 0, .int .i64 0, .int .i64 0, .int .i64 0, .slice none 0 0, .slice none 0 0, .slice none 0 0, .int .i64 0] 87 (0, 0))).heap.size (fun _ => True) o os) : J1 wd D l' tx os wd.heap.size vq ve t o W2 := by
  have ha : Below wd.heap.size wd (wd.alloc (.cells #[.int .i64 0, .int .i64 0, .int .i64 0, .int .i64 0, .int .i64 0, .slice none 0 0, .int .i64 0, .int .i64 0, .int .i64 0, .slice none 0 0, .slice none 0 0, .slice none 0 0, .int .i64 0] 87 (0, 0))) := below_alloc (Below.refl _ _) _
  have hlt : wd.heap.size < (wd.alloc (.cells #[.int .i64 0, .int .i64 0, .int .i64 0, .int .i64 0, .int .i64 0, .slice none 0 0, .int .i64 0, .int .i64 0, .int .i64 0, .slice none 0 0, .slice none 0 0, .slice none 0 0, .int .i64 0] 87 (0, 0))).heap.size := blk_lt (blk_new wd _)
  have key : ∀ k, ((D k ∧ k < wd.heap.size) ∨ (wd.alloc (.cells #[.int .i64 0, .int .i64 0, .int .i64 0, .int .i64 0, .int .i64 0, .slice none 0 0, .int .i64 0, .int .i64 0, .int .i64 0, .slice none 0 0, .slice none 0 0, .slice none 0 0, .int .i64 0] 87 (0, 0))).heap.size ≤ k) → (D k ∨ wd.heap.size ≤ k) ∧ k ≠ wd.heap.size := fun k hk => by
    rcases hk with hk | hk
    · exact ⟨.inl hk.1, by have := hk.2; omega⟩
    · exact ⟨.inr (by omega), by omega⟩
  exact ⟨ha.trans (hb.mono ha.size), keepB (blk_new _ _) hb, Nat.le_refl _, hq.mono key, he.mono key, Kd.R_lower ht (Nat.le_of_lt hlt), Kd.R_lower ho (Nat.le_of_lt hlt)⟩
/-- The document's link is turned to what was done. -/
theorem J1.pl {gd g m b : Nat} {lp l : Lk} {v vq0 ve0 : Value} {W : World} (h : PL w0 wd gd g m lp l v vq0 ve0) (hj : J1 wd (fun k => w0.heap.size ≤ k ∧ ¬ lf g v m k ∧ k ≠ gd) l' tx os b vq ve t o W) (cs : Array Value) : PL w0 ((W.setRow b cs).setRow gd #[.int .i64 l'.x.f0, .int .i64 l'.x.f1, .int .i64 l'.x.f2, .int .i64 l'.x.f3, .int .i64 l'.x.f4, vq, .int .i64 l'.base, .int .i64 l'.out, .int .i64 l'.want, ve]) gd g m lp l' v vq ve :=
  h.doc (below_setRow hj.below hj.new cs) ((hj.q.step (fun k hk _ => setRow_other W b k cs hk.2)).mono (fun k hk => hk.1)) ((hj.e.step (fun k hk _ => setRow_other W b k cs hk.2)).mono (fun k hk => hk.1))
end
/-- A row of the program's, or the document's, stays over both boxes. -/
theorem R_two {α : Type} {d : Kd α} {e base : Nat} {ok : Nat → Prop} {w W : World} {v : Value} {xs : List α} {b gd : Nat} {c1 c2 : Array Value} (h : d.R e w base ok v xs) (hb : Below w.heap.size w W) (h1 : W.heap[b]? = some (.cells c1 87 (0, 0))) (h2 : W.heap[gd]? = some (.cells c2 81 (0, 0))) (t1 : ∀ q, q ∈ e :: d.E → q ≠ 87) (t2 : ∀ q, q ∈ e :: d.E → q ≠ 81) (cs cs2 : Array Value) : d.R e ((W.setRow b cs).setRow gd cs2) base ok v xs := by
  have hne : gd ≠ b := fun e => by rw [e, h1] at h2; cases h2
  exact R_setRow (R_setRow (Kd.R_below h hb) h1 t1 cs) ((setRow_other W b gd cs hne).trans h2) t2 cs2
/-- The end of a round. -/
structure PR (w0 w : World) (gd g m : Nat) (n : Nat) (l : Lk) (v vq ve : Value) : Prop where
  pl : PL w0 w gd g m l l v vq ve
  one : One l
  few : l.er.length ≤ n
theorem eqA65 (d : Nat) (w : World) (x0 y0 x1 y1 x2 y2 x3 y3 x4 y4 : Int) :
    (Op.equalIn (d + 2) 65 (.agg #[.int .i64 x0, .int .i64 x1, .int .i64 x2, .int .i64 x3, .int .i64 x4]) (.agg #[.int .i64 y0, .int .i64 y1, .int .i64 y2, .int .i64 y3, .int .i64 y4])).run Try.prog w = .ok (x0 == y0 && (x1 == y1 && (x2 == y2 && (x3 == y3 && (x4 == y4))))) w := by
  refine eqA_of Try.underlying65 (by kernel_rfl) ?_
  refine eqf_cons (by rfl) (by go_simp; rfl) (by go_simp; rfl) (by go_simp) ?_
  refine eqf_cons (by rfl) (by go_simp; rfl) (by go_simp; rfl) (by go_simp) ?_
  refine eqf_cons (by rfl) (by go_simp; rfl) (by go_simp; rfl) (by go_simp) ?_
  refine eqf_cons (by rfl) (by go_simp; rfl) (by go_simp; rfl) (by go_simp) ?_
  exact eqf_last (by rfl) (by go_simp; rfl) (by go_simp; rfl) (by go_simp)
end Go.Proofs.Ytdibaeomepallaa.LK
