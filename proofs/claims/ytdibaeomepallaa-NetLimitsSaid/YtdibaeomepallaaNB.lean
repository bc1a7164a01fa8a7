/- What a state owns (a region F of blocks), and what an act may turn: Mods; the net's state in memory: NetAt, NetW. -/
import Derived.Test.YtdibaeomepallaaNA
namespace Go.Proofs.Ytdibaeomepallaa.NW
open Go.RowKit Go.Proofs.YtdibaeomepallaaW.PrintWords Go.Proofs.YtdibaeomepallaaW.PrintLast Go.Proofs.YtdibaeomepallaaW.PrintMore Go.Proofs.Ytdibaeomepallaa.PAll
set_option linter.unusedVariables false
set_option linter.unusedSimpArgs false
/-- Outside of the region F all is as it was; the streams, too. -/
structure Mods (F : Nat → Prop) (w w' : World) : Prop where
  os : w'.os = w.os
  tape : w'.tape = w.tape
  output : w'.output = w.output
  size : w.heap.size ≤ w'.heap.size
  block : ∀ k, k < w.heap.size → ¬ F k → w'.heap[k]? = w.heap[k]?
/-- The region, and what was made since. -/
def grow (F : Nat → Prop) (w w' : World) : Nat → Prop := fun k => F k ∨ (w.heap.size ≤ k ∧ k < w'.heap.size)
theorem Mods.refl (F : Nat → Prop) (w : World) : Mods F w w := ⟨rfl, rfl, rfl, Nat.le_refl _, fun _ _ _ => rfl⟩
theorem Mods.trans {F G : Nat → Prop} {a b c : World} (h : Mods F a b) (k : Mods G b c) (hG : ∀ i, i < a.heap.size → G i → F i) : Mods F a c :=
  ⟨k.os.trans h.os, k.tape.trans h.tape, k.output.trans h.output, Nat.le_trans h.size k.size, fun i hi hF => (k.block i (Nat.lt_of_lt_of_le hi h.size) (fun e => hF (hG i hi e))).trans (h.block i hi hF)⟩
theorem grow_old {F : Nat → Prop} {w w' : World} {i : Nat} (hi : i < w.heap.size) (h : grow F w w' i) : F i := h.elim id (fun e => absurd e.1 (by omega))
theorem Mods.step {F : Nat → Prop} {a b c : World} (h : Mods F a b) (k : Mods (grow F a b) b c) : Mods F a c := h.trans k (fun _ hi e => grow_old hi e)
theorem Mods.of_below {F : Nat → Prop} {w w' : World} (h : Below w.heap.size w w') : Mods F w w' := ⟨h.os, h.tape, h.output, h.size, fun k hk _ => h.block k hk⟩
theorem Mods.mono {F G : Nat → Prop} {w w' : World} (h : Mods F w w') (hG : ∀ k, k < w.heap.size → F k → G k) : Mods G w w' := ⟨h.os, h.tape, h.output, h.size, fun k hk e => h.block k hk (fun hf => e (hG k hk hf))⟩
theorem Mods.below {F : Nat → Prop} {w w' : World} {B : Nat} (h : Mods F w w') (hB : B ≤ w.heap.size) (hF : ∀ k, F k → B ≤ k) : Below B w w' := ⟨h.os, h.tape, h.output, h.size, fun k hk => h.block k (by omega) (fun e => by have := hF k e; omega)⟩
theorem Mods.then_below {F : Nat → Prop} {a b c : World} (h : Mods F a b) (k : Below b.heap.size b c) : Mods F a c := h.trans (Mods.of_below (F := fun _ => False) k) (fun _ _ e => e.elim)
theorem Mods.after_below {F : Nat → Prop} {a b c : World} (h : Below a.heap.size a b) (k : Mods F b c) : Mods F a c := (Mods.of_below h).trans k (fun _ _ e => e)
theorem Mods.set {F : Nat → Prop} {a b : World} (h : Mods F a b) {p : Addr} (hp : F p.block ∨ a.heap.size ≤ p.block) (v : Value) : Mods F a (b.setCell p v) :=
  h.trans (G := fun k => k = p.block) ⟨rfl, rfl, rfl, by simp [World.setCell], fun k _ e => Below.heap_setCell b p v k e⟩ (fun i hi e => by subst e; exact hp.elim id (fun e => absurd e (by omega)))
theorem Mods.setRow {F : Nat → Prop} {a b : World} (h : Mods F a b) {g : Nat} (hg : F g ∨ a.heap.size ≤ g) (cs : Array Value) : Mods F a (b.setRow g cs) :=
  h.trans (G := fun k => k = g) ⟨rfl, rfl, rfl, by simp [World.setRow], fun k _ e => setRow_other b g k cs e⟩ (fun i hi e => by subst e; exact hg.elim id (fun e => absurd e (by omega)))
theorem Mods.grown {F : Nat → Prop} {a b c : World} (h : Mods F a b) {row : Option Nat} (hg : b.grownBy c row) (hr : ∀ k, row = some k → F k ∨ a.heap.size ≤ k) : Mods F a c :=
  h.trans (G := fun k => row = some k) ⟨hg.os, hg.tape, hg.output, hg.size, fun k hk e => hg.block k hk (fun e' => e e'.symm)⟩ (fun i hi e => (hr i e).elim id (fun e => absurd e (by omega)))
theorem Mods.drew {F : Nat → Prop} {a b : World} (h : Mods F a b) : Mods F a b.drew := ⟨h.os, h.tape, h.output, h.size, h.block⟩
theorem Mods.drewN {F : Nat → Prop} {a b : World} (h : Mods F a b) (n : Nat) : Mods F a (b.drewN n) := ⟨h.os, h.tape, h.output, h.size, h.block⟩
theorem Mods.alloc {F : Nat → Prop} {a b : World} (h : Mods F a b) (o : Obj) : Mods F a (b.alloc o) := h.then_below (below_alloc (Below.refl _ _) o)
theorem grow_mono {F : Nat → Prop} {a b c : World} (h : b.heap.size ≤ c.heap.size) {k : Nat} (hk : grow F a b k) : grow F a c k := hk.elim .inl (fun e => .inr ⟨e.1, by omega⟩)
theorem grow_grow {F : Nat → Prop} {a b c : World} (h1 : a.heap.size ≤ b.heap.size) (h2 : b.heap.size ≤ c.heap.size) {k : Nat} (hk : grow (grow F a b) b c k) : grow F a c k := by
  rcases hk with (hk | hk) | hk
  · exact .inl hk
  · exact .inr ⟨hk.1, by omega⟩
  · exact .inr ⟨by omega, hk.2⟩
abbrev Pk := S28
def pk (p : Pk) : List Value := [.int .i64 p.f0, .int .i64 p.f1, .int .i64 p.f2, .int .i64 p.f3, .int .i64 p.f4, .int .i64 p.f5, .string p.f6]
def flat (xs : List Pk) : List Value := xs.flatMap pk
theorem flat_len (xs : List Pk) : (flat xs).length = xs.length * 7 := by
  induction xs with
  | nil => rfl
  | cons x r ih => unfold flat at *; rw [List.flatMap_cons, List.length_append, ih, List.length_cons]; simp [pk]; omega
theorem flat_append (xs ys : List Pk) : flat (xs ++ ys) = flat xs ++ flat ys := by unfold flat; simp
theorem flat_one (xs : List Pk) : ∀ u ∈ flat xs, u.oneCell' = true := by
  intro u hu
  unfold flat at hu
  obtain ⟨p, _, hp⟩ := List.mem_flatMap.1 hu
  simp only [pk, List.mem_cons, List.not_mem_nil, or_false] at hp
  rcases hp with rfl | rfl | rfl | rfl | rfl | rfl | rfl <;> rfl
/-- A hop's row: nil, or its cells in a block of its own, which is full or has room to the block's end. -/
def Row (w : World) (v : Value) (xs : List Pk) : Prop :=
  (xs = [] ∧ ∃ A, v = .slice A 0 0 ∧ ∀ a, A = some a → a.off = 0 ∧ ∃ cur, w.heap[a.block]? = some (.cells cur 28 (0, 0))) ∨
  ∃ g cap cur, v = .slice (some ⟨g, 0, none⟩) xs.length cap ∧ w.heap[g]? = some (.cells cur 28 (0, 0)) ∧ xs.length ≤ cap ∧ cap ≤ maxLen ∧ (cur.size = cap * 7 ∨ xs.length = cap) ∧ cur.toList.take (xs.length * 7) = flat xs
theorem row_of_own {w : World} {base : Nat} {v : Value} {xs : List Pk} (h : w.ownsRow base 28 7 v xs.length (flat xs)) : Row w v xs := by
  obtain ⟨_, ⟨rfl, h0⟩ | ⟨g, cap, cur, h1, h2, h3, h4, h5, h6, h7⟩⟩ := h
  · exact .inl ⟨List.eq_nil_of_length_eq_zero h0, none, rfl, fun a ha => by cases ha⟩
  · exact .inr ⟨g, cap, cur, h1, h3, h4, h5, .inl h6, h7⟩
theorem row_cells {w : World} {g n : Nat} {cur : Array Value} {xs : List Pk} (hh : w.heap[g]? = some (.cells cur 28 (0, 0))) (ht : cur.toList.take (xs.length * 7) = flat xs) : ∀ j u, (flat xs)[j]? = some u → w.cell? ((⟨g, 0, none⟩ : Addr).add j) = some u := by
  intro j u hu
  rw [← ht, List.getElem?_take] at hu
  split at hu
  · rw [Addr.add_mid, Nat.zero_add]
    unfold World.cell?
    simp only [hh]
    simpa using hu
  · cases hu
theorem info28 : (Try.prog.info? 28).map (fun i => (i.zero, i.size, i.bytes)) = some (some (.agg #[.int .i64 0, .int .i64 0, .int .i64 0, .int .i64 0, .int .i64 0, .int .i64 0, .string ⟨#[]⟩]), 7, 64) := by kernel_rfl
theorem row_lt {w : World} {v : Value} {xs : List Pk} (h : Row w v xs) : ∀ k, v.ownBlock = some k → k < w.heap.size ∧ ∃ cur, w.heap[k]? = some (.cells cur 28 (0, 0)) := by
  intro k hk
  rcases h with ⟨rfl, A, rfl, hA⟩ | ⟨g, cap, cur, rfl, hh, h2, h3, h4, h5⟩
  · cases A with
    | none => cases hk
    | some a =>
      obtain ⟨_, cur, hh⟩ := hA a rfl
      have e : a.block = k := by simpa [Value.ownBlock] using hk
      subst e
      exact ⟨(Array.getElem?_eq_some_iff.1 hh).1, cur, hh⟩
  · have e : g = k := by simpa [Value.ownBlock] using hk
    subst e
    exact ⟨(Array.getElem?_eq_some_iff.1 hh).1, cur, hh⟩
/-- A packet is appended. 'F': where the row may lie. -/
theorem row_append {w : World} {v : Value} {xs : List Pk} (p : Pk) (HR : Row w v xs) (hlen : xs.length ≤ 1000) (ty : TypeId) (a : Addr) (c : Nat) (hn : ∀ j u, (pk p)[j]? = some u → w.cell? (a.add j) = some u) :
    ∃ v' w', (Builtin.append_ #[50, 50] ty #[v, .slice (some a) 1 c]).run Try.prog w = .ok v' w' ∧ Row w' v' (xs ++ [p]) ∧ w.grownBy w' v.ownBlock ∧ (v'.ownBlock = v.ownBlock ∨ ∃ b, v'.ownBlock = some b ∧ w.heap.size ≤ b) := by
  obtain ⟨i, hi, he⟩ := Option.map_eq_some_iff.1 info28
  have hz : i.zero = some _ := congrArg (·.1) he
  have hsz : i.size = 7 := congrArg (·.2.1) he
  have hby : i.bytes = 64 := congrArg (·.2.2) he
  have ht := Try.underlying50
  have hfp : flat (xs ++ [p]) = flat xs ++ pk p := by rw [flat_append]; simp [flat]
  have hl1 : (xs ++ [p]).length = xs.length + 1 := by simp
  have h1 : ∀ u ∈ pk p, u.oneCell' = true := fun u hu => flat_one [p] u (by simpa [flat] using hu)
  have hmax : xs.length + 1 ≤ maxLen := by unfold maxLen; omega
  have own : w.ownsRow 0 28 7 v xs.length (flat xs) → ∃ v' w', (Builtin.append_ #[50, 50] ty #[v, .slice (some a) 1 c]).run Try.prog w = .ok v' w' ∧ Row w' v' (xs ++ [p]) ∧ w.grownBy w' v.ownBlock ∧ (v'.ownBlock = v.ownBlock ∨ ∃ b, v'.ownBlock = some b ∧ w.heap.size ≤ b) := by
    intro ho
    obtain ⟨v', w', hr, ho', hg, _, hat⟩ := run_append_own_at (P := Try.prog) w 0 50 ty 28 i _ 7 64 ht hi hz hsz hby rfl (by omega) v xs.length (flat xs) ho a 1 c (pk p) rfl hn h1 hmax (by omega) (Nat.zero_le _)
    refine ⟨v', w', hr, row_of_own (by rw [hl1, hfp]; exact ho'), hg, ?_⟩
    rcases hat with hat | hat
    · exact .inl hat
    · exact .inr ⟨_, hat, Nat.le_refl _⟩
  have grow : ∀ (b : Addr) (cap : Nat), v = .slice (some b) xs.length cap → cap ≤ xs.length → (∀ j u, (flat xs)[j]? = some u → w.cell? (b.add j) = some u) → ∃ v' w', (Builtin.append_ #[50, 50] ty #[v, .slice (some a) 1 c]).run Try.prog w = .ok v' w' ∧ Row w' v' (xs ++ [p]) ∧ w.grownBy w' v.ownBlock ∧ (v'.ownBlock = v.ownBlock ∨ ∃ b, v'.ownBlock = some b ∧ w.heap.size ≤ b) := by
    intro b cap hv hcap hold
    obtain ⟨v', w', hr, ho, hg⟩ := run_append_arg_grows (P := Try.prog) (w := w) 50 ty 28 i _ 7 64 ht hi hz hsz hby rfl (by omega) b xs.length cap (flat xs) (flat_len xs) hold a 1 c (pk p) rfl hn (by omega) hmax (by omega)
    refine ⟨v', w', by rw [hv]; exact hr, row_of_own (by rw [hl1, hfp]; exact own_weaken ho (Nat.zero_le _)), ⟨hg.os, hg.tape, hg.output, hg.size, fun k hk _ => hg.block k hk (by simp)⟩, ?_⟩
    obtain ⟨g', cap', he, hb, _⟩ := ho.form (by omega)
    exact .inr ⟨g', by rw [he]; simp [Value.ownBlock], hb⟩
  rcases HR with ⟨rfl, A, rfl, hA⟩ | ⟨g, cap, cur, rfl, hh, h2, h3, h4, h5⟩
  · cases A with
    | none => exact own (World.ownsRow_nil w 0 28 7)
    | some b => exact grow b 0 rfl (Nat.le_refl _) (fun j u hu => by simp [flat] at hu)
  · rcases h4 with h4 | h4
    · exact own ⟨flat_len xs, .inr ⟨g, cap, cur, rfl, Nat.zero_le _, hh, h2, h3, h4, h5⟩⟩
    · exact grow _ cap rfl (by omega) (row_cells hh h5 (n := 0))
/-- The net in a block: its 256 rows' values, and its bools. -/
structure NetAt (w : World) (g : Nat) (vs : List Value) (q : List (List Pk)) (ap : List Bool) : Prop where
  blk : w.heap[g]? = some (.cells (vs ++ ap.map Value.bool).toArray 117 (0, 0))
  lv : vs.length = 256
  la : ap.length = 256
  lq : q.length = 256
  row : ∀ (i : Nat) (v : Value) (xs : List Pk), vs[i]? = some v → q[i]? = some xs → Row w v xs
  apart : ∀ (i j : Nat) (u v : Value), i ≠ j → vs[i]? = some u → vs[j]? = some v → ∀ k, u.ownBlock = some k → v.ownBlock ≠ some k
/-- The net's blocks lie in F. -/
def NetIn (F : Nat → Prop) (g : Nat) (vs : List Value) : Prop := F g ∧ ∀ (i : Nat) (v : Value), vs[i]? = some v → ∀ k, v.ownBlock = some k → F k
/-- A net, with all its blocks in F. -/
def NetW (w : World) (F : Nat → Prop) (g : Nat) (q : List (List Pk)) (ap : List Bool) : Prop := ∃ vs, NetAt w g vs q ap ∧ NetIn F g vs
theorem row_other {w w1 : World} {v : Value} {xs : List Pk} (h : Row w v xs) (hk : ∀ k, v.ownBlock = some k → w1.heap[k]? = w.heap[k]?) : Row w1 v xs := by
  rcases h with ⟨rfl, A, rfl, hA⟩ | ⟨g, cap, cur, rfl, hh, h2⟩
  · refine .inl ⟨rfl, A, rfl, fun a ha => ?_⟩
    obtain ⟨x1, cur, x3⟩ := hA a ha
    subst ha
    exact ⟨x1, cur, (hk a.block rfl).trans x3⟩
  · exact .inr ⟨g, cap, cur, rfl, (hk g rfl).trans hh, h2⟩
theorem row_below {w w1 : World} {v : Value} {xs : List Pk} (h : Row w v xs) (hb : Below w.heap.size w w1) : Row w1 v xs := row_other h (fun k hk => hb.block k (row_lt h k hk).1)
theorem NetAt.glt {w : World} {g : Nat} {vs : List Value} {q : List (List Pk)} {ap : List Bool} (h : NetAt w g vs q ap) : g < w.heap.size := (Array.getElem?_eq_some_iff.1 h.blk).1
theorem NetAt.below {w w1 : World} {g : Nat} {vs : List Value} {q : List (List Pk)} {ap : List Bool} (h : NetAt w g vs q ap) (hb : Below w.heap.size w w1) : NetAt w1 g vs q ap :=
  ⟨(hb.block _ h.glt).trans h.blk, h.lv, h.la, h.lq, fun i v xs a b => row_below (h.row i v xs a b) hb, h.apart⟩
theorem NetW.below {w w1 : World} {F : Nat → Prop} {g : Nat} {q : List (List Pk)} {ap : List Bool} (h : NetW w F g q ap) (hb : Below w.heap.size w w1) : NetW w1 F g q ap := by
  obtain ⟨vs, h1, h2⟩ := h
  exact ⟨vs, h1.below hb, h2⟩
theorem NetW.mono {w : World} {F G : Nat → Prop} {g : Nat} {q : List (List Pk)} {ap : List Bool} (h : NetW w F g q ap) (hG : ∀ k, k < w.heap.size → F k → G k) : NetW w G g q ap := by
  obtain ⟨vs, h1, h2⟩ := h
  refine ⟨vs, h1, hG _ h1.glt h2.1, fun i v hv k hk => ?_⟩
  obtain ⟨xs, hq⟩ : ∃ xs, q[i]? = some xs := ⟨_, List.getElem?_eq_getElem (by rw [h1.lq, ← h1.lv]; exact (List.getElem?_eq_some_iff.1 hv).1)⟩
  exact hG k (row_lt (h1.row i v xs hv hq) k hk).1 (h2.2 i v hv k hk)
/-- Other blocks have turned. -/
theorem NetW.mods {w w1 : World} {F G : Nat → Prop} {g : Nat} {q : List (List Pk)} {ap : List Bool} (h : NetW w F g q ap) (hm : Mods G w w1) (hd : ∀ k, k < w.heap.size → F k → ¬ G k) : NetW w1 F g q ap := by
  obtain ⟨vs, h1, h2⟩ := h
  refine ⟨vs, ⟨(hm.block _ h1.glt (hd _ h1.glt h2.1)).trans h1.blk, h1.lv, h1.la, h1.lq, fun i v xs hv hq => ?_, h1.apart⟩, h2⟩
  have hr := h1.row i v xs hv hq
  exact row_other hr (fun k hk => hm.block k (row_lt hr k hk).1 (hd k (row_lt hr k hk).1 (h2.2 i v hv k hk)))
theorem NetAt.cell {w : World} {g : Nat} {vs : List Value} {q : List (List Pk)} {ap : List Bool} (h : NetAt w g vs q ap) {i : Nat} {v : Value} (hi : vs[i]? = some v) : w.cell? ⟨g, i, none⟩ = some v := by
  unfold World.cell?
  simp only [h.blk]
  have := (List.getElem?_eq_some_iff.1 hi).1
  simp [List.getElem?_append_left this, hi]
theorem NetAt.slice {w : World} {g : Nat} {vs : List Value} {q : List (List Pk)} {ap : List Bool} (h : NetAt w g vs q ap) {i : Nat} {v : Value} {xs : List Pk} (hi : vs[i]? = some v) (hq : q[i]? = some xs) : ∃ A c, v = .slice A xs.length c := by
  rcases h.row i v xs hi hq with ⟨rfl, A, rfl, _⟩ | ⟨g, cap, cur, rfl, _⟩
  · exact ⟨A, 0, rfl⟩
  · exact ⟨_, _, rfl⟩
theorem NetAt.range {w : World} {g : Nat} {vs : List Value} {q : List (List Pk)} {ap : List Bool} (h : NetAt w g vs q ap) : w.rangeAt g 0 vs := by
  intro j v hj
  rw [Nat.zero_add]
  exact h.cell hj
/-- How many packets a net has. -/
def cnt (q : List (List Pk)) : Nat := (q.map List.length).sum
theorem NetAt.tot {w : World} {g : Nat} {vs : List Value} {q : List (List Pk)} {ap : List Bool} (h : NetAt w g vs q ap) : tot vs 256 = cnt q := by
  unfold NW.tot cnt
  rw [List.take_of_length_le (by rw [h.lv]; omega)]
  congr 1
  apply List.ext_getElem?
  intro i
  simp only [List.getElem?_map]
  by_cases hi : i < 256
  · have hv := List.getElem?_eq_getElem (l := vs) (i := i) (by rw [h.lv]; exact hi)
    have hq := List.getElem?_eq_getElem (l := q) (i := i) (by rw [h.lq]; exact hi)
    obtain ⟨A, c, e⟩ := h.slice hv hq
    rw [hv, hq, e]
    rfl
  · rw [List.getElem?_eq_none (by rw [h.lv]; omega), List.getElem?_eq_none (by rw [h.lq]; omega)]
    rfl
theorem count_net {w : World} {F : Nat → Prop} {g : Nat} {q : List (List Pk)} {ap : List Bool} (h : NetW w F g q ap) (hc : cnt q ≤ 1000) : Calls Try.prog 21 #[.pointer (some ⟨g, 0, none⟩)] w fun e w' => e = .returned (.int .i64 (cnt q)) ∧ Below w.heap.size w w' := by
  obtain ⟨vs, h, _⟩ := h
  have ht := h.tot
  rw [← ht] at hc ⊢
  refine count_is g w vs h.lv h.range (fun v hv => ?_) hc
  obtain ⟨i, hi⟩ := List.getElem?_of_mem hv
  have hq := List.getElem?_eq_getElem (l := q) (i := i) (by rw [h.lq, ← h.lv]; exact (List.getElem?_eq_some_iff.1 hi).1)
  obtain ⟨A, c, e⟩ := h.slice hi hq
  exact ⟨A, _, c, e⟩
def pkV (p : Pk) : Value := .agg (pk p).toArray
theorem NetAt.row_ne {w : World} {g : Nat} {vs : List Value} {q : List (List Pk)} {ap : List Bool} (h : NetAt w g vs q ap) {i : Nat} {v : Value} (hv : vs[i]? = some v) : v.ownBlock ≠ some g := by
  intro e
  obtain ⟨hi, _⟩ := List.getElem?_eq_some_iff.1 hv
  obtain ⟨xs, hq⟩ : ∃ xs, q[i]? = some xs := ⟨_, List.getElem?_eq_getElem (by rw [h.lq, ← h.lv]; exact hi)⟩
  obtain ⟨_, cur, hh⟩ := row_lt (h.row i v xs hv hq) g e
  rw [h.blk] at hh
  injection hh with hh
  injection hh with _ hh
  cases hh
/-- A row has been turned (its own block, or a new one), and its value is stored in its place. -/
theorem NetAt.put {w w1 : World} {g : Nat} {vs : List Value} {q : List (List Pk)} {ap : List Bool} (h : NetAt w g vs q ap) {i : Nat} {v v' : Value} {xs : List Pk} (hv : vs[i]? = some v) (hg : w.grownBy w1 v.ownBlock) (HR : Row w1 v' xs) (hat : v'.ownBlock = none ∨ v'.ownBlock = v.ownBlock ∨ ∃ b, v'.ownBlock = some b ∧ w.heap.size ≤ b) : NetAt (w1.setCell ⟨g, i, none⟩ v') g (vs.set i v') (q.set i xs) ap := by
  have hi := (List.getElem?_eq_some_iff.1 hv).1
  have hgl := h.glt
  have hblk1 : w1.heap[g]? = some (.cells (vs ++ ap.map Value.bool).toArray 117 (0, 0)) := (hg.block g hgl (fun e => h.row_ne hv e.symm)).trans h.blk
  have hne' : v'.ownBlock ≠ some g := by
    intro e
    obtain ⟨_, cur, hh⟩ := row_lt HR g e
    rw [hblk1] at hh
    injection hh with hh
    injection hh with _ hh
    cases hh
  refine ⟨?_, by simp [h.lv], h.la, by simp [h.lq], ?_, ?_⟩
  · rw [blk_set hblk1 i v']
    congr 2
    simp [List.set_append_left _ _ hi]
  · intro j u ys hu hys
    by_cases hij : i = j
    · subst hij
      rw [List.getElem?_set_self hi] at hu
      rw [List.getElem?_set_self (by rw [h.lq, ← h.lv]; exact hi)] at hys
      injection hu with hu
      injection hys with hys
      subst hu
      subst hys
      exact row_other HR (fun k hk => Below.heap_setCell w1 ⟨g, i, none⟩ v' k (fun e => hne' (by rw [hk, e])))
    · rw [List.getElem?_set_ne hij] at hu hys
      have hr := h.row j u ys hu hys
      refine row_other hr (fun k hk => ?_)
      obtain ⟨hkl, _⟩ := row_lt hr k hk
      rw [Below.heap_setCell w1 ⟨g, i, none⟩ v' k (fun e => h.row_ne hu (by rw [hk, e]))]
      exact hg.block k hkl (fun e => h.apart j i u v (fun e => hij e.symm) hu hv k hk e.symm)
  · intro a b u u' hab hu hu' k hk
    have key : ∀ (j : Nat) (y : Value), j ≠ i → vs[j]? = some y → ∀ m, y.ownBlock = some m → v'.ownBlock ≠ some m := by
      intro j y hj hy m hm e
      rcases hat with hat | hat | ⟨b, hat, hb⟩
      · rw [hat] at e; cases e
      · rw [hat] at e; exact h.apart j i y v hj hy hv m hm e
      · rw [hat] at e
        injection e with e
        obtain ⟨ys, hq⟩ : ∃ ys, q[j]? = some ys := ⟨_, List.getElem?_eq_getElem (by rw [h.lq, ← h.lv]; exact (List.getElem?_eq_some_iff.1 hy).1)⟩
        have := (row_lt (h.row j y ys hy hq) m hm).1
        omega
    by_cases ha : i = a
    · subst ha
      rw [List.getElem?_set_self hi] at hu
      rw [List.getElem?_set_ne hab] at hu'
      injection hu with hu
      subst hu
      intro e
      exact key b u' (fun e => hab e.symm) hu' k e hk
    · by_cases hb : i = b
      · subst hb
        rw [List.getElem?_set_self hi] at hu'
        rw [List.getElem?_set_ne ha] at hu
        injection hu' with hu'
        subst hu'
        exact key a u (fun e => ha e.symm) hu k hk
      · rw [List.getElem?_set_ne ha] at hu
        rw [List.getElem?_set_ne hb] at hu'
        exact h.apart a b u u' hab hu hu' k hk
theorem NetIn.put {F F' : Nat → Prop} {g : Nat} {vs : List Value} {i : Nat} {v' : Value} (h : NetIn F g vs) (hF : ∀ k, F k → F' k) (hv : ∀ k, v'.ownBlock = some k → F' k) : NetIn F' g (vs.set i v') := by
  refine ⟨hF _ h.1, fun j u hu k hk => ?_⟩
  by_cases hij : i = j
  · subst hij
    by_cases hl : i < vs.length
    · rw [List.getElem?_set_self hl] at hu
      injection hu with hu
      subst hu
      exact hv k hk
    · rw [List.getElem?_eq_none (by simpa using Nat.le_of_not_lt hl)] at hu
      cases hu
  · rw [List.getElem?_set_ne hij] at hu
    exact hF _ (h.2 j u hu k hk)
end Go.Proofs.Ytdibaeomepallaa.NW
