/- A pair of ends, in plain words: what each end is, what its deeds make of it, that nothing comes but what was sent, and that all comes when nothing is lost. No program in sight. -/
import Derived.Test.YtdibaeomepallaaNL
import Derived.Test.YtdibaeomepallaaKD
namespace Go.Proofs.Ytdibaeomepallaa.LK
open Go.RowKit Go.Proofs.YtdibaeomepallaaW.PrintWords Go.Proofs.YtdibaeomepallaaW.PrintLast Go.Proofs.YtdibaeomepallaaW.PrintMore Go.Proofs.Ytdibaeomepallaa.PAll Go.Proofs.Ytdibaeomepallaa.NW
set_option linter.unusedVariables false
set_option linter.unusedSimpArgs false
/-- An end of a link: its ends, its queue, the first number, how many are out, the number wanted, what came early. -/
structure Lk where
  x : S65
  q : List ByteArray
  base : Int
  out : Nat
  want : Int
  er : List (Int × ByteArray)
def e0 : ByteArray := ⟨#[]⟩
def pkt (l : Lk) (seq : Int) (s : ByteArray) : Pk := ⟨l.x.f0, l.x.f2, l.x.f1, l.x.f3, seq, l.want - 1, s⟩
def nth (l : Lk) (i : Nat) : Pk := pkt l (l.base + i) (l.q.getD i e0)
def outs (l : Lk) (a n : Nat) : List Pk := (List.range' a n).map (nth l)
def goL (l : Lk) : Lk := { l with out := max l.out (min 8 l.q.length) }
def goP (l : Lk) : List Pk := outs l l.out (min 8 l.q.length - l.out)
def sdE (l : Lk) (s : ByteArray) : Int := if 32768 < s.size then 1 else if 1099511627775 ≤ l.base + l.q.length then 13 else if 64 ≤ l.q.length then 6 else 0
def sdL (l : Lk) (s : ByteArray) : Lk := if sdE l s = 0 then goL { l with q := l.q ++ [s] } else l
def sdP (l : Lk) (s : ByteArray) : List Pk := if sdE l s = 0 then goP { l with q := l.q ++ [s] } else []
def ackN (l : Lk) (n : Int) : Nat := if n < l.base ∨ l.base + l.out ≤ n then 0 else (n - l.base + 1).toNat
def ack (l : Lk) (n : Int) : Lk := { l with q := l.q.drop (ackN l n), base := l.base + ackN l n, out := l.out - ackN l n }
def fnd (er : List (Int × ByteArray)) (k : Int) : Option ByteArray := (er.find? (fun x => x.1 == k)).map (·.2)
def del (er : List (Int × ByteArray)) (k : Int) : List (Int × ByteArray) := er.filter (fun x => x.1 != k)
def put (er : List (Int × ByteArray)) (k : Int) (s : ByteArray) : List (Int × ByteArray) := if (fnd er k).isSome = true then er else er ++ [(k, s)]
def hand : Nat → Int → List (Int × ByteArray) → Nat × List (Int × ByteArray) × List ByteArray
  | 0, _, er => (0, er, [])
  | n + 1, w, er => match fnd er w with
    | none => (0, er, [])
    | some s => if 1099511627775 ≤ w then (0, er, []) else ((hand n (w + 1) (del er w)).1 + 1, (hand n (w + 1) (del er w)).2.1, s :: (hand n (w + 1) (del er w)).2.2)
def cameR (l : Lk) (seq : Int) (s : ByteArray) : Nat × List (Int × ByteArray) × List ByteArray :=
  if seq < l.want ∨ 8 ≤ seq - l.want then (0, l.er, []) else hand ((put l.er seq s).length + 1) l.want (put l.er seq s)
def cameL (l : Lk) (seq : Int) (s : ByteArray) : Lk := { l with want := l.want + (cameR l seq s).1, er := (cameR l seq s).2.1 }
def cameT (l : Lk) (seq : Int) (s : ByteArray) : List ByteArray := (cameR l seq s).2.2
def tkE (l : Lk) (p : Pk) : Int := if okP p = true ∧ p.f0 = l.x.f2 ∧ p.f1 = l.x.f0 then (if p.f2 = l.x.f3 ∧ p.f3 = l.x.f1 then 0 else 4) else 1
def tk2 (l : Lk) (p : Pk) : Lk := if p.f4 = 0 then ack l p.f5 else cameL (ack l p.f5) p.f4 p.f6
def tkL (l : Lk) (p : Pk) : Lk := if tkE l p = 0 then goL (tk2 l p) else l
def tkT (l : Lk) (p : Pk) : List ByteArray := if tkE l p = 0 ∧ p.f4 ≠ 0 then cameT (ack l p.f5) p.f4 p.f6 else []
def tkP (l : Lk) (p : Pk) : List Pk := if tkE l p = 0 then (if p.f4 ≠ 0 ∧ goP (tk2 l p) = [] then [pkt (tk2 l p) 0 e0] else goP (tk2 l p)) else []
/-! ### early texts -/
theorem fnd_mem {er : List (Int × ByteArray)} {k : Int} {s : ByteArray} (h : fnd er k = some s) : (k, s) ∈ er := by
  unfold fnd at h
  obtain ⟨x, hx, rfl⟩ := Option.map_eq_some_iff.1 h
  have h1 := List.mem_of_find?_eq_some hx
  have h2 := List.find?_some hx
  have : x.1 = k := by simpa using h2
  subst this
  exact h1
theorem fnd_none {er : List (Int × ByteArray)} {k : Int} (h : fnd er k = none) : ∀ x ∈ er, x.1 ≠ k := by
  intro x hx e
  unfold fnd at h
  rw [Option.map_eq_none_iff, List.find?_eq_none] at h
  exact h x hx (by simpa using e)
def Keys (er : List (Int × ByteArray)) : Prop := er.Pairwise (fun x y => x.1 ≠ y.1)
theorem keys_del {er : List (Int × ByteArray)} (h : Keys er) (k : Int) : Keys (del er k) := List.Pairwise.filter _ h
theorem mem_del {er : List (Int × ByteArray)} {k : Int} {x : Int × ByteArray} : x ∈ del er k ↔ x ∈ er ∧ x.1 ≠ k := by
  unfold del
  rw [List.mem_filter]
  simp
theorem del_len {er : List (Int × ByteArray)} {k : Int} {s : ByteArray} (h : fnd er k = some s) : (del er k).length < er.length := by
  have hm := fnd_mem h
  have := List.length_filter_lt_length_iff_exists (p := fun x : Int × ByteArray => x.1 != k) (l := er)
  exact this.2 ⟨_, hm, by simp⟩
theorem keys_put {er : List (Int × ByteArray)} (h : Keys er) (k : Int) (s : ByteArray) : Keys (put er k s) := by
  unfold put
  split
  · exact h
  · rename_i hn
    have hn' : fnd er k = none := by simpa using hn
    refine List.pairwise_append.2 ⟨h, List.pairwise_singleton _ _, fun x hx y hy => ?_⟩
    rw [List.mem_singleton] at hy
    subst hy
    exact fnd_none hn' x hx
theorem mem_put {er : List (Int × ByteArray)} {k : Int} {s : ByteArray} {x : Int × ByteArray} (h : x ∈ put er k s) : x ∈ er ∨ x = (k, s) := by
  unfold put at h
  split at h
  · exact .inl h
  · rcases List.mem_append.1 h with h | h
    · exact .inl h
    · exact .inr (List.mem_singleton.1 h)
theorem put_old {er : List (Int × ByteArray)} {k : Int} {s : ByteArray} {x : Int × ByteArray} (h : x ∈ er) : x ∈ put er k s := by
  unfold put
  split
  · exact h
  · exact List.mem_append_left _ h
theorem put_has (er : List (Int × ByteArray)) (k : Int) (s : ByteArray) : ∃ t, (k, t) ∈ put er k s := by
  unfold put
  split
  · rename_i h
    obtain ⟨t, ht⟩ := Option.isSome_iff_exists.1 h
    exact ⟨t, fnd_mem ht⟩
  · exact ⟨s, List.mem_append_right _ (List.mem_singleton.2 rfl)⟩
/-- What may lie early: texts of the numbers from w to W, below N. -/
def Er (sent : List ByteArray) (f : Int) (w W N : Nat) (er : List (Int × ByteArray)) : Prop := ∀ e ∈ er, ∃ k : Nat, e.1 = f + k ∧ w ≤ k ∧ k < W ∧ k < N ∧ sent[k]? = some e.2
theorem hand_ok (sent : List ByteArray) (f : Int) (W N : Nat) (hN : N ≤ sent.length) (hf : f + sent.length ≤ 1099511627775) : ∀ (n w : Nat) (er : List (Int × ByteArray)), er.length < n → Er sent f w W N er → Keys er → w ≤ N →
    ∃ d er', hand n (f + w) er = (d, er', (sent.drop w).take d) ∧ w + d ≤ N ∧ Er sent f (w + d + 1) W N er' ∧ Keys er' ∧ (∀ e ∈ er, e.1 < f + (w + d : Nat) ∨ e ∈ er') := by
  intro n
  induction n with
  | zero => intro w er h; omega
  | succ n ih =>
    intro w er hl hE hK hw
    unfold hand
    cases hfd : fnd er (f + w) with
    | none =>
      refine ⟨0, er, by simp, by omega, fun e he => ?_, hK, fun e he => .inr he⟩
      obtain ⟨k, h1, h2, h3, h4, h5⟩ := hE e he
      have := fnd_none hfd e he
      exact ⟨k, h1, by omega, h3, h4, h5⟩
    | some s =>
      obtain ⟨k, h1, h2, h3, h4, h5⟩ := hE _ (fnd_mem hfd)
      have hk : k = w := by simp only at h1; omega
      subst hk
      simp only at h5
      have hd := del_len hfd
      have hlt : ¬ 1099511627775 ≤ f + (k : Int) := by omega
      obtain ⟨d, er', r1, r2, r3, r4, r5⟩ := ih (k + 1) (del er (f + k)) (by omega) (fun e he => by
        obtain ⟨he1, he2⟩ := mem_del.1 he
        obtain ⟨j, a1, a2, a3, a4, a5⟩ := hE e he1
        exact ⟨j, a1, by omega, a3, a4, a5⟩) (keys_del hK _) (by omega)
      have e1 : f + ((k + 1 : Nat) : Int) = f + (k : Int) + 1 := by omega
      rw [e1] at r1
      refine ⟨d + 1, er', ?_, by omega, fun e he => ?_, r4, fun e he => ?_⟩
      · simp only [if_neg hlt, r1]
        obtain ⟨hkl, hs⟩ := List.getElem?_eq_some_iff.1 h5
        rw [List.drop_eq_getElem_cons hkl, List.take_succ_cons, hs]
      · obtain ⟨j, a1, a2, a3, a4, a5⟩ := r3 e he
        exact ⟨j, a1, by omega, a3, a4, a5⟩
      · by_cases hek : e.1 = f + k
        · exact .inl (by omega)
        · rcases r5 e (mem_del.2 ⟨he, hek⟩) with h | h
          · exact .inl (by omega)
          · exact .inr h
/-- Distinct numbers of an interval are not more than it has. -/
theorem nat_few : ∀ (n : Nat) (l : List Nat), l.Pairwise (· ≠ ·) → (∀ k ∈ l, k < n) → l.length ≤ n := by
  intro n
  induction n with
  | zero =>
    intro l _ h
    cases l with
    | nil => exact Nat.le_refl _
    | cons a r => exact absurd (h a List.mem_cons_self) (by omega)
  | succ n ih =>
    intro l hp h
    have h1 := ih (l.filter (· != n)) (List.Pairwise.filter _ hp) (fun k hk => by
      obtain ⟨a, b⟩ := List.mem_filter.1 hk
      have := h k a
      have : k ≠ n := by simpa using b
      omega)
    have h2 : l.length ≤ (l.filter (· != n)).length + 1 := by
      clear h1 h ih
      induction l with
      | nil => simp
      | cons a r ih =>
        obtain ⟨ha, hr⟩ := List.pairwise_cons.1 hp
        by_cases e : a = n
        · subst e
          have : r.filter (· != a) = r := List.filter_eq_self.2 (fun b hb => by simpa using fun e => ha b hb e.symm)
          rw [List.filter_cons_of_neg (by simp), this]
          simp
        · rw [List.filter_cons_of_pos (by simpa using e)]
          have := ih hr
          simp only [List.length_cons]
          omega
    omega
theorem er_few {sent : List ByteArray} {f : Int} {w W N : Nat} {er : List (Int × ByteArray)} (hE : Er sent f w W N er) (hK : Keys er) (hw : w ≤ W) : er.length ≤ W - w := by
  have h := nat_few (W - w) (er.map (fun e => (e.1 - f).toNat - w)) (by
    rw [List.pairwise_map]
    refine List.Pairwise.imp_of_mem (R := fun x y => x.1 ≠ y.1) (fun {a b} ha hb hab => ?_) (show er.Pairwise (fun x y => x.1 ≠ y.1) from hK)
    obtain ⟨k, h1, h2, _⟩ := hE a ha
    obtain ⟨j, g1, g2, _⟩ := hE b hb
    omega) (fun k hk => by
    obtain ⟨e, he, rfl⟩ := List.mem_map.1 hk
    obtain ⟨k, h1, h2, h3, _⟩ := hE e he
    omega)
  simpa using h
/-! ### a pair of ends -/
/-- An end of the pair: the link, the packets that come to it, what it sent, what it handed on. -/
structure Sd where
  l : Lk
  row : List Pk
  sent : List ByteArray
  got : List ByteArray
/-- What a packet from the end S is, n the numbers that are out. -/
structure POk (f : Int) (n : Nat) (S : Sd) (p : Pk) : Prop where
  ok : okP p = true
  f0 : p.f0 = S.l.x.f0
  f1 : p.f1 = S.l.x.f2
  f2 : p.f2 = S.l.x.f1
  f3 : p.f3 = S.l.x.f3
  ack : p.f5 < S.l.want
  seq : p.f4 ≠ 0 → ∃ k : Nat, p.f4 = f + k ∧ k < n ∧ S.sent[k]? = some p.f6
/-- The way from S to R: b texts are acknowledged, w came. -/
structure Half (f : Int) (b w : Nat) (S R : Sd) : Prop where
  hf : 1 ≤ f
  base : S.l.base = f + b
  want : R.l.want = f + w
  q : S.l.q = S.sent.drop b
  out8 : S.l.out ≤ 8
  outb : b + S.l.out ≤ S.sent.length
  q64 : S.l.q.length ≤ 64
  num : f + S.sent.length ≤ 1099511627775
  bw : b ≤ w
  wo : w ≤ b + S.l.out
  got : R.got = S.sent.take w
  row : ∀ p ∈ R.row, POk f (b + S.l.out) S p
  er : Er S.sent f (w + 1) (w + 8) (b + S.l.out) R.l.er
  keys : Keys R.l.er
  size : ∀ s ∈ S.sent, s.size ≤ 32768
  x0 : S.l.x.f0 = R.l.x.f2
  x1 : S.l.x.f1 = R.l.x.f3
  x2 : S.l.x.f2 = R.l.x.f0
  x3 : S.l.x.f3 = R.l.x.f1
  may : (1 ≤ S.l.x.f0 ∧ S.l.x.f0 ≤ 15) ∧ (1 ≤ S.l.x.f2 ∧ S.l.x.f2 ≤ 15) ∧ S.l.x.f0 ≠ S.l.x.f2 ∧ (1 ≤ S.l.x.f1 ∧ S.l.x.f1 ≤ 1099511627775) ∧ (1 ≤ S.l.x.f3 ∧ S.l.x.f3 ≤ 1099511627775)
section
variable {f : Int} {b w : Nat} {S R : Sd}
theorem Half.qlen (h : Half f b w S R) : b + S.l.q.length = S.sent.length := by
  have := h.outb
  rw [h.q, List.length_drop]; omega
theorem Half.early (h : Half f b w S R) : R.l.er.length < 8 := by
  have := er_few h.er h.keys (by omega)
  omega
theorem Half.wlen (h : Half f b w S R) : w ≤ S.sent.length := by have := h.wo; have := h.outb; omega
/-- Fewer packets. -/
theorem Half.less (h : Half f b w S R) {row : List Pk} (hr : ∀ p ∈ row, p ∈ R.row) : Half f b w S { R with row := row } :=
  { h with row := fun p hp => h.row p (hr p hp) }
theorem Half.less' (h : Half f b w S R) (row : List Pk) : Half f b w { S with row := row } R :=
  { h with row := fun p hp => { h.row p hp with } }
/-- S hears an acknowledgment: the way from S. -/
theorem Half.acked (h : Half f b w S R) {n : Int} (hn : n < R.l.want) : Half f (b + ackN S.l n) w { S with l := ack S.l n } R := by
  have hk : ackN S.l n ≤ S.l.out ∧ b + ackN S.l n ≤ w := by
    have h1 := h.base
    have h2 := h.want
    have h3 := h.bw
    unfold ackN
    split <;> omega
  have ho := h.outb
  have hw := h.wo
  have e : b + ackN S.l n + (S.l.out - ackN S.l n) = b + S.l.out := by omega
  exact { hf := h.hf, base := (by show S.l.base + _ = _; have := h.base; omega), want := h.want, q := (by show S.l.q.drop _ = S.sent.drop _; rw [h.q, List.drop_drop]), out8 := (by show S.l.out - _ ≤ 8; have := h.out8; omega), outb := (by show b + ackN S.l n + (S.l.out - ackN S.l n) ≤ S.sent.length; omega), q64 := (by show (S.l.q.drop _).length ≤ 64; have := h.q64; rw [List.length_drop]; omega), num := h.num, bw := hk.2, wo := (by show w ≤ b + ackN S.l n + (S.l.out - ackN S.l n); omega), got := h.got, row := fun p hp => (by show POk f (b + ackN S.l n + (S.l.out - ackN S.l n)) _ p; rw [e]; exact { h.row p hp with }), er := (by show Er _ _ _ _ (b + ackN S.l n + (S.l.out - ackN S.l n)) _; rw [e]; exact h.er), keys := h.keys, size := h.size, x0 := h.x0, x1 := h.x1, x2 := h.x2, x3 := h.x3, may := h.may }
/-- R hears an acknowledgment: nothing for the way from S. -/
theorem Half.acked' (h : Half f b w S R) (n : Int) : Half f b w S { R with l := ack R.l n } :=
  { h with row := fun p hp => { h.row p hp with } }
/-- Texts go out of S. -/
theorem Half.goes (h : Half f b w S R) : Half f b w { S with l := goL S.l } R := by
  have hq := h.qlen
  have e : S.l.out ≤ max S.l.out (min 8 S.l.q.length) := Nat.le_max_left _ _
  have h8 := h.out8
  have hb := h.outb
  exact { h with out8 := (by show max _ _ ≤ 8; omega), outb := (by show b + max S.l.out (min 8 S.l.q.length) ≤ S.sent.length; omega), wo := (by show w ≤ b + max _ _; have := h.wo; omega), row := fun p hp => { h.row p hp with seq := fun hs => (by obtain ⟨k, h1, h2, h3⟩ := (h.row p hp).seq hs; exact ⟨k, h1, by show k < b + max _ _; omega, h3⟩) }, er := fun e he => (by obtain ⟨k, h1, h2, h3, h4, h5⟩ := h.er e he; exact ⟨k, h1, h2, h3, by show k < b + max _ _; omega, h5⟩) }
theorem Half.goes' (h : Half f b w S R) : Half f b w S { R with l := goL R.l } :=
  { h with row := fun p hp => { h.row p hp with } }
/-- A packet of S is under way. -/
theorem Half.sends (h : Half f b w S R) {ps : List Pk} (hp : ∀ p ∈ ps, POk f (b + S.l.out) S p) : Half f b w S { R with row := R.row ++ ps } :=
  { h with row := fun p hm => (List.mem_append.1 hm).elim (h.row p) (hp p) }
/-- The packets that say 'all came up to want' and bear no text, or a text that is out. -/
theorem Half.pkt {v c : Nat} (h : Half f b w S R) (g : Half f c v R S) (seq : Int) (s : ByteArray) (hs : seq = 0 ∧ s = e0 ∨ ∃ k : Nat, seq = f + k ∧ k < b + S.l.out ∧ S.sent[k]? = some s) : POk f (b + S.l.out) S (pkt S.l seq s) := by
  obtain ⟨m1, m2, m3, m4, m5⟩ := h.may
  have hw := g.want
  have hv := g.wlen
  have hf := h.hf
  have hn := g.num
  have hn2 := h.num
  refine ⟨?_, rfl, rfl, rfl, rfl, by show S.l.want - 1 < S.l.want; omega, ?_⟩
  · unfold okP
    rw [Bool.and_eq_true, Bool.and_eq_true, Bool.and_eq_true, Bool.and_eq_true, Bool.and_eq_true, Bool.and_eq_true, Bool.and_eq_true, Bool.and_eq_true, Bool.or_eq_true]
    repeat rw [decide_eq_true_iff]
    have hs2 : (0 ≤ seq ∧ seq ≤ 1099511627775) ∧ s.size ≤ 32768 ∧ (0 < seq ∨ s.size = 0) := by
      rcases hs with ⟨rfl, rfl⟩ | ⟨k, rfl, hk, hk2⟩
      · exact ⟨by omega, by show 0 ≤ _; omega, .inr rfl⟩
      · obtain ⟨hk3, _⟩ := List.getElem?_eq_some_iff.1 hk2
        exact ⟨by omega, h.size s (List.mem_of_getElem? hk2), .inl (by omega)⟩
    exact ⟨⟨⟨⟨⟨⟨⟨⟨m1, m2⟩, m3⟩, m4⟩, m5⟩, hs2.1⟩, by show 0 ≤ S.l.want - 1 ∧ S.l.want - 1 ≤ _; omega⟩, hs2.2.1⟩, hs2.2.2⟩
  · intro h0
    rcases hs with ⟨rfl, rfl⟩ | hk
    · exact absurd rfl h0
    · exact hk
theorem Half.nth {v c : Nat} (h : Half f b w S R) (g : Half f c v R S) {i : Nat} (hi : i < S.l.out) : POk f (b + S.l.out) S (nth S.l i) := by
  have hq := h.qlen
  have hb := h.outb
  refine h.pkt g _ _ (.inr ⟨b + i, by have := h.base; omega, by omega, ?_⟩)
  have hl : b + i < S.sent.length := by omega
  rw [h.q, List.getD_eq_getElem?_getD, List.getElem?_drop, List.getElem?_eq_getElem hl]
  rfl
theorem mem_outs {l : Lk} {a n : Nat} {p : Pk} (h : p ∈ outs l a n) : ∃ i, a ≤ i ∧ i < a + n ∧ p = nth l i := by
  obtain ⟨i, hi, rfl⟩ := List.mem_map.1 h
  rw [List.mem_range'_1] at hi
  exact ⟨i, hi.1, hi.2, rfl⟩
/-- R hears a text. -/
theorem Half.comes (h : Half f b w S R) {p : Pk} (hp : POk f (b + S.l.out) S p) (hs : p.f4 ≠ 0) : ∃ d, (cameR R.l p.f4 p.f6).1 = d ∧ Half f b (w + d) S { R with l := cameL R.l p.f4 p.f6, got := R.got ++ cameT R.l p.f4 p.f6 } ∧
    (∀ k : Nat, p.f4 = f + k → k < w + 8 → k < w + d ∨ ∃ s, (f + (k : Int), s) ∈ (cameL R.l p.f4 p.f6).er) ∧ (∀ e ∈ R.l.er, e.1 < f + (w + d : Nat) ∨ e ∈ (cameL R.l p.f4 p.f6).er) := by
  obtain ⟨k, hk1, hk2, hk3⟩ := hp.seq hs
  have hw := h.want
  by_cases hc : p.f4 < R.l.want ∨ 8 ≤ p.f4 - R.l.want
  · have e : cameR R.l p.f4 p.f6 = (0, R.l.er, []) := if_pos hc
    have eL : cameL R.l p.f4 p.f6 = R.l := by unfold cameL; rw [e]; simp
    have eT : cameT R.l p.f4 p.f6 = [] := by unfold cameT; rw [e]
    refine ⟨0, by rw [e], ?_, fun j hj hj8 => .inl (by omega), fun e he => .inr (by rw [eL]; exact he)⟩
    rw [eL, eT, List.append_nil]
    exact h
  · have e : cameR R.l p.f4 p.f6 = hand ((put R.l.er p.f4 p.f6).length + 1) R.l.want (put R.l.er p.f4 p.f6) := if_neg hc
    have hkw : w ≤ k ∧ k < w + 8 := by omega
    have hE : Er S.sent f w (w + 8) (b + S.l.out) (put R.l.er p.f4 p.f6) := by
      intro x hx
      rcases mem_put hx with hx | rfl
      · obtain ⟨j, h1, h2, h3, h4, h5⟩ := h.er x hx
        exact ⟨j, h1, by omega, h3, h4, h5⟩
      · exact ⟨k, hk1, hkw.1, hkw.2, hk2, hk3⟩
    obtain ⟨d, er', r1, r2, r3, r4, r5⟩ := hand_ok S.sent f (w + 8) (b + S.l.out) h.outb h.num _ w _ (Nat.lt_succ_self _) hE (keys_put h.keys _ _) h.wo
    rw [← hw] at r1
    rw [← e] at r1
    have eL : cameL R.l p.f4 p.f6 = { R.l with want := R.l.want + d, er := er' } := by unfold cameL; rw [r1]
    have eT : cameT R.l p.f4 p.f6 = (S.sent.drop w).take d := by unfold cameT; rw [r1]
    refine ⟨d, by rw [r1], ?_, fun j hj hj8 => ?_, fun x hx => ?_⟩
    · rw [eL, eT]
      have hwl := h.wlen
      exact { h with want := (by show R.l.want + d = _; omega), bw := (by have := h.bw; omega), wo := r2, got := (by show R.got ++ _ = _; rw [h.got, List.take_add]), row := fun q hq => { h.row q hq with }, er := fun x hx => (by obtain ⟨j, h1, h2, h3, h4, h5⟩ := r3 x hx; exact ⟨j, h1, h2, by omega, h4, h5⟩), keys := r4 }
    · obtain ⟨t, ht⟩ := put_has R.l.er p.f4 p.f6
      rcases r5 _ ht with h1 | h1
      · exact .inl (by simp only at h1; omega)
      · refine .inr ⟨t, ?_⟩
        rw [eL, ← hj]
        exact h1
    · rw [eL]
      exact r5 x (put_old hx)
/-- .. the other way: R wants more, and that is all. -/
theorem Half.comes' (g : Half f b w R S) (seq : Int) (s : ByteArray) (got : List ByteArray) : Half f b w { R with l := cameL R.l seq s, got := got } S :=
  { g with row := fun p hp => { g.row p hp with ack := (by show p.f5 < R.l.want + _; have := (g.row p hp).ack; omega) } }
theorem POk.goes {n : Nat} {p : Pk} (h : POk f n S p) {m : Nat} (hm : n ≤ m) : POk f m S p :=
  { h with seq := fun hs => by obtain ⟨k, h1, h2, h3⟩ := h.seq hs; exact ⟨k, h1, by omega, h3⟩ }
end
section
variable {f : Int} {b w : Nat} {S R : Sd}
/-! ### deeds -/
structure Inv (f : Int) (A B : Sd) : Prop where
  ab : ∃ b w, Half f b w A B
  ba : ∃ b w, Half f b w B A
  fa : A.l.out = min 8 A.l.q.length
  fb : B.l.out = min 8 B.l.q.length
  cap : A.row.length + B.row.length ≤ 400
theorem Inv.swap {f : Int} {A B : Sd} (h : Inv f A B) : Inv f B A := ⟨h.ba, h.ab, h.fb, h.fa, by have := h.cap; omega⟩
def pushR (A B : Sd) (ps : List Pk) : List Pk := ps.take (400 - (A.row.length + B.row.length))
def dOut (A B : Sd) (ps : List Pk) : Sd := { B with row := B.row ++ pushR A B ps }
theorem dOut_le {A B : Sd} (ps : List Pk) (h : A.row.length + B.row.length ≤ 400) : A.row.length + (dOut A B ps).row.length ≤ 400 := by
  simp only [dOut, pushR, List.length_append, List.length_take]; omega
def sdS (A : Sd) (s : ByteArray) : Sd := { A with l := sdL A.l s, sent := if sdE A.l s = 0 then A.sent ++ [s] else A.sent }
def popR (A : Sd) (k : Nat) : Sd := { A with row := A.row.eraseIdx k }
def tkS (A : Sd) (p : Pk) : Sd := { A with l := tkL A.l p, got := A.got ++ tkT A.l p }
theorem Half.out (h : Half f b w S R) {ps : List Pk} (hp : ∀ p ∈ ps, POk f (b + S.l.out) S p) : Half f b w S (dOut S R ps) := h.sends (fun p hm => hp p (List.mem_of_mem_take hm))
theorem Half.out' (h : Half f b w S R) (ps : List Pk) : Half f b w (dOut R S ps) R := h.less' _
/-- All that goes out of S is as it should be. -/
theorem Half.goP {v c : Nat} (h : Half f b w S R) (g : Half f c v R S) : ∀ p ∈ goP S.l, POk f (b + (goL S.l).out) S p := by
  intro p hp
  obtain ⟨i, h1, h2, rfl⟩ := mem_outs hp
  have h1 := (h.goes).nth (S := { S with l := goL S.l }) (g.goes') (i := i) (by show i < max _ _; omega)
  exact { h1 with }
/-- Before a text is sent: it lies in the queue. -/
theorem Half.adds (h : Half f b w S R) {s : ByteArray} (hs : s.size ≤ 32768) (h64 : S.l.q.length < 64) (hm : S.l.base + S.l.q.length < 1099511627775) : Half f b w { S with l := { S.l with q := S.l.q ++ [s] }, sent := S.sent ++ [s] } R := by
  have hq := h.qlen
  have hb := h.outb
  have hbase := h.base
  have hwl := h.wlen
  exact { h with q := (by show S.l.q ++ [s] = (S.sent ++ [s]).drop b; rw [List.drop_append_of_le_length (by omega), h.q]), outb := (by show b + S.l.out ≤ (S.sent ++ [s]).length; simp; omega), q64 := (by show (S.l.q ++ [s]).length ≤ 64; simp; omega), num := (by show f + ((S.sent ++ [s]).length : Int) ≤ _; simp; omega), got := (by show R.got = (S.sent ++ [s]).take w; rw [List.take_append_of_le_length hwl, h.got]), row := fun p hp => { h.row p hp with seq := fun h0 => (by obtain ⟨k, h1, h2, h3⟩ := (h.row p hp).seq h0; exact ⟨k, h1, h2, by show (S.sent ++ [s])[k]? = _; rw [List.getElem?_append_left (by omega)]; exact h3⟩) }, er := fun e he => (by obtain ⟨k, h1, h2, h3, h4, h5⟩ := h.er e he; exact ⟨k, h1, h2, h3, h4, by show (S.sent ++ [s])[k]? = _; rw [List.getElem?_append_left (by omega)]; exact h5⟩), size := fun t ht => (List.mem_append.1 ht).elim (h.size t) (fun e => by rw [List.mem_singleton.1 e]; exact hs) }
theorem Half.adds' (h : Half f b w R S) (s : ByteArray) : Half f b w R { S with l := { S.l with q := S.l.q ++ [s] }, sent := S.sent ++ [s] } :=
  { h with row := fun p hp => { h.row p hp with } }
theorem sdE_ok {l : Lk} {s : ByteArray} (h : sdE l s = 0) : s.size ≤ 32768 ∧ l.base + l.q.length < 1099511627775 ∧ l.q.length < 64 := by
  unfold sdE at h
  split at h
  · cases h
  · split at h
    · cases h
    · split at h
      · cases h
      · omega
theorem goL_full (l : Lk) (h : l.out ≤ min 8 l.q.length) : (goL l).out = min 8 (goL l).q.length := by
  show max _ _ = min 8 l.q.length; omega
/-- A text is sent (or refused). -/
theorem Inv.send {f : Int} {A B : Sd} (h : Inv f A B) (s : ByteArray) : Inv f (sdS A s) (dOut A B (sdP A.l s)) := by
  by_cases hE : sdE A.l s = 0
  · obtain ⟨h1, h2, h3⟩ := sdE_ok hE
    obtain ⟨b, w, hab⟩ := h.ab
    obtain ⟨c, v, hba⟩ := h.ba
    have k1 := hab.adds h1 h3 h2
    have k2 := hba.adds' s
    have eP : sdP A.l s = goP { A.l with q := A.l.q ++ [s] } := if_pos hE
    have eL : sdL A.l s = goL { A.l with q := A.l.q ++ [s] } := if_pos hE
    have hg := k1.goP k2
    have o1 := (k1.goes.out (ps := sdP A.l s) (fun p hp => by rw [eP] at hp; exact { hg p hp with }))
    refine ⟨⟨b, w, ?_⟩, ⟨c, v, ?_⟩, ?_, h.fb, dOut_le _ h.cap⟩
    · unfold sdS; rw [eL, if_pos hE]; exact o1
    · unfold sdS; rw [eL, if_pos hE]; exact (k2.goes').out' (R := { A with l := goL { A.l with q := A.l.q ++ [s] }, sent := A.sent ++ [s] }) _
    · show (sdL A.l s).out = min 8 (sdL A.l s).q.length
      rw [eL]
      exact goL_full _ (by show A.l.out ≤ min 8 (A.l.q ++ [s]).length; have := h.fa; simp; omega)
  · have eP : sdP A.l s = [] := if_neg hE
    have eL : sdL A.l s = A.l := if_neg hE
    have e1 : sdS A s = A := by unfold sdS; rw [eL, if_neg hE]
    have e2 : dOut A B (sdP A.l s) = B := by unfold dOut pushR; rw [eP]; simp
    rw [e1, e2]
    exact h
/-- An end ticks. -/
theorem Inv.tick {f : Int} {A B : Sd} (h : Inv f A B) : Inv f A (dOut A B (outs A.l 0 A.l.out)) := by
  obtain ⟨b, w, hab⟩ := h.ab
  obtain ⟨c, v, hba⟩ := h.ba
  refine ⟨⟨b, w, hab.out fun p hp => ?_⟩, ⟨c, v, hba.out' _⟩, h.fa, h.fb, dOut_le _ h.cap⟩
  obtain ⟨i, h1, h2, rfl⟩ := mem_outs hp
  exact hab.nth hba (by omega)
/-- A packet is lost. -/
theorem Inv.lose {f : Int} {A B : Sd} (h : Inv f A B) (k : Nat) : Inv f (popR A k) B := by
  obtain ⟨b, w, hab⟩ := h.ab
  obtain ⟨c, v, hba⟩ := h.ba
  refine ⟨⟨b, w, hab.less' _⟩, ⟨c, v, hba.less (fun p hp => List.mem_of_mem_eraseIdx hp)⟩, h.fa, h.fb, ?_⟩
  have := h.cap
  have : (popR A k).row.length ≤ A.row.length := List.length_eraseIdx_le _ _
  omega
/-- A packet is doubled. -/
theorem Inv.twice {f : Int} {A B : Sd} (h : Inv f A B) {p : Pk} (hp : p ∈ A.row) : Inv f (dOut B A [p]) B := by
  obtain ⟨b, w, hab⟩ := h.ab
  obtain ⟨c, v, hba⟩ := h.ba
  refine ⟨⟨b, w, hab.out' _⟩, ⟨c, v, hba.out fun q hq => ?_⟩, h.fa, h.fb, ?_⟩
  · rw [List.mem_singleton.1 hq]; exact hba.row p hp
  · have := dOut_le (A := B) (B := A) [p] (by have := h.cap; omega)
    omega
theorem ack_full {l : Lk} (h : l.out ≤ min 8 l.q.length) (n : Int) : (ack l n).out ≤ min 8 (ack l n).q.length := by
  show l.out - _ ≤ min 8 (l.q.drop _).length
  rw [List.length_drop]; omega
theorem tk2_full {l : Lk} (h : l.out ≤ min 8 l.q.length) (p : Pk) : (tk2 l p).out ≤ min 8 (tk2 l p).q.length := by
  unfold tk2
  split
  · exact ack_full h _
  · exact ack_full h _
theorem tkP_ok {l : Lk} {p : Pk} (hE : tkE l p = 0) {q : Pk} (hq : q ∈ tkP l p) : q ∈ goP (tk2 l p) ∨ q = pkt (tk2 l p) 0 e0 := by
  unfold tkP at hq
  rw [if_pos hE] at hq
  split at hq
  · exact .inr (List.mem_singleton.1 hq)
  · exact .inl hq
/-- What an end's hearing makes of both ways: R hears p, of S. -/
theorem Inv.hears {f : Int} {R S : Sd} (h : Inv f R S) {p : Pk} (hp : ∀ b w, Half f b w S R → POk f (b + S.l.out) S p) : tkE R.l p = 0 ∧ Inv f (tkS R p) (dOut R S (tkP R.l p)) := by
  obtain ⟨c, v, hrs⟩ := h.ab
  obtain ⟨b, w, hsr⟩ := h.ba
  have hpk := hp b w hsr
  have hE : tkE R.l p = 0 := by
    unfold tkE
    rw [if_pos ⟨hpk.ok, hpk.f0.trans hsr.x0, hpk.f1.trans hsr.x2⟩, if_pos ⟨hpk.f2.trans hsr.x1, hpk.f3.trans hsr.x3⟩]
  refine ⟨hE, ?_⟩
  have a1 := hrs.acked hpk.ack
  have a2 := hsr.acked' p.f5
  have key : ∃ w', Half f b w' S { R with l := tk2 R.l p, got := R.got ++ tkT R.l p } ∧ Half f (c + ackN R.l p.f5) v { R with l := tk2 R.l p, got := R.got ++ tkT R.l p } S := by
    unfold tk2 tkT
    by_cases h4 : p.f4 = 0
    · rw [if_pos h4, if_neg (fun e => e.2 h4), List.append_nil]
      exact ⟨w, a2, a1⟩
    · rw [if_neg h4, if_pos ⟨hE, h4⟩]
      obtain ⟨d, _, hd, _⟩ := a2.comes { hpk with } h4
      exact ⟨w + d, hd, a1.comes' _ _ _⟩
  obtain ⟨w', k1, k2⟩ := key
  have hg := k2.goP k1
  have eL : tkL R.l p = goL (tk2 R.l p) := if_pos hE
  refine ⟨⟨c + ackN R.l p.f5, v, ?_⟩, ⟨b, w', ?_⟩, ?_, h.fb, dOut_le _ h.cap⟩
  · unfold tkS
    rw [eL]
    refine k2.goes.out (S := { R with l := goL (tk2 R.l p), got := R.got ++ tkT R.l p }) (fun q hq => ?_)
    rcases tkP_ok hE hq with hq | rfl
    · exact { hg q hq with }
    · exact { (k2.goes).pkt k1.goes' 0 e0 (.inl ⟨rfl, rfl⟩) with }
  · unfold tkS
    rw [eL]
    exact (k1.goes').out' (R := { R with l := goL (tk2 R.l p), got := R.got ++ tkT R.l p }) _
  · show (tkL R.l p).out = min 8 (tkL R.l p).q.length
    rw [eL]
    exact goL_full _ (tk2_full (by have := h.fa; omega) p)
/-- The k-th packet comes. -/
theorem Inv.come {f : Int} {A B : Sd} (h : Inv f A B) {k : Nat} {p : Pk} (hp : A.row[k]? = some p) : tkE A.l p = 0 ∧ Inv f (tkS (popR A k) p) (dOut (popR A k) B (tkP A.l p)) := by
  have hm := List.mem_of_getElem? hp
  obtain ⟨c, v, hba⟩ := h.ba
  refine (h.lose k).hears (R := popR A k) (fun b w hs => ?_)
  have e : f + (b : Int) = f + c := by rw [← hs.base, hba.base]
  have e2 : b = c := by omega
  subst e2
  exact hba.row p hm
/-- What each end handed on is right. -/
theorem Inv.right {f : Int} {A B : Sd} (h : Inv f A B) : A.got = B.sent.take A.got.length ∧ A.got.length ≤ B.sent.length ∧ A.l.er.length < 8 ∧ A.l.q.length ≤ 64 ∧ A.l.out ≤ 8 := by
  obtain ⟨c, v, hba⟩ := h.ba
  obtain ⟨b, w, hab⟩ := h.ab
  have hw := hba.wlen
  have hl : A.got.length = v := by rw [hba.got, List.length_take]; omega
  exact ⟨by rw [hl]; exact hba.got, by omega, hba.early, hab.q64, hab.out8⟩
end
/-! ### how long it takes till no packet is under way -/
def dat (row : List Pk) : Nat := (row.filter (fun p => p.f4 != 0)).length
def akn (row : List Pk) : Nat := (row.filter (fun p => p.f4 == 0)).length
theorem dat_akn (row : List Pk) : dat row + akn row = row.length := by
  unfold dat akn
  induction row with
  | nil => rfl
  | cons p r ih =>
    by_cases h : p.f4 = 0
    · rw [List.filter_cons_of_neg (by simp [h]), List.filter_cons_of_pos (by simp [h])]; simp only [List.length_cons]; omega
    · rw [List.filter_cons_of_pos (by simpa using h), List.filter_cons_of_neg (by simpa using h)]; simp only [List.length_cons]; omega
theorem dat_append (a b : List Pk) : dat (a ++ b) = dat a + dat b := by unfold dat; rw [List.filter_append, List.length_append]
theorem akn_append (a b : List Pk) : akn (a ++ b) = akn a + akn b := by unfold akn; rw [List.filter_append, List.length_append]
theorem dat_take (n : Nat) (a : List Pk) : dat (a.take n) ≤ dat a := by
  have h := dat_append (a.take n) (a.drop n)
  rw [List.take_append_drop] at h; omega
theorem akn_take (n : Nat) (a : List Pk) : akn (a.take n) ≤ akn a := by
  have h := akn_append (a.take n) (a.drop n)
  rw [List.take_append_drop] at h; omega
def uns (A : Sd) : Nat := A.l.q.length - A.l.out
/-- One packet (if there is any) comes to A. -/
def Step1 (DA KA DB KB U DA' KA' DB' KB' U' : Nat) : Prop :=
  (DA = 0 ∧ KA = 0 ∧ DA' = 0 ∧ KA' = 0 ∧ DB' = DB ∧ KB' = KB ∧ U' = U) ∨
  (DA = DA' + 1 ∧ KA' = KA ∧ ((∃ k, 1 ≤ k ∧ DB ≤ DB' ∧ DB' ≤ DB + k ∧ KB' = KB ∧ U = U' + k) ∨ (DB' = DB ∧ KB ≤ KB' ∧ KB' ≤ KB + 1 ∧ U' = U))) ∨
  (DA' = DA ∧ KA = KA' + 1 ∧ KB' = KB ∧ ∃ k, DB ≤ DB' ∧ DB' ≤ DB + k ∧ U = U' + k)
theorem dat_pos (A : Lk) (h : 1 ≤ A.base) (a n : Nat) : dat (outs A a n) = n ∧ akn (outs A a n) = 0 := by
  have h1 : dat (outs A a n) = (outs A a n).length := by
    unfold dat
    rw [List.filter_eq_self.2]
    intro p hp
    obtain ⟨i, _, _, rfl⟩ := mem_outs hp
    have : A.base + (i : Int) ≠ 0 := by omega
    simpa [nth, pkt] using this
  have h2 := dat_akn (outs A a n)
  have h3 : (outs A a n).length = n := by unfold outs; simp
  omega
section
variable {f : Int} {b w : Nat} {S R : Sd}
theorem Half.base1 (h : Half f b w S R) : 1 ≤ S.l.base := by have := h.base; have := h.hf; omega
end
theorem ackN_le (l : Lk) (n : Int) : ackN l n ≤ l.out := by unfold ackN; split <;> omega
theorem tk2_base {l : Lk} (p : Pk) : (tk2 l p).base = l.base + ackN l p.f5 ∧ (tk2 l p).out = l.out - ackN l p.f5 ∧ (tk2 l p).q = l.q.drop (ackN l p.f5) := by
  unfold tk2
  split
  · exact ⟨rfl, rfl, rfl⟩
  · exact ⟨rfl, rfl, rfl⟩
/-- An end hears a packet: counted. -/
theorem step_count {f : Int} {A B : Sd} (h : Inv f A B) {p : Pk} {r : List Pk} (hr : A.row = p :: r) (hE : tkE A.l p = 0) :
    Step1 (dat A.row) (akn A.row) (dat B.row) (akn B.row) (uns A + uns B) (dat (tkS (popR A 0) p).row) (akn (tkS (popR A 0) p).row) (dat (dOut (popR A 0) B (tkP A.l p)).row) (akn (dOut (popR A 0) B (tkP A.l p)).row) (uns (tkS (popR A 0) p) + uns (dOut (popR A 0) B (tkP A.l p))) := by
  have e1 : (tkS (popR A 0) p).row = r := by show A.row.eraseIdx 0 = r; rw [hr]; rfl
  rw [e1]
  obtain ⟨t1, t2, t3⟩ := tk2_base (l := A.l) p
  have ha := ackN_le A.l p.f5
  obtain ⟨bb, ww, hab⟩ := h.ab
  have hb1 : 1 ≤ (tk2 A.l p).base := by rw [t1]; have := hab.base1; omega
  have hfa := h.fa
  have eL : tkL A.l p = goL (tk2 A.l p) := if_pos hE
  have hk := dat_pos (tk2 A.l p) hb1 (tk2 A.l p).out (min 8 (tk2 A.l p).q.length - (tk2 A.l p).out)
  have hu : uns (tkS (popR A 0) p) + (min 8 (tk2 A.l p).q.length - (tk2 A.l p).out) = uns A := by
    unfold uns tkS
    show (tkL A.l p).q.length - (tkL A.l p).out + _ = _
    rw [eL]
    show (tk2 A.l p).q.length - max (tk2 A.l p).out (min 8 (tk2 A.l p).q.length) + _ = _
    rw [t2, t3, List.length_drop]
    omega
  have eB : uns (dOut (popR A 0) B (tkP A.l p)) = uns B := rfl
  rw [eB]
  have eR : (dOut (popR A 0) B (tkP A.l p)).row = B.row ++ pushR (popR A 0) B (tkP A.l p) := rfl
  rw [eR, dat_append, akn_append]
  have p1 := dat_take (400 - ((popR A 0).row.length + B.row.length)) (tkP A.l p)
  have p2 := akn_take (400 - ((popR A 0).row.length + B.row.length)) (tkP A.l p)
  show Step1 _ _ _ _ _ _ _ (dat B.row + dat ((tkP A.l p).take _)) (akn B.row + akn ((tkP A.l p).take _)) _
  unfold Step1
  obtain ⟨n, hn⟩ : ∃ n, n = min 8 (tk2 A.l p).q.length - (tk2 A.l p).out := ⟨_, rfl⟩
  have hP : tkP A.l p = if p.f4 ≠ 0 ∧ goP (tk2 A.l p) = [] then [pkt (tk2 A.l p) 0 e0] else goP (tk2 A.l p) := if_pos hE
  have hG : dat (goP (tk2 A.l p)) = n ∧ akn (goP (tk2 A.l p)) = 0 := by rw [hn]; exact hk
  rw [← hn] at hu
  by_cases h4 : p.f4 = 0
  · rw [if_neg (fun e => e.1 h4)] at hP
    rw [hP] at p1 p2 ⊢
    refine .inr (.inr ⟨?_, ?_, ?_, n, ?_, ?_, ?_⟩)
    · rw [hr]; unfold dat; rw [List.filter_cons_of_neg (by simp [h4])]
    · rw [hr]; unfold akn; rw [List.filter_cons_of_pos (by simp [h4])]; simp
    · omega
    · omega
    · omega
    · omega
  · have d1 : dat A.row = dat r + 1 := by rw [hr]; unfold dat; rw [List.filter_cons_of_pos (by simpa using h4)]; simp
    have d2 : akn r = akn A.row := by rw [hr]; unfold akn; rw [List.filter_cons_of_neg (by simpa using h4)]
    refine .inr (.inl ⟨d1, d2, ?_⟩)
    by_cases hg : goP (tk2 A.l p) = []
    · rw [if_pos ⟨h4, hg⟩] at hP
      rw [hP] at p1 p2 ⊢
      have hn0 : n = 0 := by rw [hg] at hG; exact hG.1.symm
      have g1 : dat [pkt (tk2 A.l p) 0 e0] = 0 := rfl
      have g2 : akn [pkt (tk2 A.l p) 0 e0] = 1 := rfl
      refine .inr ⟨by omega, by omega, by omega, by omega⟩
    · rw [if_neg (fun e => hg e.2)] at hP
      rw [hP] at p1 p2 ⊢
      have hn1 : 1 ≤ n := by
        rcases Nat.eq_zero_or_pos n with e | e
        · exfalso
          apply hg
          unfold goP
          rw [← hn, e]
          rfl
        · exact e
      exact .inl ⟨n, hn1, by omega, by omega, by omega, by omega⟩
/-- One packet, if there is any, comes to A. -/
def stp (A B : Sd) : Sd × Sd := match A.row with
  | [] => (A, B)
  | p :: _ => (tkS (popR A 0) p, dOut (popR A 0) B (tkP A.l p))
theorem Inv.step {f : Int} {A B : Sd} (h : Inv f A B) : Inv f (stp A B).1 (stp A B).2 := by
  unfold stp
  cases hr : A.row with
  | nil => exact h
  | cons p r => exact (h.come (k := 0) (p := p) (by rw [hr]; rfl)).2
theorem Inv.step_ok {f : Int} {A B : Sd} (h : Inv f A B) {p : Pk} {r : List Pk} (hr : A.row = p :: r) : tkE A.l p = 0 := (h.come (k := 0) (p := p) (by rw [hr]; rfl)).1
theorem Inv.step1 {f : Int} {A B : Sd} (h : Inv f A B) : Step1 (dat A.row) (akn A.row) (dat B.row) (akn B.row) (uns A + uns B) (dat (stp A B).1.row) (akn (stp A B).1.row) (dat (stp A B).2.row) (akn (stp A B).2.row) (uns (stp A B).1 + uns (stp A B).2) := by
  unfold stp
  cases hr : A.row with
  | nil =>
    simp only [hr]
    exact .inl ⟨rfl, rfl, rfl, rfl, rfl, rfl, rfl⟩
  | cons p r =>
    have h1 := step_count h hr (h.step_ok hr)
    rw [hr] at h1
    exact h1
/-! ### when nothing is lost -/
structure Liv (S R : Sd) : Prop where
  l1 : ∀ k : Int, S.l.base ≤ k → k < S.l.base + S.l.out → k < R.l.want ∨ (∃ s, (k, s) ∈ R.l.er) ∨ ∃ p ∈ R.row, p.f4 = k
  l2 : S.l.base < R.l.want → (∃ p ∈ R.row, p.f4 ≠ 0) ∨ ∃ p, S.row.getLast? = some p ∧ p.f5 = R.l.want - 1
/-- All is alive, and there is room for all. -/
structure LInv (f : Int) (A B : Sd) : Prop where
  inv : Inv f A B
  ab : Liv A B
  ba : Liv B A
  room : A.row.length + B.row.length + (uns A + uns B) ≤ 400
theorem LInv.swap {f : Int} {A B : Sd} (h : LInv f A B) : LInv f B A := ⟨h.inv.swap, h.ba, h.ab, by have := h.room; omega⟩
theorem tk2_want {l : Lk} (p : Pk) (h : p.f4 = 0) : (tk2 l p).want = l.want ∧ (tk2 l p).er = l.er := by unfold tk2; rw [if_pos h]; exact ⟨rfl, rfl⟩
theorem outs_ack {l : Lk} {a n : Nat} {p : Pk} (h : p ∈ outs l a n) : p.f5 = l.want - 1 := by obtain ⟨i, _, _, rfl⟩ := mem_outs h; rfl
theorem LInv.step {f : Int} {A B : Sd} (h : LInv f A B) : LInv f (stp A B).1 (stp A B).2 := by
  have hI := h.inv.step
  have hs := h.inv.step1
  have hroom := h.room
  cases hr : A.row with
  | nil =>
    have e : stp A B = (A, B) := by unfold stp; rw [hr]
    rw [e]
    exact h
  | cons p r =>
    have e : stp A B = (tkS (popR A 0) p, dOut (popR A 0) B (tkP A.l p)) := by unfold stp; rw [hr]
    rw [e] at hI hs ⊢
    have hE := h.inv.step_ok hr
    have eL : tkL A.l p = goL (tk2 A.l p) := if_pos hE
    have hP : tkP A.l p = if p.f4 ≠ 0 ∧ goP (tk2 A.l p) = [] then [pkt (tk2 A.l p) 0 e0] else goP (tk2 A.l p) := if_pos hE
    obtain ⟨t1, t2, t3⟩ := tk2_base (l := A.l) p
    have ha := ackN_le A.l p.f5
    have hfa := h.inv.fa
    obtain ⟨b, w, hab⟩ := h.inv.ab
    obtain ⟨c, v, hba⟩ := h.inv.ba
    have hpk := hba.row p (by rw [hr]; exact List.mem_cons_self)
    have a2 := hba.acked' p.f5
    have er : (popR A 0).row = r := by show A.row.eraseIdx 0 = r; rw [hr]; rfl
    have hlenr : A.row.length = r.length + 1 := by rw [hr]; rfl
    -- nothing is cut off
    have hlen : (tkP A.l p).length ≤ 400 - (r.length + B.row.length) := by
      have hg : (goP (tk2 A.l p)).length = min 8 (tk2 A.l p).q.length - (tk2 A.l p).out := by unfold goP outs; simp
      have hu : (goP (tk2 A.l p)).length ≤ uns A := by rw [hg, t2, t3, List.length_drop]; unfold uns; omega
      rw [hP]
      split
      · simp only [List.length_cons, List.length_nil]; omega
      · omega
    have eR : (dOut (popR A 0) B (tkP A.l p)).row = B.row ++ tkP A.l p := by
      show B.row ++ pushR (popR A 0) B (tkP A.l p) = _
      unfold pushR
      rw [er, List.take_of_length_le hlen]
    have hlast : ∀ q ∈ tkP A.l p, q.f5 = (tk2 A.l p).want - 1 := by
      intro q hq
      rcases tkP_ok hE hq with hq | rfl
      · exact outs_ack hq
      · rfl
    have hgl : ∀ (x : Pk), B.row.getLast? = some x → x.f5 = (tk2 A.l p).want - 1 → ∃ y, (B.row ++ tkP A.l p).getLast? = some y ∧ y.f5 = (tk2 A.l p).want - 1 := by
      intro x hx h5
      by_cases hn : tkP A.l p = []
      · rw [hn, List.append_nil]; exact ⟨x, hx, h5⟩
      · obtain ⟨y, hy⟩ : ∃ y, (tkP A.l p).getLast? = some y := ⟨_, List.getLast?_eq_some_getLast hn⟩
        exact ⟨y, by rw [List.getLast?_append, hy]; rfl, hlast y (List.mem_of_getLast? hy)⟩
    have htk : ∀ k : Int, B.l.base ≤ k → k < B.l.base + B.l.out → k < A.l.want ∨ (∃ s, (k, s) ∈ A.l.er) ∨ p.f4 = k → k < (tk2 A.l p).want ∨ ∃ s, (k, s) ∈ (tk2 A.l p).er := by
      intro k h1 h2 h3
      by_cases h4 : p.f4 = 0
      · rw [(tk2_want p h4).1, (tk2_want p h4).2]
        rcases h3 with h3 | h3 | h3
        · exact .inl h3
        · exact .inr h3
        · have := hba.base1; omega
      · obtain ⟨d, hd1, hd2, hd3, hd4⟩ := a2.comes { hpk with } h4
        have e2 : tk2 A.l p = cameL (ack A.l p.f5) p.f4 p.f6 := if_neg h4
        rw [e2]
        have hw2 : (cameL (ack A.l p.f5) p.f4 p.f6).want = f + (v + d : Nat) := hd2.want
        have hw1 := hba.want
        rcases h3 with h3 | ⟨s, h3⟩ | h3
        · exact .inl (by omega)
        · rcases hd4 _ h3 with h5 | h5
          · exact .inl (by simp only at h5; omega)
          · exact .inr ⟨s, h5⟩
        · obtain ⟨j, hj⟩ : ∃ j : Nat, k = f + j := ⟨(k - f).toNat, by have := hba.base; omega⟩
          have hb := hba.base
          have ho := hba.out8
          have hbw := hba.bw
          rcases hd3 j (h3.trans hj) (by omega) with h5 | h5
          · exact .inl (by omega)
          · rw [← hj] at h5
            exact .inr h5
    refine ⟨hI, ⟨?_, ?_⟩, ⟨?_, ?_⟩, ?_⟩
    · -- from A to B: each number is somewhere
      show ∀ k : Int, (tkL A.l p).base ≤ k → k < (tkL A.l p).base + (tkL A.l p).out → k < B.l.want ∨ (∃ s, (k, s) ∈ B.l.er) ∨ ∃ q ∈ (dOut (popR A 0) B (tkP A.l p)).row, q.f4 = k
      rw [eL, eR]
      show ∀ k : Int, (tk2 A.l p).base ≤ k → k < (tk2 A.l p).base + (max (tk2 A.l p).out (min 8 (tk2 A.l p).q.length) : Nat) → _
      intro k h1 h2
      by_cases hk : k < A.l.base + A.l.out
      · rcases h.ab.l1 k (by omega) hk with h3 | h3 | ⟨q, h3, h5⟩
        · exact .inl h3
        · exact .inr (.inl h3)
        · exact .inr (.inr ⟨q, List.mem_append_left _ h3, h5⟩)
      · obtain ⟨i, hi⟩ : ∃ i : Nat, k = (tk2 A.l p).base + i := ⟨(k - (tk2 A.l p).base).toNat, by omega⟩
        have hm : nth (tk2 A.l p) i ∈ goP (tk2 A.l p) := List.mem_map.2 ⟨i, by rw [List.mem_range'_1]; omega, rfl⟩
        refine .inr (.inr ⟨nth (tk2 A.l p) i, List.mem_append_right _ ?_, hi.symm⟩)
        rw [hP, if_neg (fun e => by rw [e.2] at hm; cases hm)]
        exact hm
    · -- from A to B: an acknowledgment is under way
      show (tkL A.l p).base < B.l.want → (∃ q ∈ (dOut (popR A 0) B (tkP A.l p)).row, q.f4 ≠ 0) ∨ ∃ q, (popR A 0).row.getLast? = some q ∧ q.f5 = B.l.want - 1
      rw [eL, eR, er]
      show (tk2 A.l p).base < B.l.want → _
      intro h1
      rcases h.ab.l2 (by omega) with ⟨q, h3, h5⟩ | ⟨q, h3, h5⟩
      · exact .inl ⟨q, List.mem_append_left _ h3, h5⟩
      · refine .inr ⟨q, ?_, h5⟩
        rw [hr] at h3
        cases r with
        | cons y r' => rw [List.getLast?_cons_cons] at h3; exact h3
        | nil =>
          exfalso
          have hq : p = q := by simpa using h3
          subst hq
          have hwo := hab.wo
          have hb1 := hab.base
          have hw1 := hab.want
          have hk : ackN A.l p.f5 = (p.f5 - A.l.base + 1).toNat := if_neg (by omega)
          omega
    · -- from B to A: each number is somewhere
      show ∀ k : Int, B.l.base ≤ k → k < B.l.base + B.l.out → k < (tkL A.l p).want ∨ (∃ s, (k, s) ∈ (tkL A.l p).er) ∨ ∃ q ∈ (popR A 0).row, q.f4 = k
      rw [eL, er]
      show ∀ k : Int, B.l.base ≤ k → k < B.l.base + B.l.out → k < (tk2 A.l p).want ∨ (∃ s, (k, s) ∈ (tk2 A.l p).er) ∨ _
      intro k h1 h2
      have key : (k < A.l.want ∨ (∃ s, (k, s) ∈ A.l.er) ∨ p.f4 = k) ∨ ∃ q ∈ r, q.f4 = k := by
        rcases h.ba.l1 k h1 h2 with h3 | h3 | ⟨q, h3, h5⟩
        · exact .inl (.inl h3)
        · exact .inl (.inr (.inl h3))
        · rw [hr] at h3
          rcases List.mem_cons.1 h3 with rfl | h3
          · exact .inl (.inr (.inr h5))
          · exact .inr ⟨q, h3, h5⟩
      rcases key with key | key
      · rcases htk k h1 h2 key with h3 | h3
        · exact .inl h3
        · exact .inr (.inl h3)
      · exact .inr (.inr key)
    · -- from B to A: an acknowledgment is under way
      show B.l.base < (tkL A.l p).want → (∃ q ∈ (popR A 0).row, q.f4 ≠ 0) ∨ ∃ q, (dOut (popR A 0) B (tkP A.l p)).row.getLast? = some q ∧ q.f5 = (tkL A.l p).want - 1
      rw [eL, eR, er]
      show B.l.base < (tk2 A.l p).want → (∃ q ∈ r, q.f4 ≠ 0) ∨ ∃ q, (B.row ++ tkP A.l p).getLast? = some q ∧ q.f5 = (tk2 A.l p).want - 1
      intro h1
      by_cases h4 : p.f4 = 0
      · rw [(tk2_want p h4).1] at h1
        rcases h.ba.l2 h1 with ⟨q, h3, h5⟩ | ⟨q, h3, h5⟩
        · rw [hr] at h3
          rcases List.mem_cons.1 h3 with rfl | h3
          · exact absurd h4 h5
          · exact .inl ⟨q, h3, h5⟩
        · exact .inr (hgl q h3 (by rw [(tk2_want p h4).1]; exact h5))
      · have hn : tkP A.l p ≠ [] := by
          rw [hP]
          split
          · exact List.cons_ne_nil _ _
          · rename_i hg
            exact fun e => hg ⟨h4, e⟩
        obtain ⟨y, hy⟩ : ∃ y, (tkP A.l p).getLast? = some y := ⟨_, List.getLast?_eq_some_getLast hn⟩
        exact .inr ⟨y, by rw [List.getLast?_append, hy]; rfl, hlast y (List.mem_of_getLast? hy)⟩
    · show (tkS (popR A 0) p).row.length + (dOut (popR A 0) B (tkP A.l p)).row.length + (uns (tkS (popR A 0) p) + uns (dOut (popR A 0) B (tkP A.l p))) ≤ 400
      have b1 := dat_akn A.row
      have b2 := dat_akn B.row
      have b3 := dat_akn (tkS (popR A 0) p).row
      have b4 := dat_akn (dOut (popR A 0) B (tkP A.l p)).row
      dsimp only at hs
      unfold Step1 at hs
      rcases hs with h1 | ⟨h1, h1', ⟨k, h1''⟩ | h1''⟩ | ⟨h1, h1', h1'', k, h1'''⟩ <;> omega
/-- When all rows are empty, all came. -/
theorem LInv.ends {f : Int} {A B : Sd} (h : LInv f A B) (ha : A.row = []) (hb : B.row = []) : A.l.q = [] ∧ B.got = A.sent ∧ B.l.want = f + A.sent.length := by
  obtain ⟨b, w, hab⟩ := h.inv.ab
  have h1 := hab.base
  have h2 := hab.want
  have hbw := hab.bw
  have e : b = w := by
    rcases Nat.lt_or_ge b w with hlt | hge
    · rcases h.ab.l2 (by omega) with ⟨q, h3, _⟩ | ⟨q, h3, _⟩
      · rw [hb] at h3; cases h3
      · rw [ha] at h3; cases h3
    · omega
  subst e
  have ho : A.l.out = 0 := by
    rcases Nat.eq_zero_or_pos A.l.out with e | e
    · exact e
    · exfalso
      rcases h.ab.l1 A.l.base (Int.le_refl _) (by omega) with h3 | ⟨s, h3⟩ | ⟨q, h3, _⟩
      · omega
      · obtain ⟨k, k1, k2, _⟩ := hab.er _ h3
        simp only at k1
        omega
      · rw [hb] at h3; cases h3
  have hq : A.l.q = [] := by
    have := h.inv.fa
    apply List.eq_nil_of_length_eq_zero
    omega
  have hl := hab.qlen
  rw [hq] at hl
  have hl' : b = A.sent.length := by simpa using hl
  exact ⟨hq, by rw [hab.got, hl', List.take_length], by rw [h2, hl']⟩
/-- Both ends tick while no packet is under way. -/
theorem LInv.ticks {f : Int} {A B : Sd} (h : Inv f A B) (ha : A.row = []) (hb : B.row = []) (hu : uns A + uns B ≤ 300) (A' B' : Sd) (hB : B' = dOut A B (outs A.l 0 A.l.out)) (hA : A' = dOut B' A (outs B.l 0 B.l.out)) : LInv f A' B' ∧ A'.row.length + B'.row.length ≤ 16 := by
  have k1 := h.tick
  rw [← hB] at k1
  have k2 := k1.swap.tick
  have eBl : B'.l = B.l := by rw [hB]; rfl
  rw [eBl, ← hA] at k2
  obtain ⟨b, w, hab⟩ := h.ab
  obtain ⟨c, v, hba⟩ := h.ba
  have h8a := hab.out8
  have h8b := hba.out8
  have l1 : (outs A.l 0 A.l.out).length = A.l.out := by unfold outs; simp
  have l2 : (outs B.l 0 B.l.out).length = B.l.out := by unfold outs; simp
  have rB : B'.row = outs A.l 0 A.l.out := by
    rw [hB]; show B.row ++ pushR A B _ = _
    unfold pushR
    rw [ha, hb, List.nil_append, List.take_of_length_le (by simp only [List.length_nil]; omega)]
  have rA : A'.row = outs B.l 0 B.l.out := by
    rw [hA]; show A.row ++ pushR B' A _ = _
    unfold pushR
    rw [ha, rB, List.nil_append, List.take_of_length_le (by simp only [List.length_nil]; omega)]
  have eAl : A'.l = A.l := by rw [hA]; rfl
  have one : ∀ (S R S' R' : Sd), (∃ b w, Half f b w S R) → S'.l = S.l → R'.l = R.l → R'.row = outs S.l 0 S.l.out → Liv S' R' := by
    intro S R S' R' hh e1 e2 e3
    obtain ⟨b, w, hh⟩ := hh
    have h1 := hh.base
    have h2 := hh.want
    have h3 := hh.wo
    have hb1 := hh.base1
    refine ⟨fun k g1 g2 => .inr (.inr ?_), fun g => .inl ?_⟩
    · rw [e1] at g1 g2
      rw [e3]
      obtain ⟨i, hi⟩ : ∃ i : Nat, k = S.l.base + i := ⟨(k - S.l.base).toNat, by omega⟩
      exact ⟨nth S.l i, List.mem_map.2 ⟨i, by rw [List.mem_range'_1]; omega, rfl⟩, hi.symm⟩
    · rw [e1, e2] at g
      rw [e3]
      exact ⟨nth S.l 0, List.mem_map.2 ⟨0, by rw [List.mem_range'_1]; omega, rfl⟩, by show S.l.base + ((0 : Nat) : Int) ≠ 0; omega⟩
  refine ⟨⟨k2.swap, one A B A' B' h.ab eAl eBl rB, one B A B' A' h.ba eBl eAl rA, ?_⟩, ?_⟩
  · have u1 : uns A' = uns A := by unfold uns; rw [eAl]
    have u2 : uns B' = uns B := by unfold uns; rw [eBl]
    rw [rA, rB, u1, u2, l1, l2]; omega
  · rw [rA, rB, l1, l2]; omega
end Go.Proofs.Ytdibaeomepallaa.LK
