/- The document's link: Take. By hand. -/
import Derived.Test.YtdibaeomepallaaMc
import Derived.Deep.CutRange
namespace Go.Proofs.Ytdibaeomepallaa.LK
open Go.RowKit Go.Proofs.YtdibaeomepallaaW.PrintWords Go.Proofs.YtdibaeomepallaaW.PrintLast Go.Proofs.YtdibaeomepallaaW.PrintMore Go.Proofs.Ytdibaeomepallaa.PAll Go.Proofs.Ytdibaeomepallaa.NW
set_option linter.unusedVariables false
set_option linter.unusedSimpArgs false
set_option maxRecDepth 100000
/-! ### the document's Take -/
theorem info58s : (Try.prog.info? 58).map (·.size) = some 7 := by kernel_rfl
theorem info142p : (Try.prog.info? 142).map (fun i => (i.zero, i.size, i.bytes)) = some (some (.agg #[.int .i64 0, .string ⟨#[]⟩]), k142.sz, 24) := by kernel_rfl
theorem k142_types {t : Nat} (ht : 142 ≠ t) : ∀ q, q ∈ (142 : Nat) :: k142.E → q ≠ t := by
  intro q hq
  have : q = 142 := by simpa [k142, Kd.iso, Kd.pair, Kd.int, Kd.string, Kd.scalar] using hq
  subst this
  exact ht
/-- The boxes of Take: the link (g1), the packet (g2), the answer (g3). -/
structure TB (w w' : World) (g1 g2 g3 : Nat) (l : Lk) (vq ve : Value) (p : Pk) : Prop where
  h1 : w'.heap[g1]? = some (.cells #[.int .i64 l.x.f0, .int .i64 l.x.f1, .int .i64 l.x.f2, .int .i64 l.x.f3, .int .i64 l.x.f4, vq, .int .i64 l.base, .int .i64 l.out, .int .i64 l.want, ve] 81 (0, 0))
  h2 : w'.heap[g2]? = some (.cells #[.int .i64 p.f0, .int .i64 p.f1, .int .i64 p.f2, .int .i64 p.f3, .int .i64 p.f4, .int .i64 p.f5, .string p.f6] 58 (0, 0))
  h3 : w'.heap[g3]? = some (.cells #[.int .i64 0, .int .i64 0, .int .i64 0, .int .i64 0, .int .i64 0, .slice none 0 0, .int .i64 0, .int .i64 0, .int .i64 0, .slice none 0 0, .slice none 0 0, .slice none 0 0, .int .i64 0] 87 (0, 0))
  n12 : g1 < g2
  n23 : g2 < g3
  low : w.heap.size ≤ g1
  below : Below w.heap.size w w'
section
variable {w w' W : World} {g1 g2 g3 : Nat} {l l' : Lk} {vq ve vq' ve' : Value} {p : Pk}
theorem TB.bel (h : TB w w' g1 g2 g3 l vq ve p) (hb : Below w'.heap.size w' W) : TB w W g1 g2 g3 l vq ve p :=
  ⟨keepB h.h1 hb, keepB h.h2 hb, keepB h.h3 hb, h.n12, h.n23, h.low, h.below.trans (hb.mono h.below.size)⟩
theorem TB.grown (h : TB w w' g1 g2 g3 l vq ve p) {row : Option Nat} (hg : w'.grownBy W row) (hr : ∀ k, row = some k → g3 < k) : TB w W g1 g2 g3 l vq ve p := by
  have keep : ∀ k, k ≤ g3 → k < w'.heap.size → W.heap[k]? = w'.heap[k]? := fun k hk hlt => hg.block k hlt (fun e => by have := hr k e.symm; omega)
  have n12 := h.n12
  have n23 := h.n23
  have low := h.low
  refine ⟨(keep _ (by omega) (blk_lt h.h1)).trans h.h1, (keep _ (by omega) (blk_lt h.h2)).trans h.h2, (keep _ (by omega) (blk_lt h.h3)).trans h.h3, h.n12, h.n23, h.low, ?_⟩
  have hm := (Mods.of_below h.below (F := fun _ => False)).grown hg (fun k hk => .inr (by have := hr k hk; omega))
  exact hm.below (Nat.le_refl _) (fun k hk => hk.elim)
/-- A field of the link is turned. -/
theorem TB.set (h : TB w w' g1 g2 g3 l vq ve p) (j : Nat) (u : Value) (e : (#[.int .i64 l.x.f0, .int .i64 l.x.f1, .int .i64 l.x.f2, .int .i64 l.x.f3, .int .i64 l.x.f4, vq, .int .i64 l.base, .int .i64 l.out, .int .i64 l.want, ve] : Array Value).setIfInBounds j u = #[.int .i64 l'.x.f0, .int .i64 l'.x.f1, .int .i64 l'.x.f2, .int .i64 l'.x.f3, .int .i64 l'.x.f4, vq', .int .i64 l'.base, .int .i64 l'.out, .int .i64 l'.want, ve']) : TB w (w'.setCell ⟨g1, j, none⟩ u) g1 g2 g3 l' vq' ve' p := by
  have n12 := h.n12
  have n23 := h.n23
  refine ⟨?_, blk_far h.h2 (p := ⟨g1, j, none⟩) (show g2 ≠ g1 by omega) _, blk_far h.h3 (p := ⟨g1, j, none⟩) (show g3 ≠ g1 by omega) _, h.n12, h.n23, h.low, below_cell h.below h.low _⟩
  rw [← e]
  exact blk_set h.h1 j u
end
def Take13 (w : World) (P : Nat → Prop) (l : Lk) (p : Pk) (e : Ending) (w' : World) : Prop :=
  ∃ vq ve t o, e = .returned (.agg #[.int .i64 (tkL l p).x.f0, .int .i64 (tkL l p).x.f1, .int .i64 (tkL l p).x.f2, .int .i64 (tkL l p).x.f3, .int .i64 (tkL l p).x.f4, vq, .int .i64 (tkL l p).base, .int .i64 (tkL l p).out, .int .i64 (tkL l p).want, ve, t, o, .int .i64 (tkE l p)]) ∧ RW Kd.string w' (fun k => P k ∨ w.heap.size ≤ k) vq (tkL l p).q ∧ RW k142 w' (fun k => P k ∨ w.heap.size ≤ k) ve (erS (tkL l p).er) ∧ Kd.string.R 9 w' w.heap.size (fun _ => True) t (tkT l p) ∧ k58.R 58 w' w.heap.size (fun _ => True) o ((tkP l p).map to58) ∧ Below w.heap.size w w'
theorem take13_no {w w' : World} {P : Nat → Prop} {l : Lk} {vq ve : Value} {p : Pk} {n : Int} (hq : RW Kd.string w P vq l.q) (he : RW k142 w P ve (erS l.er)) (hb : Below w.heap.size w w') (hn : tkE l p = n) (h0 : n ≠ 0) : Take13 w P l p (.returned (.agg #[.int .i64 l.x.f0, .int .i64 l.x.f1, .int .i64 l.x.f2, .int .i64 l.x.f3, .int .i64 l.x.f4, vq, .int .i64 l.base, .int .i64 l.out, .int .i64 l.want, ve, .slice none 0 0, .slice none 0 0, .int .i64 n])) w' := by
  subst hn
  have e1 : tkL l p = l := if_neg h0
  have e2 : tkP l p = [] := if_neg h0
  have e3 : tkT l p = [] := if_neg (fun e => h0 e.1)
  refine ⟨vq, ve, .slice none 0 0, .slice none 0 0, by rw [e1], ?_, ?_, ?_, ?_, hb⟩
  · rw [e1]; exact (hq.below hb).mono (fun k hk => .inl hk)
  · rw [e1]; exact (he.below hb).mono (fun k hk => .inl hk)
  · rw [e3]; exact Kd.R_nil _ _ _ _ _
  · rw [e2]; exact Kd.R_nil _ _ _ _ _
/-- A beginning is cut off. -/
theorem RW.drop {w : World} {P : Nat → Prop} {A A' : Option Addr} {c : Nat} {q : List ByteArray} {n : Nat} (hq : RW Kd.string w P (.slice A q.length c) q) (hr : ∀ W : World, ReadsOf Value.string emp W A q.length q → ReadsOf Value.string emp W A' (q.drop n).length (q.drop n)) (hc : (q.drop n).length ≤ c - n) : RW Kd.string w P (.slice A' (q.drop n).length (c - n)) (q.drop n) := by
  obtain ⟨B, c2, e, hc2, hF⟩ := hq
  injection e with e1 e2 e3
  subst e1
  exact ⟨A', c - n, rfl, hc, fun W hW => Kd.C_of_reads (hr W (Kd.reads_of_C (d := emp) (hF W hW)))⟩
/-- Does a packet bring something new? -/
def isNew (l : Lk) (p : Pk) : Prop := l.want ≤ p.f4 ∧ p.f4 - l.want < 8 ∧ fnd l.er p.f4 = none
theorem old_same {l l1 : Lk} {p : Pk} (h1 : ack l p.f5 = l1) (hi : Idle l1.want l1.er) (hn : ¬ isNew l1 p) : tk2 l p = l1 ∧ (p.f4 ≠ 0 → cameT l1 p.f4 p.f6 = []) := by
  have key : cameR l1 p.f4 p.f6 = (0, l1.er, []) := by
    by_cases a : p.f4 < l1.want ∨ 8 ≤ p.f4 - l1.want
    · exact if_pos a
    · cases hf : fnd l1.er p.f4 with
      | some t => exact came_known hi hf _
      | none => exact absurd ⟨by omega, by omega, hf⟩ hn
  have e : cameL l1 p.f4 p.f6 = l1 := by
    unfold cameL
    rw [key]
    show { l1 with want := l1.want + ((0 : Nat) : Int), er := l1.er } = l1
    rw [show l1.want + ((0 : Nat) : Int) = l1.want by omega]
  refine ⟨?_, fun _ => by unfold cameT; rw [key]⟩
  unfold tk2
  rw [h1, e]
  split <;> rfl
theorem new_ends {l l1 : Lk} {p : Pk} (h1 : ack l p.f5 = l1) (hw : 1 ≤ l1.want) (hn : isNew l1 p) : p.f4 ≠ 0 ∧ put l1.er p.f4 p.f6 = l1.er ++ [(p.f4, p.f6)] ∧ cameR l1 p.f4 p.f6 = hand ((l1.er ++ [(p.f4, p.f6)]).length + 1) l1.want (l1.er ++ [(p.f4, p.f6)]) := by
  have hp := put_new hn.2.2 p.f6
  refine ⟨by have := hn.1; omega, hp, ?_⟩
  unfold cameR
  rw [if_neg (by have := hn.1; have := hn.2.1; omega), hp]
theorem hand_next {n : Nat} {w : Int} {er : List (Int × ByteArray)} {s : ByteArray} (h : fnd er w = some s) (hw : w < 1099511627775) : hand (n + 1) w er = ((hand n (w + 1) (del er w)).1 + 1, (hand n (w + 1) (del er w)).2.1, s :: (hand n (w + 1) (del er w)).2.2) := by
  show (match fnd er w with | none => _ | some s => _) = _
  rw [h]
  show (if _ then _ else _) = _
  rw [if_neg (by omega)]
/-- What the loop over the early texts holds. -/
def Hd (N : Nat) (w0 : Int) (er0 : List (Int × ByteArray)) (kq d : Nat) (er : List (Int × ByteArray)) (acc : List ByteArray) : Prop :=
  hand N w0 er0 = (d + (hand kq (w0 + d) er).1, (hand kq (w0 + d) er).2.1, acc ++ (hand kq (w0 + d) er).2.2) ∧ Keys er ∧ er.length < kq
theorem Hd.stop {N kq d : Nat} {w0 : Int} {er0 er : List (Int × ByteArray)} {acc : List ByteArray} (h : Hd N w0 er0 kq d er acc) (hi : Idle (w0 + d) er) : hand N w0 er0 = (d, er, acc) := by
  have e := h.1
  rw [hand_idle hi] at e
  rw [e]
  simp
theorem Hd.next {N k d : Nat} {w0 : Int} {er0 er : List (Int × ByteArray)} {acc : List ByteArray} {s : ByteArray} (h : Hd N w0 er0 (k + 1) d er acc) (hf : fnd er (w0 + d) = some s) (hw : w0 + d < 1099511627775) : Hd N w0 er0 k (d + 1) (del er (w0 + d)) (acc ++ [s]) := by
  refine ⟨?_, keys_del h.2.1 _, by have := del_len hf; have := h.2.2; omega⟩
  have e := h.1
  rw [hand_next hf hw] at e
  rw [e]
  have e2 : w0 + ((d + 1 : Nat) : Int) = w0 + d + 1 := by omega
  rw [e2]
  simp only [List.append_assoc, List.singleton_append, Prod.mk.injEq, and_true]
  omega
theorem has_is {w : World} {A : Option Addr} {c : Nat} {er : List (Int × ByteArray)} (h : k142.C w A er.length (erS er)) (hc : er.length ≤ c) (hl : er.length ≤ 1000000) (k : Int) :
    Calls Try.prog 80 #[.slice A er.length c, .int .i64 k] w fun e w' => e = .returned (.int .i64 (hasA k er 0)) ∧ Below w.heap.size w w' := by
  have h2 := caduceusref13_has.calls 1000001 A c (erS er) k _ w (by rw [erS_len]; exact h) (by rw [erS_len]; exact hc) (has_f er k hl)
  rw [erS_len] at h2
  exact h2.mono (fun e w' h => ⟨h.1, h.2.below⟩)
theorem without_is {w : World} {A : Option Addr} {c : Nat} {er : List (Int × ByteArray)} (h : k142.C w A er.length (erS er)) (hc : er.length ≤ c) (hl : er.length ≤ 1000000) (t : Int) :
    Calls Try.prog 81 #[.slice A er.length c, .int .i64 t] w fun e w' => ∃ v, e = .returned v ∧ k142.R 142 w' w.heap.size (fun _ => True) v (erS (woA t er 0)) ∧ Below w.heap.size w w' := by
  have h2 := caduceusref13_without.calls 1000001 A c (erS er) t _ w (by rw [erS_len]; exact h) (by rw [erS_len]; exact hc) (without_f er t hl)
  rw [erS_len] at h2
  exact h2
theorem R_apart {w w1 : World} {base base' : Nat} {ok ok' : Nat → Prop} {v u : Value} {xs : List S142} {ys : List ByteArray} (h : k142.R 142 w base ok v xs) (h' : Kd.string.R 9 w base' ok' u ys) (hg : w.grownBy w1 u.ownBlock) : k142.R 142 w1 base ok v xs := by
  have h2 : k142.R 142 w base (fun k => ok k ∧ some k ≠ u.ownBlock) v xs := Kd.R_mono (Kd.R_bound h) (fun k hk => ⟨hk.1, fun e => by
    obtain ⟨_, _, _, q, hq, cells, hc⟩ := hk
    obtain ⟨_, _, _, q', hq', cells', hc'⟩ := (Kd.R_bound h').1 k e.symm
    rw [hc] at hc'
    injection hc' with hc'
    injection hc' with _ hc2 _
    have a : q = 142 := by simpa [k142, Kd.iso, Kd.pair, Kd.int, Kd.string, Kd.scalar] using hq
    have b : q' = 9 := by simpa [Kd.string, Kd.scalar] using hq'
    rw [a, b] at hc2
    exact absurd hc2 (by decide)⟩)
  exact Kd.R_mono (Kd.R_step h2 (fun k hk hlt => hg.block k hlt hk.2)) (fun k hk => hk.1)
theorem hand_all : ∀ (n : Nat) (w : Int) (er : List (Int × ByteArray)), (hand n w er).2.2.length ≤ er.length
  | 0, _, _ => Nat.zero_le _
  | n + 1, w, er => by
    unfold hand
    cases hf : fnd er w with
    | none => exact Nat.zero_le _
    | some s =>
      show (if _ then _ else _ : Nat × List (Int × ByteArray) × List ByteArray).2.2.length ≤ _
      split
      · exact Nat.zero_le _
      · have := hand_all n (w + 1) (del er w)
        have := del_len hf
        show _ + 1 ≤ _
        omega
theorem take_new {l l1 l2 : Lk} {p : Pk} (h1 : ack l p.f5 = l1) (h2 : tk2 l p = l2) (hE : tkE l p = 0) (hw : 1 ≤ l1.want) (hn : isNew l1 p) {d : Nat} {er : List (Int × ByteArray)} {acc : List ByteArray} (hh : hand ((l1.er ++ [(p.f4, p.f6)]).length + 1) l1.want (l1.er ++ [(p.f4, p.f6)]) = (d, er, acc)) :
    { l1 with want := l1.want + d, er := er } = l2 ∧ tkT l p = acc := by
  obtain ⟨a, b, c⟩ := new_ends h1 hw hn
  rw [hh] at c
  refine ⟨?_, ?_⟩
  · rw [← h2]
    unfold tk2
    rw [if_neg a, h1]
    unfold cameL
    rw [c]
  · unfold tkT
    rw [if_pos ⟨hE, a⟩, h1]
    unfold cameT
    rw [c]
theorem take_old {l l1 l2 : Lk} {p : Pk} (h1 : ack l p.f5 = l1) (h2 : tk2 l p = l2) (hi : Idle l1.want l1.er) (hn : ¬ isNew l1 p) : l1 = l2 ∧ tkT l p = [] := by
  obtain ⟨a, b⟩ := old_same h1 hi hn
  refine ⟨by rw [← h2, a], ?_⟩
  unfold tkT
  split
  · rename_i h
    rw [h1]
    exact b h.2
  · rfl
theorem tk2_q {l l1 l2 : Lk} {p : Pk} (h1 : ack l p.f5 = l1) (h2 : tk2 l p = l2) : l1.q = l2.q := by
  rw [← h2]
  unfold tk2
  rw [h1]
  split <;> rfl
theorem take13_end {w W2 Wc X : World} {P : Nat → Prop} {g1 g2 g3 : Nat} {l l2 : Lk} {vq ve t o : Value} {p : Pk} {os : List S58} (hE : tkE l p = 0) (h2 : tk2 l p = l2) (hT : TB w Wc g1 g2 g3 l2 vq ve p) (hq : RW Kd.string w P vq l2.q) (he : RW k142 Wc (fun k => (P k ∧ k < w.heap.size) ∨ W2.heap.size ≤ k) ve (erS l2.er)) (ht : Kd.string.R 9 Wc W2.heap.size (fun _ => True) t (tkT l p)) (hg : g3 < W2.heap.size) (hX : Below Wc.heap.size Wc X)
    (ho : k58.R 58 X w.heap.size (fun _ => True) o os) (hos : os = (tkP l p).map to58) (cs : Array Value) : Take13 w P l p (.returned (.agg #[.int .i64 (goL l2).x.f0, .int .i64 (goL l2).x.f1, .int .i64 (goL l2).x.f2, .int .i64 (goL l2).x.f3, .int .i64 (goL l2).x.f4, vq, .int .i64 (goL l2).base, .int .i64 (goL l2).out, .int .i64 (goL l2).want, ve, t, o, .int .i64 0])) (X.setRow g3 cs) := by
  have n12 := hT.n12
  have n23 := hT.n23
  have low := hT.low
  have e1 : tkL l p = goL l2 := by unfold tkL; rw [if_pos hE, h2]
  have h3 := keepB hT.h3 hX
  have hBX := hT.below.trans (hX.mono hT.below.size)
  have keep : ∀ k, k ≠ g3 → k < Wc.heap.size → (X.setRow g3 cs).heap[k]? = Wc.heap[k]? := fun k hk hlt => (setRow_other X g3 k cs hk).trans (hX.block k hlt)
  have hBf := below_setRow hBX (show w.heap.size ≤ g3 by omega) cs
  refine ⟨vq, ve, t, o, by rw [e1, hE], ?_, ?_, ?_, ?_, hBf⟩
  · rw [e1]
    exact (hq.below hBf).mono (fun k hk => .inl hk)
  · rw [e1]
    refine (he.step (fun k hk hlt => keep k ?_ hlt)).mono (fun k hk => ?_)
    · rcases hk with hk | hk
      · have := hk.2; omega
      · omega
    · rcases hk with hk | hk
      · exact .inl hk.1
      · exact .inr (by omega)
  · have h1 : Kd.string.R 9 Wc W2.heap.size (fun k => W2.heap.size ≤ k) t (tkT l p) := Kd.R_mono (Kd.R_bound ht) (fun k hk => hk.2.1)
    exact Kd.R_lower (Kd.R_mono (Kd.R_step h1 (fun k hk hlt => keep k (by omega) hlt)) (fun _ _ => trivial)) (by omega)
  · rw [← hos]
    exact R_setRow ho h3 (k58_types (by decide)) cs
end Go.Proofs.Ytdibaeomepallaa.LK
