/- The document's link, in plain words: its helpers, evaluated. By hand. -/
import Derived.Test.YtdibaeomepallaaLq
import Derived.Test.YtdibaeomepallaaPAlly9
import Derived.Test.YtdibaeomepallaaPAllx10
namespace Go.Proofs.Ytdibaeomepallaa.LK
open Go.RowKit Go.Proofs.YtdibaeomepallaaW.PrintWords Go.Proofs.YtdibaeomepallaaW.PrintLast Go.Proofs.YtdibaeomepallaaW.PrintMore Go.Proofs.Ytdibaeomepallaa.PAll Go.Proofs.Ytdibaeomepallaa.NW
set_option linter.unusedVariables false
set_option linter.unusedSimpArgs false
set_option maxRecDepth 100000
/-! ### the document's link: plain -/
def to58 (p : Pk) : S58 := ⟨p.f0, p.f1, p.f2, p.f3, p.f4, p.f5, p.f6⟩
def erS (er : List (Int × ByteArray)) : List S142 := er.map (fun e => ⟨e.1, e.2⟩)
theorem erS_len (er : List (Int × ByteArray)) : (erS er).length = er.length := List.length_map _
theorem erS_append (a b : List (Int × ByteArray)) : erS (a ++ b) = erS a ++ erS b := List.map_append
theorem rd142_at {er : List (Int × ByteArray)} {i : Nat} {e : Int × ByteArray} (h : er[i]? = some e) : rd_T142 (erS er) (i : Int) = ⟨e.1, e.2⟩ := by
  unfold rd_T142 erS
  rw [Int.toNat_natCast, List.getD_eq_getElem?_getD, List.getElem?_map, h]
  rfl
def hasA (k : Int) : List (Int × ByteArray) → Nat → Int
  | [], _ => -1
  | e :: r, i => if e.1 = k then (i : Int) else hasA k r (i + 1)
def woA (t : Int) : List (Int × ByteArray) → Nat → List (Int × ByteArray)
  | [], _ => []
  | e :: r, i => if (i : Int) = t then woA t r (i + 1) else e :: woA t r (i + 1)
theorem has_l (er : List (Int × ByteArray)) (key : Int) (hl : er.length ≤ 1000000) : ∀ (n i k : Nat), i + n = er.length → n < k → caduceusref13_has.l0 k (erS er) key i = some (hasA key (er.drop i) i) := by
  intro n
  induction n with
  | zero =>
    intro i k h hk
    cases k with
    | zero => omega
    | succ k =>
      unfold caduceusref13_has.l0
      rw [if_neg (by rw [erS_len]; omega), List.drop_of_length_le (by omega)]
      rfl
  | succ n ih =>
    intro i k h hk
    cases k with
    | zero => omega
    | succ k =>
      have hi : i < er.length := by omega
      unfold caduceusref13_has.l0
      rw [if_pos (by rw [erS_len]; omega), if_pos (by omega), rd142_at (List.getElem?_eq_getElem hi), List.drop_eq_getElem_cons hi]
      show (if (er[i]).1 = key then _ else _) = some (if (er[i]).1 = key then _ else _)
      by_cases e : (er[i]).1 = key
      · rw [if_pos e, if_pos e]
      · rw [if_neg e, if_neg e, wrapId (by omega) (by omega)]
        have := ih (i + 1) k (by omega) (by omega)
        rwa [Int.natCast_add] at this
theorem has_f (er : List (Int × ByteArray)) (key : Int) (hl : er.length ≤ 1000000) : caduceusref13_has.f 1000001 (erS er) key = some (hasA key er 0) := by
  unfold caduceusref13_has.f
  exact has_l er key hl er.length 0 _ (by omega) (by omega)
theorem without_l (er : List (Int × ByteArray)) (t : Int) (hl : er.length ≤ 1000000) : ∀ (n i k : Nat) (acc : List (Int × ByteArray)), i + n = er.length → n < k → acc.length ≤ i → caduceusref13_without.l0 k (erS er) t (erS acc) i = some (erS (acc ++ woA t (er.drop i) i)) := by
  intro n
  induction n with
  | zero =>
    intro i k acc h hk ha
    cases k with
    | zero => omega
    | succ k =>
      unfold caduceusref13_without.l0
      rw [if_neg (by rw [erS_len]; omega), List.drop_of_length_le (by omega)]
      show _ = some (erS (acc ++ []))
      rw [List.append_nil]
  | succ n ih =>
    intro i k acc h hk ha
    cases k with
    | zero => omega
    | succ k =>
      have hi : i < er.length := by omega
      unfold caduceusref13_without.l0
      rw [if_pos (by rw [erS_len]; omega), List.drop_eq_getElem_cons hi]
      show _ = some (erS (acc ++ (if (i : Int) = t then _ else _)))
      by_cases e : (i : Int) = t
      · rw [if_pos e, if_pos e, wrapId (by omega) (by omega)]
        have := ih (i + 1) k acc (by omega) (by omega) (by omega)
        rwa [Int.natCast_add] at this
      · rw [if_neg e, if_neg e, if_pos (by omega), if_pos (by rw [erS_len]; omega), rd142_at (List.getElem?_eq_getElem hi), wrapId (by omega) (by omega)]
        have := ih (i + 1) k (acc ++ [er[i]]) (by omega) (by omega) (by rw [List.length_append]; show _ + 1 ≤ _; omega)
        rw [Int.natCast_add, erS_append, List.append_assoc] at this
        exact this
theorem without_f (er : List (Int × ByteArray)) (t : Int) (hl : er.length ≤ 1000000) : caduceusref13_without.f 1000001 (erS er) t = some (erS (woA t er 0)) := by
  unfold caduceusref13_without.f
  exact without_l er t hl er.length 0 _ [] (by omega) (by omega) (Nat.le_refl _)
theorem woA_past (t : Int) : ∀ (r : List (Int × ByteArray)) (i : Nat), t < i → woA t r i = r
  | [], _, _ => rfl
  | e :: r, i, h => by
    unfold woA
    rw [if_neg (by omega), woA_past t r (i + 1) (by omega)]
theorem fnd_cons_pos {e : Int × ByteArray} {r : List (Int × ByteArray)} {k : Int} (h : e.1 = k) : fnd (e :: r) k = some e.2 := by
  unfold fnd
  rw [List.find?_cons_of_pos (by simpa using h)]
  rfl
theorem fnd_cons_neg {e : Int × ByteArray} {r : List (Int × ByteArray)} {k : Int} (h : ¬ e.1 = k) : fnd (e :: r) k = fnd r k := by
  unfold fnd
  rw [List.find?_cons_of_neg (by simpa using h)]
theorem find_both (k : Int) : ∀ (er : List (Int × ByteArray)) (i : Nat), (hasA k er i = -1 ∧ fnd er k = none) ∨ ∃ (j : Nat) (s : ByteArray), hasA k er i = ((i + j : Nat) : Int) ∧ er[j]? = some (k, s) ∧ fnd er k = some s ∧ (Keys er → woA ((i + j : Nat) : Int) er i = del er k)
  | [], _ => .inl ⟨rfl, rfl⟩
  | e :: r, i => by
    by_cases h : e.1 = k
    · refine .inr ⟨0, e.2, ?_, ?_, fnd_cons_pos h, fun hk => ?_⟩
      · show (if e.1 = k then _ else _) = _
        rw [if_pos h, Nat.add_zero]
      · show some e = some (k, e.2)
        rw [← h]
      · have hr := (List.pairwise_cons.1 hk).1
        have e1 : del (e :: r) k = r := by
          unfold del
          rw [List.filter_cons_of_neg (by simp [h])]
          refine List.filter_eq_self.2 (fun x hx => ?_)
          have := hr x hx
          rw [h] at this
          simpa using fun e => this e.symm
        rw [e1]
        unfold woA
        rw [if_pos (by omega), woA_past _ r (i + 1) (by omega)]
    · rcases find_both k r (i + 1) with ⟨a, b⟩ | ⟨j, s, a, b, c, d⟩
      · refine .inl ⟨?_, (fnd_cons_neg h).trans b⟩
        show (if e.1 = k then _ else _) = _
        rw [if_neg h, a]
      · refine .inr ⟨j + 1, s, ?_, b, (fnd_cons_neg h).trans c, fun hk => ?_⟩
        · show (if e.1 = k then _ else _) = _
          rw [if_neg h, a]
          congr 1
          omega
        · have hk2 : Keys r := (List.pairwise_cons.1 hk).2
          have e1 : del (e :: r) k = e :: del r k := by
            unfold del
            rw [List.filter_cons_of_pos (by simp [h])]
          rw [e1, ← d hk2]
          show (if (i : Int) = _ then _ else _) = _
          rw [if_neg (by omega)]
          congr 2
          omega
/-- What the document's 'has' says: below 0, there is none; else its place. -/
theorem has_none {er : List (Int × ByteArray)} {k : Int} (h : fnd er k = none) : hasA k er 0 = -1 := by
  rcases find_both k er 0 with ⟨a, _⟩ | ⟨j, s, _, _, c, _⟩
  · exact a
  · rw [h] at c; cases c
theorem has_some {er : List (Int × ByteArray)} {k : Int} {s : ByteArray} (h : fnd er k = some s) : ∃ j : Nat, hasA k er 0 = (j : Int) ∧ er[j]? = some (k, s) ∧ (Keys er → woA (j : Int) er 0 = del er k) := by
  rcases find_both k er 0 with ⟨_, b⟩ | ⟨j, t, a, b, c, d⟩
  · rw [h] at b; cases b
  · rw [h] at c
    cases c
    rw [Nat.zero_add] at a d
    exact ⟨j, a, b, d⟩
/-! the document's packets -/
theorem packet_f (l : Lk) (h1 : 0 ≤ l.want) (h2 : l.want ≤ 1099511627775) (seq : Int) (s : ByteArray) : caduceusref13_Link_packet.f l.x.f0 l.x.f1 l.x.f2 l.x.f3 l.x.f4 l.q l.base l.out l.want (erS l.er) seq s = some (l.x.f0, l.x.f2, l.x.f1, l.x.f3, seq, l.want - 1, s) := by
  unfold caduceusref13_Link_packet.f
  rw [wrapId (by omega) (by omega)]
theorem tick_l (l : Lk) (hb : Bd l) : ∀ (n i k : Nat), i + n = l.out → n < k → caduceusref13_Link_Tick.l0 k ((outs l 0 i).map to58) i l.x.f0 l.x.f1 l.x.f2 l.x.f3 l.x.f4 l.q l.base l.out l.want (erS l.er) = some ((outs l 0 l.out).map to58) := by
  have o8 := hb.o8
  have oq := hb.oq
  have b1 := hb.b1
  have b2 := hb.b2
  have w1 := hb.w1
  have w2 := hb.w2
  intro n
  induction n with
  | zero =>
    intro i k h hk
    cases k with
    | zero => omega
    | succ k =>
      unfold caduceusref13_Link_Tick.l0
      rw [if_neg (by omega), show i = l.out by omega]
  | succ n ih =>
    intro i k h hk
    cases k with
    | zero => omega
    | succ k =>
      unfold caduceusref13_Link_Tick.l0
      rw [if_pos (by omega), if_pos (by omega), if_pos (by omega), packet_f l (by omega) w2, Option.bind_some, if_pos (by rw [List.length_map, outs_len]; omega)]
      rw [wrapId (x := l.base + (i : Int)) (by omega) (by omega), wrapId (x := (i : Int) + 1) (by omega) (by omega)]
      have := ih (i + 1) k (by omega) (by omega)
      rw [Int.natCast_add, outs_succ, List.map_append, Nat.zero_add] at this
      have e : rdOf ByteArray.empty l.q (i : Int) = l.q.getD i e0 := by
        unfold rdOf
        rw [Int.toNat_natCast]
        rfl
      rw [e]
      exact this
theorem tick_f (l : Lk) (hb : Bd l) : caduceusref13_Link_Tick.f 1000001 l.x.f0 l.x.f1 l.x.f2 l.x.f3 l.x.f4 l.q l.base l.out l.want (erS l.er) = some ((outs l 0 l.out).map to58) := by
  unfold caduceusref13_Link_Tick.f
  have o8 := hb.o8
  exact tick_l l hb l.out 0 _ (by omega) (by omega)
theorem same58_l (l : List S58) (hl : l.length ≤ 1000000) : ∀ (n i k : Nat), i + n = l.length → n < k → caduceusref13_Same.l0 k l l i = some true := by
  intro n
  induction n with
  | zero =>
    intro i k h hk
    cases k with
    | zero => omega
    | succ k =>
      unfold caduceusref13_Same.l0
      rw [if_neg (by omega)]
  | succ n ih =>
    intro i k h hk
    cases k with
    | zero => omega
    | succ k =>
      unfold caduceusref13_Same.l0
      rw [if_pos (by omega), if_pos (by omega), if_pos (by omega), if_neg (by simp), wrapId (by omega) (by omega)]
      have := ih (i + 1) k (by omega) (by omega)
      rwa [Int.natCast_add] at this
theorem same58_f (l : List S58) (hl : l.length ≤ 1000000) : caduceusref13_Same.f 1000001 l l = some true := by
  unfold caduceusref13_Same.f
  rw [if_pos rfl]
  exact same58_l l hl l.length 0 _ (by omega) (by omega)
theorem new13_f (x : S65) : caduceusref13_New.f x.f0 x.f1 x.f2 x.f3 x.f4 = some (x.f0, x.f1, x.f2, x.f3, x.f4, [], x.f4, 0, x.f4, []) := rfl
theorem check13_is (p : Pk) : caduceusref11_CheckPacket.f p.f0 p.f1 p.f2 p.f3 p.f4 p.f5 p.f6 = some (okP p) := by
  rw [← check_is]
  rfl
/-! what a single end keeps -/
/-- Nothing is left to be handed on. -/
def Idle (w : Int) (er : List (Int × ByteArray)) : Prop := fnd er w = none ∨ 1099511627775 ≤ w
theorem hand_idle {w : Int} {er : List (Int × ByteArray)} (h : Idle w er) (n : Nat) : hand n w er = (0, er, []) := by
  cases n with
  | zero => rfl
  | succ n =>
    unfold hand
    rcases h with h | h
    · rw [h]
    · cases fnd er w with
      | none => rfl
      | some s => show (if _ then _ else _) = _; rw [if_pos h]
theorem hand_ends : ∀ (n : Nat) (w : Int) (er : List (Int × ByteArray)), er.length < n → Keys er → Idle (w + (hand n w er).1) (hand n w er).2.1 ∧ Keys (hand n w er).2.1
  | 0, _, _, h, _ => absurd h (by omega)
  | n + 1, w, er, h, hk => by
    unfold hand
    cases hf : fnd er w with
    | none => exact ⟨.inl (by show fnd er (w + ((0 : Nat) : Int)) = none; rw [show w + ((0 : Nat) : Int) = w by omega]; exact hf), hk⟩
    | some s =>
      by_cases hw : 1099511627775 ≤ w
      · show Idle (w + ((if _ then _ else _ : Nat × List (Int × ByteArray) × List ByteArray).1 : Nat)) (if _ then _ else _ : Nat × List (Int × ByteArray) × List ByteArray).2.1 ∧ Keys (if _ then _ else _ : Nat × List (Int × ByteArray) × List ByteArray).2.1
        rw [if_pos hw]
        exact ⟨.inr (by show _ ≤ w + ((0 : Nat) : Int); omega), hk⟩
      · show Idle (w + ((if _ then _ else _ : Nat × List (Int × ByteArray) × List ByteArray).1 : Nat)) (if _ then _ else _ : Nat × List (Int × ByteArray) × List ByteArray).2.1 ∧ Keys (if _ then _ else _ : Nat × List (Int × ByteArray) × List ByteArray).2.1
        rw [if_neg hw]
        have := hand_ends n (w + 1) (del er w) (by have := del_len hf; omega) (keys_del hk w)
        refine ⟨?_, this.2⟩
        have h1 := this.1
        show Idle (w + (((hand n (w + 1) (del er w)).1 + 1 : Nat) : Int)) _
        rw [show w + (((hand n (w + 1) (del er w)).1 + 1 : Nat) : Int) = w + 1 + ((hand n (w + 1) (del er w)).1 : Int) by omega]
        exact h1
structure One (l : Lk) : Prop where
  bd : Bd l
  keys : Keys l.er
  idle : Idle l.want l.er
theorem put_has' {er : List (Int × ByteArray)} {k : Int} {t : ByteArray} (h : fnd er k = some t) (s : ByteArray) : put er k s = er := by
  unfold put
  rw [h]
  rfl
theorem put_new {er : List (Int × ByteArray)} {k : Int} (h : fnd er k = none) (s : ByteArray) : put er k s = er ++ [(k, s)] := by
  unfold put
  rw [h]
  rfl
/-- What is known already changes nothing. -/
theorem came_known {l : Lk} (h : Idle l.want l.er) {seq : Int} {t : ByteArray} (hf : fnd l.er seq = some t) (s : ByteArray) : cameR l seq s = (0, l.er, []) := by
  unfold cameR
  split
  · rfl
  · rw [put_has' hf]; exact hand_idle h _
theorem came_keeps {l : Lk} (h : Idle l.want l.er) (hk : Keys l.er) (seq : Int) (s : ByteArray) : Idle (cameL l seq s).want (cameL l seq s).er ∧ Keys (cameL l seq s).er := by
  unfold cameL
  unfold cameR
  split
  · refine ⟨?_, hk⟩
    show Idle (l.want + ((0 : Nat) : Int)) l.er
    rw [show l.want + ((0 : Nat) : Int) = l.want by omega]
    exact h
  · exact hand_ends _ _ _ (by omega) (keys_put hk _ _)
end Go.Proofs.Ytdibaeomepallaa.LK
