/- The law NetOnce, plain: no packet is taken more often than it was sent. -/
import Derived.Test.YtdibaeomepallaaPl
namespace Go.Proofs.Ytdibaeomepallaa.NW
open Go.RowKit Go.Proofs.YtdibaeomepallaaW.PrintWords Go.Proofs.Ytdibaeomepallaa.PAll
set_option linter.unusedVariables false
set_option linter.unusedSimpArgs false
theorem countP_erase (P : Pk → Bool) : ∀ (L : List Pk) (n : Nat) (p : Pk), L[n]? = some p → (L.eraseIdx n).countP P + (if P p = true then 1 else 0) = L.countP P := by
  intro L
  induction L with
  | nil => intro n p h; simp at h
  | cons x r ih =>
    intro n p h
    cases n with
    | zero =>
      rw [List.getElem?_cons_zero] at h
      injection h with h
      subst h
      rw [List.eraseIdx_cons_zero, List.countP_cons]
    | succ n =>
      rw [List.getElem?_cons_succ] at h
      have := ih n p h
      rw [List.eraseIdx_cons_succ, List.countP_cons, List.countP_cons]
      omega
theorem getD_set0 (S : List Int) (k j : Nat) (v : Int) (hk : k < S.length) : (S.set k v).getD j 0 = if k = j then v else S.getD j 0 := by
  rw [List.getD_eq_getElem?_getD, List.getElem?_set]
  by_cases h : k = j
  · subst h
    rw [if_pos rfl, if_pos hk, if_pos rfl]
    rfl
  · rw [if_neg h, if_neg h, List.getD_eq_getElem?_getD]
def ackP (k : Nat) (p : Pk) : Bool := decide (p.f5 = (k : Int))
/-- What holds ahead of act i: S the sent, T the taken. -/
structure OInv (l : List S42) (i : Nat) (L : List Pk) (S T : List Int) : Prop where
  ls : S.length = 61
  lt : T.length = 61
  pk : ∀ p ∈ L, 0 ≤ p.f5 ∧ p.f5 < i ∧ p.f4 = p.f5 + 1 ∧ p.f6 = (rd_T42 l p.f5).f1.f6
  sum : ∀ k : Nat, k < 60 → (L.countP (ackP k) : Int) + T.getD k 0 ≤ S.getD k 0
  ps : ∀ k, 0 ≤ S.getD k 0 ∧ S.getD k 0 ≤ i
  pt : ∀ k, 0 ≤ T.getD k 0 ∧ T.getD k 0 ≤ i
section
variable {l : List S42} {i : Nat} {L L' : List Pk} {S T : List Int}
theorem oinv_start (l : List S42) : OInv l 0 [] (List.replicate 61 0) (List.replicate 61 0) := by
  have h : ∀ k, (List.replicate 61 (0 : Int)).getD k 0 = 0 := by
    intro k
    rw [List.getD_eq_getElem?_getD, List.getElem?_replicate]
    split <;> rfl
  refine ⟨List.length_replicate, List.length_replicate, fun p hp => (by cases hp), fun k _ => ?_, fun k => ?_, fun k => ?_⟩
  · rw [h k]; simp
  · rw [h k]; simp
  · rw [h k]; simp
theorem OInv.sub (h : OInv l i L S T) (hs : L'.Sublist L) : OInv l (i + 1) L' S T := by
  refine ⟨h.ls, h.lt, fun p hp => ?_, fun k hk => ?_, fun k => ?_, fun k => ?_⟩
  · obtain ⟨a, b, c, d⟩ := h.pk p (hs.subset hp)
    exact ⟨a, by omega, c, d⟩
  · have h1 := h.sum k hk
    have h2 := hs.countP_le (p := ackP k)
    omega
  · have := h.ps k; omega
  · have := h.pt k; omega
theorem OInv.add (h : OInv l i L S T) {p : Pk} {k : Nat} (hk : p.f5 = (k : Int)) (hi : k ≤ i) (hi60 : i < 60) (h4 : p.f4 = p.f5 + 1) (h6 : p.f6 = (rd_T42 l p.f5).f1.f6) : OInv l (i + 1) (L ++ [p]) (S.set k (S.getD k 0 + 1)) T := by
  have hlen := h.ls
  refine ⟨by rw [List.length_set]; exact hlen, h.lt, fun r hr => ?_, fun j hj => ?_, fun j => ?_, fun j => ?_⟩
  · rcases List.mem_append.1 hr with hr | hr
    · obtain ⟨a, b, c, d⟩ := h.pk r hr
      exact ⟨a, by omega, c, d⟩
    · rw [List.mem_singleton.1 hr]
      exact ⟨by omega, by omega, h4, h6⟩
  · rw [getD_set0 _ _ _ _ (by omega), List.countP_append]
    have h1 := h.sum j hj
    have h2 : [p].countP (ackP j) = if k = j then 1 else 0 := by
      rw [List.countP_singleton]
      unfold ackP
      by_cases e : k = j
      · rw [if_pos e, if_pos (by rw [hk, e]; exact decide_eq_true rfl)]
      · rw [if_neg e, if_neg (by rw [decide_eq_true_eq, hk]; omega)]
    rw [h2]
    by_cases e : k = j
    · rw [if_pos e, if_pos e, e]; omega
    · rw [if_neg e, if_neg e]; omega
  · rw [getD_set0 _ _ _ _ (by omega)]
    have h1 := h.ps j
    have h2 := h.ps k
    split <;> omega
  · have := h.pt j; omega
theorem OInv.del (h : OInv l i L S T) {p : Pk} {k n : Nat} (hk : p.f5 = (k : Int)) (hn : L[n]? = some p) (hi60 : i < 60) : OInv l (i + 1) (L.eraseIdx n) S (T.set k (T.getD k 0 + 1)) := by
  have hlen := h.lt
  have hp := h.pk p (List.mem_of_getElem? hn)
  refine ⟨h.ls, by rw [List.length_set]; exact hlen, fun r hr => ?_, fun j hj => ?_, fun j => ?_, fun j => ?_⟩
  · obtain ⟨a, b, c, d⟩ := h.pk r ((List.eraseIdx_sublist L n).subset hr)
    exact ⟨a, by omega, c, d⟩
  · rw [getD_set0 _ _ _ _ (by omega)]
    have h1 := h.sum j hj
    have h2 := countP_erase (ackP j) L n p hn
    have h3 : (if ackP j p = true then 1 else 0) = (if k = j then 1 else 0 : Nat) := by
      unfold ackP
      by_cases e : k = j
      · rw [if_pos e, if_pos (by rw [hk, e]; exact decide_eq_true rfl)]
      · rw [if_neg e, if_neg (by rw [decide_eq_true_eq, hk]; omega)]
    rw [h3] at h2
    by_cases e : k = j
    · rw [if_pos e] at h2 ⊢; rw [e]; omega
    · rw [if_neg e] at h2 ⊢; omega
  · have := h.ps j; omega
  · rw [getD_set0 _ _ _ _ (by omega)]
    have h1 := h.pt j
    have h2 := h.pt k
    split <;> omega
/-- A packet of the net, written out. -/
theorem OInv.out (h : OInv l i L S T) {p : Pk} (hp : p ∈ L) : ∃ k : Nat, k < i ∧ p.f5 = (k : Int) ∧ p.f4 = (k : Int) + 1 ∧ p.f6 = (rd_T42 l (k : Int)).f1.f6 := by
  obtain ⟨a, b, c, d⟩ := h.pk p hp
  obtain ⟨k, hk⟩ := Int.eq_ofNat_of_zero_le a
  refine ⟨k, by omega, hk, by omega, by rw [← hk]; exact d⟩
end
theorem actL_sub (x : S42) (L : List Pk) (A : List S52) (h0 : x.f0 ≠ 0) (h3 : x.f0 ≠ 3) : (actL x L A).Sublist L := by
  unfold actL
  rw [if_neg h0]
  split
  · unfold takeLL; split
    · exact List.eraseIdx_sublist _ _
    · exact List.Sublist.refl _
  · split
    · unfold loseL; split
      · exact List.eraseIdx_sublist _ _
      · exact List.Sublist.refl _
    · try rw [if_neg h3]
      split
      · exact List.filter_sublist
      · exact List.Sublist.refl _
/-- The array's box. -/
def arr (S : List Int) : Obj := .cells (S.map (Value.int .i64)).toArray 47 (0, 0)
theorem arr_cell {w : World} {B : Nat} {S : List Int} (h : w.heap[B]? = some (arr S)) (hl : S.length = 61) {k : Nat} (hk : k < 61) : w.cell? ⟨B, k, none⟩ = some (.int .i64 (S.getD k 0)) := by
  refine (blk_cell h k).trans ?_
  rw [List.getElem?_toArray, List.getElem?_map, List.getD_eq_getElem?_getD, List.getElem?_eq_getElem (by omega)]
  rfl
theorem arr_set (S : List Int) (k : Nat) (v : Int) : Obj.cells ((S.map (Value.int .i64)).toArray.setIfInBounds k (.int .i64 v)) 47 (0, 0) = arr (S.set k v) := by
  unfold arr
  rw [List.setIfInBounds_toArray, List.map_set]
section
variable {l : List S42} {i : Nat} {q : List (List Pk)} {ap : List Bool} {L : List Pk} {A : List S52} {S T : List Int} {a b ii : Int}
theorem hopP_of {L : List Pk} {a b : Int} {n : Nat} {p : Pk} (h : (L.filter (hopP a b))[n]? = some p) : p.f0 = a ∧ p.f1 = b ∧ p ∈ L := by
  have h1 := List.mem_of_getElem? h
  obtain ⟨h2, h3⟩ := List.mem_filter.1 h1
  unfold hopP at h3
  simp only [Bool.and_eq_true, decide_eq_true_eq] at h3
  exact ⟨h3.1, h3.2, h2⟩
/-- A take that gave a packet. -/
theorem take_once (hr : NRel q L) (ha : ARel ap A) (hI : OInv l i L S T) (hi60 : i < 60) (hE : takeE q ap a b ii = 0) :
    ∃ (k : Nat) (p2 p3 : Int) (n : Nat), k < i ∧ takeP q ap a b ii = ⟨a, b, p2, p3, (k : Int) + 1, (k : Int), (rd_T42 l (k : Int)).f1.f6⟩ ∧ NRel (takeQ q ap a b ii) (L.eraseIdx n) ∧ OInv l (i + 1) (L.eraseIdx n) S (T.set k (T.getD k 0 + 1)) ∧ (L.eraseIdx n).length ≤ L.length := by
  have hq := take_rel hr ha a b ii
  rw [takeP_is hr ha]
  rw [takeE_is hr ha] at hE
  have hth : thereL L a b ii = 0 := by
    unfold takeLE at hE
    by_cases h : thereL L a b ii = 0
    · exact h
    · rw [if_neg h] at hE; exact hE
  obtain ⟨hb, n, at_, p, hn, hpl, hlt, hp, hf⟩ := place_of hth
  subst hn
  obtain ⟨g0, g1, gm⟩ := hopP_of hf
  obtain ⟨k, hk, h5, h4, h6⟩ := hI.out gm
  have hP : takeLP L A a b (n : Int) = p := by unfold takeLP; rw [if_pos hE]; exact pkL_is hpl hp
  have hL : takeLL L A a b (n : Int) = L.eraseIdx at_ := by unfold takeLL; rw [if_pos hE]; unfold delL; rw [atL_is hpl]
  rw [hL] at hq
  refine ⟨k, p.f2, p.f3, at_, hk, ?_, hq, hI.del h5 hp hi60, List.length_eraseIdx_le _ _⟩
  rw [hP, ← h4, ← h6, ← h5, ← g0, ← g1]
theorem take_none (hr : NRel q L) (hI : OInv l i L S T) (hE : takeE q ap a b ii ≠ 0) : NRel (takeQ q ap a b ii) L ∧ OInv l (i + 1) L S T := by
  unfold takeQ
  rw [if_neg hE]
  exact ⟨hr, hI.sub (List.Sublist.refl _)⟩
/-- A doubling that was done. -/
theorem twice_once (hr : NRel q L) (hI : OInv l i L S T) (hi60 : i < 60) (hE : twiceE q a b ii = 0) :
    ∃ (k n : Nat) (p : Pk), k < i ∧ ii = (n : Int) ∧ (rowAt q a b)[n]? = some p ∧ p.f5 = (k : Int) ∧ NRel (twiceQ q a b ii) (L ++ [p]) ∧ OInv l (i + 1) (L ++ [p]) (S.set k (S.getD k 0 + 1)) T ∧ (L ++ [p]).length ≤ 400 := by
  have hq := twice_rel hr a b ii
  rw [twiceE_is hr] at hE
  have hth : thereL L a b ii = 0 := by
    unfold twiceLE at hE
    by_cases h : thereL L a b ii = 0
    · exact h
    · rw [if_neg h] at hE; exact hE
  obtain ⟨hb, n, at_, p, hn, hpl, hlt, hp, hf⟩ := place_of hth
  subst hn
  obtain ⟨g0, g1, gm⟩ := hopP_of hf
  obtain ⟨k, hk, h5, h4, h6⟩ := hI.out gm
  unfold twiceLE at hE
  rw [if_pos hth, pkL_is hpl hp] at hE
  have hs : okP p = true ∧ L.length < 400 := by
    unfold sendLE at hE
    split at hE
    · split at hE
      · exact ⟨by assumption, by assumption⟩
      · omega
    · omega
  have hL : twiceLL L a b (n : Int) = L ++ [p] := by unfold twiceLL; rw [if_pos hth, pkL_is hpl hp]; unfold sendL; rw [if_pos hs]
  rw [hL] at hq
  refine ⟨k, n, p, hk, rfl, ?_, h5, hq, hI.add h5 (by omega) hi60 (by rw [h5]; exact h4) (by rw [h5]; exact h6), by rw [List.length_append, List.length_singleton]; omega⟩
  rw [hr.rowAt hb]
  exact hf
theorem twice_none (hr : NRel q L) (hI : OInv l i L S T) (hl : L.length ≤ 400) (hE : twiceE q a b ii ≠ 0) : NRel (twiceQ q a b ii) L ∧ OInv l (i + 1) L S T := by
  have hq := twice_rel hr a b ii
  rw [twiceE_is hr] at hE
  have hL : twiceLL L a b ii = L := by
    unfold twiceLL
    by_cases h : thereL L a b ii = 0
    · rw [if_pos h]
      unfold twiceLE at hE
      rw [if_pos h] at hE
      unfold sendL
      rw [if_neg (fun e => hE (by unfold sendLE; rw [if_pos e.1, if_pos e.2]))]
    · rw [if_neg h]
  rw [hL] at hq
  exact ⟨hq, hI.sub (List.Sublist.refl _)⟩
/-- Packet i sent. -/
theorem send_once {p : Pk} (hr : NRel q L) (hI : OInv l i L S T) (hi60 : i < 60) (h5 : p.f5 = (i : Int)) (h4 : p.f4 = (i : Int) + 1) (h6 : p.f6 = (rd_T42 l (i : Int)).f1.f6) (hE : sendE p q = 0) :
    NRel (sendQ p q) (L ++ [p]) ∧ OInv l (i + 1) (L ++ [p]) (S.set i (S.getD i 0 + 1)) T ∧ (L ++ [p]).length ≤ 400 := by
  have hq := hr.send p
  rw [sendE_is hr] at hE
  have hs : okP p = true ∧ L.length < 400 := by
    unfold sendLE at hE
    split at hE
    · split at hE
      · exact ⟨by assumption, by assumption⟩
      · omega
    · omega
  unfold sendL at hq
  rw [if_pos hs] at hq
  exact ⟨hq, hI.add h5 (Nat.le_refl _) hi60 (by rw [h5]; exact h4) (by rw [h5]; exact h6), by rw [List.length_append, List.length_singleton]; omega⟩
theorem send_none {p : Pk} (hr : NRel q L) (hI : OInv l i L S T) (hE : sendE p q ≠ 0) : NRel (sendQ p q) L ∧ OInv l (i + 1) L S T := by
  have hq := hr.send p
  rw [sendE_is hr] at hE
  unfold sendL at hq
  rw [if_neg (fun e => hE (by unfold sendLE; rw [if_pos e.1, if_pos e.2]))] at hq
  exact ⟨hq, hI.sub (List.Sublist.refl _)⟩
end
end Go.Proofs.Ytdibaeomepallaa.NW
