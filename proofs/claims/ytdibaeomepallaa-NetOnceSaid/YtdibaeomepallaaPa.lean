import Derived.Test.YtdibaeomepallaaNL
import Derived.Test.YtdibaeomepallaaPAllx4
import Derived.Test.YtdibaeomepallaaPAllx7
import Derived.Test.YtdibaeomepallaaNM
import Derived.Deep.RegionHeld3
import Derived.Test.YtdibaeomepallaaPAllx1
/- The net, plain: the rows of a net against a list of packets in the order in which they were sent. -/
namespace Go.Proofs.Ytdibaeomepallaa.NW
open Go.RowKit Go.Proofs.YtdibaeomepallaaW.PrintWords Go.Proofs.Ytdibaeomepallaa.PAll
set_option linter.unusedVariables false
set_option linter.unusedSimpArgs false
/-- The packets of one place of the array. -/
def ofP (i : Nat) (p : Pk) : Bool := at2 p.f0 p.f1 == i
structure NRel (q : List (List Pk)) (L : List Pk) : Prop where
  len : q.length = 256
  row : ∀ i, i < 256 → q[i]? = some (L.filter (ofP i))
  ok : ∀ p ∈ L, okP p = true
theorem at2_lt {a b : Int} (ha : 1 ≤ a ∧ a ≤ 15) (hb : 1 ≤ b ∧ b ≤ 15) : at2 a b < 256 := by unfold at2; omega
theorem at2_inj {a b c d : Int} (ha : 1 ≤ a ∧ a ≤ 15) (hb : 1 ≤ b ∧ b ≤ 15) (hc : 1 ≤ c ∧ c ≤ 15) (hd : 1 ≤ d ∧ d ≤ 15) (h : at2 a b = at2 c d) : a = c ∧ b = d := by unfold at2 at h; omega
theorem okP_at {p : Pk} (h : okP p = true) : at2 p.f0 p.f1 < 256 := at2_lt (okP_parts h).1 (okP_parts h).2.1
theorem sum_ind (k : Nat) : ∀ n, k < n → ((List.range n).map (fun i => if k = i then 1 else 0)).sum = 1 := by
  intro n
  induction n with
  | zero => intro h; omega
  | succ n ih =>
    intro h
    rw [List.range_succ, List.map_append, List.sum_append]
    by_cases hk : k = n
    · subst hk
      have : ((List.range k).map (fun i => if k = i then 1 else 0)).sum = 0 := by
        have hz : ∀ m, m ≤ k → ((List.range m).map (fun i => if k = i then 1 else 0)).sum = 0 := by
          intro m
          induction m with
          | zero => intro _; rfl
          | succ m ihm =>
            intro hm
            rw [List.range_succ, List.map_append, List.sum_append, ihm (by omega)]
            simp
            omega
        exact hz k (Nat.le_refl _)
      rw [this]
      simp
    · rw [ih (by omega)]
      simp
      omega
theorem sum_rows (n : Nat) : ∀ L : List Pk, (∀ p ∈ L, at2 p.f0 p.f1 < n) → ((List.range n).map (fun i => (L.filter (ofP i)).length)).sum = L.length := by
  intro L
  induction L with
  | nil =>
    intro _
    simp only [List.filter_nil, List.length_nil]
    induction n with
    | zero => rfl
    | succ n ih => rw [List.range_succ, List.map_append, List.sum_append, ih (fun p hp => by cases hp)]; rfl
  | cons p r ih =>
    intro h
    have h1 := ih (fun x hx => h x (List.mem_cons_of_mem _ hx))
    have h2 := sum_ind (at2 p.f0 p.f1) n (h p List.mem_cons_self)
    have split : ∀ l : List Nat, (l.map (fun i => ((p :: r).filter (ofP i)).length)).sum = (l.map (fun i => (r.filter (ofP i)).length)).sum + (l.map (fun i => if at2 p.f0 p.f1 = i then 1 else 0)).sum := by
      intro l
      induction l with
      | nil => rfl
      | cons a l ihl =>
        simp only [List.map_cons, List.sum_cons, ihl]
        have : ((p :: r).filter (ofP a)).length = (r.filter (ofP a)).length + (if at2 p.f0 p.f1 = a then 1 else 0) := by
          rw [List.filter_cons]
          by_cases e : at2 p.f0 p.f1 = a
          · rw [if_pos (by unfold ofP; exact beq_iff_eq.2 e), if_pos e]; rfl
          · rw [if_neg (by unfold ofP; simpa using e), if_neg e]; rfl
        omega
    rw [split, h1, h2]
    rfl
theorem NRel.eq {q : List (List Pk)} {L : List Pk} (h : NRel q L) : q = (List.range 256).map (fun i => L.filter (ofP i)) := by
  apply List.ext_getElem?
  intro i
  by_cases hi : i < 256
  · rw [h.row i hi, List.getElem?_map, List.getElem?_range hi]
    rfl
  · rw [List.getElem?_eq_none (by rw [h.len]; omega), List.getElem?_eq_none (by simp; omega)]
theorem NRel.cnt {q : List (List Pk)} {L : List Pk} (h : NRel q L) : cnt q = L.length := by
  rw [← sum_rows 256 L (fun p hp => okP_at (h.ok p hp))]
  conv => lhs; rw [h.eq]
  unfold NW.cnt
  rw [List.map_map]
  rfl
theorem NRel.getD {q : List (List Pk)} {L : List Pk} (h : NRel q L) {i : Nat} (hi : i < 256) : q.getD i [] = L.filter (ofP i) := by
  rw [List.getD_eq_getElem?_getD, h.row i hi]
  rfl
theorem nrel_new : NRel (List.replicate 256 []) [] := ⟨List.length_replicate, fun i hi => by rw [List.getElem?_replicate, if_pos hi]; rfl, fun p hp => by cases hp⟩
def hopP (a b : Int) (p : Pk) : Bool := decide (p.f0 = a) && decide (p.f1 = b)
theorem filter_hop {L : List Pk} (hL : ∀ p ∈ L, okP p = true) {a b : Int} (ha : 1 ≤ a ∧ a ≤ 15) (hb : 1 ≤ b ∧ b ≤ 15) : L.filter (ofP (at2 a b)) = L.filter (hopP a b) := by
  apply List.filter_congr
  intro p hp
  obtain ⟨h1, h2, h3⟩ := okP_parts (hL p hp)
  unfold ofP hopP
  rw [Bool.eq_iff_iff]
  simp only [beq_iff_eq, Bool.and_eq_true, decide_eq_true_eq]
  exact ⟨fun e => at2_inj h1 h2 ha hb e, fun ⟨e1, e2⟩ => by rw [e1, e2]⟩
/-- A hop's packets. -/
theorem NRel.rowAt {q : List (List Pk)} {L : List Pk} (h : NRel q L) {a b : Int} (hb : hopB a b = true) : rowAt q a b = L.filter (hopP a b) := by
  obtain ⟨h1, h2, h3⟩ := hopB_iff.1 hb
  unfold NW.rowAt
  rw [if_pos hb, h.getD (at2_lt h1 h2), filter_hop h.ok h1 h2]
/-- A list with a packet more. -/
theorem NRel.push {q : List (List Pk)} {L : List Pk} (h : NRel q L) {p : Pk} (hp : okP p = true) : NRel (q.set (at2 p.f0 p.f1) (q.getD (at2 p.f0 p.f1) [] ++ [p])) (L ++ [p]) := by
  have hlt := okP_at hp
  refine ⟨by simp [h.len], fun i hi => ?_, fun x hx => ?_⟩
  · by_cases he : at2 p.f0 p.f1 = i
    · subst he
      rw [List.getElem?_set_self (by rw [h.len]; exact hlt), h.getD hlt, List.filter_append, List.filter_cons, if_pos (by unfold ofP; exact beq_self_eq_true _)]
      rfl
    · rw [List.getElem?_set_ne he, h.row i hi, List.filter_append, List.filter_cons, if_neg (by unfold ofP; simpa using he)]
      simp
  · rcases List.mem_append.1 hx with hx | hx
    · exact h.ok x hx
    · rw [List.mem_singleton.1 hx]; exact hp
def sendL (p : Pk) (L : List Pk) : List Pk := if okP p = true ∧ L.length < 400 then L ++ [p] else L
theorem NRel.send {q : List (List Pk)} {L : List Pk} (h : NRel q L) (p : Pk) : NRel (sendQ p q) (sendL p L) := by
  unfold sendQ sendL
  rw [h.cnt]
  by_cases hc : okP p = true ∧ L.length < 400
  · rw [if_pos hc, if_pos hc]
    exact h.push hc.1
  · rw [if_neg hc, if_neg hc]
    exact h
theorem NRel.sendE {q : List (List Pk)} {L : List Pk} (h : NRel q L) (p : Pk) : NW.sendE p q = if okP p = true then (if L.length < 400 then 0 else 6) else 1 := by
  unfold NW.sendE
  rw [h.cnt]
theorem sendL_le {p : Pk} {L : List Pk} (h : L.length ≤ 400) : (sendL p L).length ≤ 400 := by
  unfold sendL
  split
  · rename_i hc; rw [List.length_append]; simp; omega
  · exact h
/-- The places of a list where P holds. -/
def placesFrom (P : Pk → Bool) (o : Nat) : List Pk → List Nat
  | [] => []
  | p :: r => if P p then o :: placesFrom P (o + 1) r else placesFrom P (o + 1) r
theorem places_len (P : Pk → Bool) : ∀ (L : List Pk) (o : Nat), (placesFrom P o L).length = (L.filter P).length := by
  intro L
  induction L with
  | nil => intro o; rfl
  | cons p r ih =>
    intro o
    unfold placesFrom
    rw [List.filter_cons]
    split
    · rw [List.length_cons, List.length_cons, ih]
    · exact ih _
/-- The i-th of them: the packet there, and the list without it. -/
theorem places_at (P : Pk → Bool) : ∀ (L : List Pk) (o i at_ : Nat), (placesFrom P o L)[i]? = some at_ → o ≤ at_ ∧ at_ - o < L.length ∧ ∃ p, L[at_ - o]? = some p ∧ P p = true ∧ (L.filter P)[i]? = some p ∧ (L.eraseIdx (at_ - o)).filter P = (L.filter P).eraseIdx i ∧ ∀ Q : Pk → Bool, Q p = false → (L.eraseIdx (at_ - o)).filter Q = L.filter Q := by
  intro L
  induction L with
  | nil => intro o i at_ h; simp [placesFrom] at h
  | cons x r ih =>
    intro o i at_ h
    unfold placesFrom at h
    split at h
    · rename_i hx
      cases i with
      | zero =>
        rw [List.getElem?_cons_zero] at h
        injection h with h
        subst h
        refine ⟨Nat.le_refl _, by simp, x, by simp, hx, by rw [List.filter_cons, if_pos hx]; rfl, ?_, fun Q hQ => ?_⟩
        · rw [Nat.sub_self, List.eraseIdx_zero, List.tail_cons, List.filter_cons, if_pos hx, List.eraseIdx_zero, List.tail_cons]
        · rw [Nat.sub_self, List.eraseIdx_zero, List.tail_cons, List.filter_cons, if_neg (by rw [hQ]; decide)]
      | succ i =>
        rw [List.getElem?_cons_succ] at h
        obtain ⟨h1, h2, p, h3, h4, h5, h6, h7⟩ := ih (o + 1) i at_ h
        have e : at_ - o = (at_ - (o + 1)) + 1 := by omega
        refine ⟨by omega, by rw [e, List.length_cons]; omega, p, by rw [e, List.getElem?_cons_succ]; exact h3, h4, by rw [List.filter_cons, if_pos hx, List.getElem?_cons_succ]; exact h5, ?_, fun Q hQ => ?_⟩
        · rw [e, List.eraseIdx_cons_succ, List.filter_cons, if_pos hx, List.filter_cons, if_pos hx, List.eraseIdx_cons_succ, h6]
        · rw [e, List.eraseIdx_cons_succ, List.filter_cons, List.filter_cons, h7 Q hQ]
    · rename_i hx
      obtain ⟨h1, h2, p, h3, h4, h5, h6, h7⟩ := ih (o + 1) i at_ h
      have e : at_ - o = (at_ - (o + 1)) + 1 := by omega
      refine ⟨by omega, by rw [e, List.length_cons]; omega, p, by rw [e, List.getElem?_cons_succ]; exact h3, h4, by rw [List.filter_cons, if_neg hx]; exact h5, ?_, fun Q hQ => ?_⟩
      · rw [e, List.eraseIdx_cons_succ, List.filter_cons, if_neg hx, List.filter_cons, if_neg hx, h6]
      · rw [e, List.eraseIdx_cons_succ, List.filter_cons, List.filter_cons, h7 Q hQ]
def places (L : List Pk) (a b : Int) : List Nat := placesFrom (hopP a b) 0 L
/-- Without a hop's packet. -/
theorem NRel.del {q : List (List Pk)} {L : List Pk} (h : NRel q L) {a b i : Int} (hb : hopB a b = true) {at_ : Nat} (ht : (places L a b)[i.toNat]? = some at_) : NRel (delQ q a b i) (L.eraseIdx at_) ∧ ∃ p, L[at_]? = some p ∧ (L.filter (hopP a b))[i.toNat]? = some p := by
  obtain ⟨h1, h2, h3⟩ := hopB_iff.1 hb
  obtain ⟨_, hl, p, g3, g4, g5, g6, g7⟩ := places_at _ L 0 _ _ ht
  rw [Nat.sub_zero] at *
  have hlt := at2_lt h1 h2
  have hpa : at2 p.f0 p.f1 = at2 a b := by
    unfold hopP at g4
    simp only [Bool.and_eq_true, decide_eq_true_eq] at g4
    rw [g4.1, g4.2]
  refine ⟨⟨by simp [delQ, h.len], fun j hj => ?_, fun x hx => h.ok x (List.mem_of_mem_eraseIdx hx)⟩, p, g3, g5⟩
  unfold delQ
  by_cases he : at2 a b = j
  · subst he
    rw [List.getElem?_set_self (by rw [h.len]; exact hlt), h.rowAt hb, filter_hop (fun x hx => h.ok x (List.mem_of_mem_eraseIdx hx)) h1 h2, g6]
  · rw [List.getElem?_set_ne he, h.row j hj, g7 (ofP j) (by unfold ofP; rw [hpa]; simpa using he)]
theorem cnt_set {q : List (List Pk)} {i : Nat} {xs : List Pk} (hi : q[i]? = some xs) (ys : List Pk) : cnt (q.set i ys) + xs.length = cnt q + ys.length := by
  unfold cnt
  induction q generalizing i with
  | nil => simp at hi
  | cons x r ih =>
    cases i with
    | zero =>
      rw [List.getElem?_cons_zero] at hi
      injection hi with hi
      subst hi
      simp only [List.set_cons_zero, List.map_cons, List.sum_cons]
      omega
    | succ i =>
      rw [List.getElem?_cons_succ] at hi
      have := ih hi
      simp only [List.set_cons_succ, List.map_cons, List.sum_cons]
      omega
/-- The rows behind n rounds of Clear: those of the node that are done are empty. -/
theorem clrQ_at {q : List (List Pk)} (hl : q.length = 256) (of : Nat) (ho : of < 16) : ∀ n, n ≤ 16 → ∀ i, i < 256 → (clrQ q of n)[i]? = if (∃ j, j < n ∧ (i = of * 16 + j ∨ i = j * 16 + of)) then some [] else q[i]? := by
  intro n
  induction n with
  | zero =>
    intro _ i hi
    rw [if_neg (by rintro ⟨j, hj, _⟩; omega)]
    rfl
  | succ n ih =>
    intro hn i hi
    have ih := ih (by omega) i hi
    have hcl : ∀ m, (clrQ q of m).length = 256 := by
      intro m
      induction m with
      | zero => exact hl
      | succ m ihm => simp [clrQ, ihm]
    unfold clrQ
    rw [List.getElem?_set, List.getElem?_set]
    by_cases h1 : n * 16 + of = i
    · rw [if_pos h1, if_pos (by rw [List.length_set, hcl]; omega), if_pos ⟨n, by omega, .inr h1.symm⟩]
    · rw [if_neg h1]
      by_cases h2 : of * 16 + n = i
      · rw [if_pos h2, if_pos (by rw [hcl]; omega), if_pos ⟨n, by omega, .inl h2.symm⟩]
      · rw [if_neg h2, ih]
        by_cases h3 : ∃ j, j < n ∧ (i = of * 16 + j ∨ i = j * 16 + of)
        · obtain ⟨j, hj, h3⟩ := h3
          rw [if_pos ⟨j, hj, h3⟩, if_pos ⟨j, by omega, h3⟩]
        · rw [if_neg h3, if_neg]
          rintro ⟨j, hj, h4⟩
          by_cases hjn : j = n
          · subst hjn; omega
          · exact h3 ⟨j, by omega, h4⟩
def clearP (of : Int) (p : Pk) : Bool := decide (p.f0 ≠ of) && decide (p.f1 ≠ of)
theorem NRel.clear0 {q : List (List Pk)} {L : List Pk} (h : NRel q L) (of : Nat) (h1 : 1 ≤ of) (h15 : of ≤ 15) : NRel (clrQ q of 16) (L.filter (clearP of)) := by
  have hcl : ∀ m, (clrQ q of m).length = 256 := by
    intro m
    induction m with
    | zero => exact h.len
    | succ m ihm => simp [clrQ, ihm]
  refine ⟨hcl 16, fun i hi => ?_, fun p hp => h.ok p (List.mem_filter.1 hp).1⟩
  rw [clrQ_at h.len of (by omega) 16 (Nat.le_refl _) i hi]
  by_cases hc : ∃ j, j < 16 ∧ (i = of * 16 + j ∨ i = j * 16 + of)
  · rw [if_pos hc]
    congr 1
    symm
    rw [List.filter_eq_nil_iff]
    intro p hp
    obtain ⟨hp1, hp2⟩ := List.mem_filter.1 hp
    obtain ⟨g1, g2, g3⟩ := okP_parts (h.ok p hp1)
    unfold clearP at hp2
    simp only [Bool.and_eq_true, decide_eq_true_eq] at hp2
    obtain ⟨j, hj, hc⟩ := hc
    unfold ofP
    simp only [beq_iff_eq]
    unfold at2
    rcases hc with hc | hc <;> omega
  · rw [if_neg hc, h.row i hi]
    congr 1
    rw [List.filter_filter]
    apply List.filter_congr
    intro p hp
    obtain ⟨g1, g2, g3⟩ := okP_parts (h.ok p hp)
    cases hb : ofP i p with
    | false => rfl
    | true =>
      unfold ofP at hb
      simp only [beq_iff_eq] at hb
      unfold at2 at hb
      rw [Bool.true_and]
      symm
      unfold clearP
      simp only [Bool.and_eq_true, decide_eq_true_eq]
      refine ⟨fun e => hc ⟨p.f1.toNat, by omega, .inl (by rw [e] at hb; simp at hb; omega)⟩, fun e => hc ⟨p.f0.toNat, by omega, .inr (by rw [e] at hb; simp at hb; omega)⟩⟩
theorem clrK_cnt {q : List (List Pk)} {L : List Pk} (h : NRel q L) (of : Nat) (h1 : 1 ≤ of) (h15 : of ≤ 15) : ∀ n, n ≤ 16 → clrK q of n + cnt (clrQ q of n) = cnt q := by
  have hcl : ∀ m, (clrQ q of m).length = 256 := by
    intro m
    induction m with
    | zero => exact h.len
    | succ m ihm => simp [clrQ, ihm]
  intro n
  induction n with
  | zero => intro _; simp [clrK, clrQ]
  | succ n ih =>
    intro hn
    have ih := ih (by omega)
    rw [clrK, clrQ]
    obtain ⟨x1, hx1⟩ : ∃ xs, (clrQ q of n)[of * 16 + n]? = some xs := ⟨_, List.getElem?_eq_getElem (by rw [hcl]; omega)⟩
    obtain ⟨x2, hx2⟩ : ∃ xs, (clrQ q of n)[n * 16 + of]? = some xs := ⟨_, List.getElem?_eq_getElem (by rw [hcl]; omega)⟩
    have e1 : (clrQ q of n).getD (of * 16 + n) [] = x1 := by rw [List.getD_eq_getElem?_getD, hx1]; rfl
    have e2 : (clrQ q of n).getD (n * 16 + of) [] = x2 := by rw [List.getD_eq_getElem?_getD, hx2]; rfl
    rw [e1, e2]
    have c1 := cnt_set hx1 ([] : List Pk)
    by_cases hne : n = of
    · subst hne
      have hx : x1 = [] := by
        rw [clrQ_at h.len n (by omega) n (by omega) _ (by omega)] at hx1
        split at hx1
        · injection hx1 with hx1; exact hx1.symm
        · rw [h.row _ (by omega)] at hx1
          injection hx1 with hx1
          rw [← hx1, List.filter_eq_nil_iff]
          intro p hp
          obtain ⟨g1, g2, g3⟩ := okP_parts (h.ok p hp)
          unfold ofP
          simp only [beq_iff_eq]
          unfold at2
          omega
      have hxx : x2 = x1 := by rw [hx1] at hx2; injection hx2 with hx2; exact hx2.symm
      have c2 := cnt_set (q := (clrQ q n n).set (n * 16 + n) []) (i := n * 16 + n) (xs := []) (List.getElem?_set_self (by rw [hcl]; omega)) ([] : List Pk)
      rw [hx] at c1 hxx
      rw [hxx]
      simp only [List.length_nil] at *
      rw [hx]
      simp only [List.length_nil]
      omega
    · have c2 := cnt_set (q := (clrQ q of n).set (of * 16 + n) []) (i := n * 16 + of) (xs := x2) (by rw [List.getElem?_set_ne (by omega)]; exact hx2) ([] : List Pk)
      simp only [List.length_nil] at *
      omega
def clearL (of : Int) (L : List Pk) : List Pk := L.filter (clearP of)
theorem NRel.clear {q : List (List Pk)} {L : List Pk} (h : NRel q L) (of : Int) : NRel (clearQ q of) (clearL of L) ∧ clearK q of + (clearL of L).length = L.length := by
  unfold clearQ clearK clearL
  by_cases ho : 1 ≤ of ∧ of ≤ 15
  · rw [if_pos ho, if_pos ho]
    obtain ⟨n, rfl⟩ := Int.eq_ofNat_of_zero_le (show 0 ≤ of by omega)
    have h1 := h.clear0 n (by omega) (by omega)
    have h2 := clrK_cnt h n (by omega) (by omega) 16 (Nat.le_refl _)
    rw [h1.cnt, h.cnt] at h2
    exact ⟨h1, h2⟩
  · rw [if_neg ho, if_neg ho]
    have : L.filter (clearP of) = L := by
      rw [List.filter_eq_self]
      intro p hp
      obtain ⟨g1, g2, g3⟩ := okP_parts (h.ok p hp)
      unfold clearP
      simp only [Bool.and_eq_true, decide_eq_true_eq]
      omega
    rw [this]
    exact ⟨h, by omega⟩
end Go.Proofs.Ytdibaeomepallaa.NW
/- What the document's functions of layer 12 that only read come to, on any lists. -/
namespace Go.Proofs.Ytdibaeomepallaa.NW
open Go.RowKit Go.Proofs.YtdibaeomepallaaW.PrintWords Go.Proofs.Ytdibaeomepallaa.PAll
set_option linter.unusedVariables false
set_option linter.unusedSimpArgs false
def to58 (p : Pk) : S58 := ⟨p.f0, p.f1, p.f2, p.f3, p.f4, p.f5, p.f6⟩
theorem wrap_nat {n : Nat} (h : n ≤ 1000000) : wrap64 ((n : Int) + 1) = ((n + 1 : Nat) : Int) := by unfold wrap64; omega
theorem drop_cons {α : Type} {L : List α} {i : Nat} {x : α} {r : List α} (h : L.drop i = x :: r) : i < L.length ∧ L[i]? = some x ∧ L.drop (i + 1) = r := by
  have hi : i < L.length := by
    rcases Nat.lt_or_ge i L.length with g | g
    · exact g
    · rw [List.drop_eq_nil_of_le g] at h; cases h
  rw [List.drop_eq_getElem_cons hi] at h
  injection h with h1 h2
  exact ⟨hi, by rw [List.getElem?_eq_getElem hi, h1], h2⟩
theorem rd58_at {L : List Pk} {i : Nat} {x : Pk} (h : L[i]? = some x) : rd_T58 (L.map to58) (i : Int) = to58 x := by
  unfold rd_T58
  rw [Int.toNat_natCast, List.getD_eq_getElem?_getD, List.getElem?_map, h]
  rfl
theorem rd52_at {L : List S52} {i : Nat} {x : S52} (h : L[i]? = some x) : rd_T52 L (i : Int) = x := by
  unfold rd_T52
  rw [Int.toNat_natCast, List.getD_eq_getElem?_getD, h]
  rfl
theorem places_l (L : List Pk) (A : List S52) (a b : Int) (hL : L.length ≤ 1000) : ∀ (r : List Pk) (i : Nat) (acc : List Int) (k : Nat), L.drop i = r → i + r.length = L.length → acc.length ≤ i → r.length < k →
    caduceusref12_Net_Places.l0 k acc i (L.map to58) A a b = some (acc ++ (placesFrom (hopP a b) i r).map (fun n : Nat => (n : Int))) := by
  intro r
  induction r with
  | nil =>
    intro i acc k h hl ha hk
    obtain ⟨k, rfl⟩ : ∃ k', k = k' + 1 := ⟨k - 1, by omega⟩
    unfold caduceusref12_Net_Places.l0
    simp only [List.length_nil] at hl
    rw [List.length_map, if_neg (by omega)]
    simp [placesFrom]
  | cons x r ih =>
    intro i acc k h hl ha hk
    obtain ⟨k, rfl⟩ : ∃ k', k = k' + 1 := ⟨k - 1, by omega⟩
    obtain ⟨hi, hx, hd⟩ := drop_cons h
    simp only [List.length_cons] at hl hk
    unfold caduceusref12_Net_Places.l0
    rw [List.length_map, if_pos (by omega), if_pos (by omega), rd58_at hx, wrap_nat (by omega), show (to58 x).f0 = x.f0 from rfl, show (to58 x).f1 = x.f1 from rfl]
    unfold placesFrom
    by_cases h0 : x.f0 = a
    · by_cases h1 : x.f1 = b
      · rw [if_pos h0, if_pos h1, if_pos (by omega), ih (i + 1) _ k hd (by omega) (by rw [List.length_append, List.length_singleton]; omega) (by omega)]
        rw [if_pos (by simp [hopP, h0, h1])]
        simp [List.append_assoc]
      · rw [if_pos h0, if_neg h1, ih (i + 1) _ k hd (by omega) (by omega) (by omega), if_neg (by simp [hopP, h1])]
    · rw [if_neg h0, ih (i + 1) _ k hd (by omega) (by omega) (by omega), if_neg (by simp [hopP, h0])]
theorem places_f (L : List Pk) (A : List S52) (a b : Int) (hL : L.length ≤ 1000) (k : Nat) (hk : 1001 ≤ k) : caduceusref12_Net_Places.f k (L.map to58) A a b = some ((places L a b).map (fun n : Nat => (n : Int))) := by
  unfold caduceusref12_Net_Places.f
  rw [show (0 : Int) = ((0 : Nat) : Int) from rfl, places_l L A a b hL L 0 [] k rfl (by omega) (Nat.le_refl _) (by omega)]
  rfl
/-- Are two nodes apart? -/
def cutL (A : List S52) (a b : Int) : Bool := A.any (fun x => (decide (x.f0 = a) && decide (x.f1 = b)) || (decide (x.f0 = b) && decide (x.f1 = a)))
theorem cut_l (L : List S58) (A : List S52) (a b : Int) (hA : A.length ≤ 1000) : ∀ (r : List S52) (i k : Nat), A.drop i = r → i + r.length = A.length → r.length < k → caduceusref12_Net_Cut.l0 k i L A a b = some (cutL r a b) := by
  intro r
  induction r with
  | nil =>
    intro i k h hl hk
    obtain ⟨k, rfl⟩ : ∃ k', k = k' + 1 := ⟨k - 1, by omega⟩
    unfold caduceusref12_Net_Cut.l0
    simp only [List.length_nil] at hl
    rw [if_neg (by omega)]
    rfl
  | cons x r ih =>
    intro i k h hl hk
    obtain ⟨k, rfl⟩ : ∃ k', k = k' + 1 := ⟨k - 1, by omega⟩
    obtain ⟨hi, hx, hd⟩ := drop_cons h
    simp only [List.length_cons] at hl hk
    unfold caduceusref12_Net_Cut.l0
    rw [if_pos (by omega), if_pos (by omega), rd52_at hx, wrap_nat (by omega), ih (i + 1) k hd (by omega) (by omega)]
    unfold cutL
    rw [List.any_cons]
    by_cases h1 : x.f0 = a ∧ x.f1 = b
    · rw [if_pos (by simp [h1.1, h1.2]), h1.1, h1.2]; simp
    · rw [if_neg (by simpa using h1)]
      by_cases h2 : x.f0 = b ∧ x.f1 = a
      · rw [if_pos (by simp [h2.1, h2.2]), h2.1, h2.2]; simp
      · rw [if_neg (by simpa using h2)]
        have e1 : (decide (x.f0 = a) && decide (x.f1 = b)) = false := by simpa using h1
        have e2 : (decide (x.f0 = b) && decide (x.f1 = a)) = false := by simpa using h2
        rw [e1, e2]
        rfl
theorem cut_f (L : List S58) (A : List S52) (a b : Int) (hA : A.length ≤ 1000) (k : Nat) (hk : 1001 ≤ k) : caduceusref12_Net_Cut.f k L A a b = some (cutL A a b) := by
  unfold caduceusref12_Net_Cut.f
  rw [show (0 : Int) = ((0 : Nat) : Int) from rfl]
  exact cut_l L A a b hA A 0 k rfl (by omega) (by omega)
theorem is12_f (a b : Int) : caduceusref12_Is.f a b = some (hopB a b) := by
  unfold caduceusref12_Is.f hopB
  by_cases h1 : a ≥ 1 <;> by_cases h2 : a ≤ 15 <;> by_cases h3 : b ≥ 1 <;> by_cases h4 : b ≤ 15 <;> by_cases h5 : a = b <;> simp [h1, h2, h3, h4, h5]
def thereL (L : List Pk) (a b i : Int) : Int := if hopB a b = true then (if i < 0 ∨ ((L.filter (hopP a b)).length : Int) ≤ i then 4 else 0) else 1
theorem NRel.there {q : List (List Pk)} {L : List Pk} (h : NRel q L) (a b i : Int) : thereE q a b i = thereL L a b i := by
  unfold thereE thereL
  by_cases hb : hopB a b = true
  · rw [if_pos hb, if_pos hb, h.rowAt hb]
  · rw [if_neg hb, if_neg hb]
/-- The hops of the document. -/
def hopsRow (L : List Pk) (A : List S52) (a : Int) : Nat → List S52
  | 0 => []
  | n + 1 => hopsRow L A a n ++ (if 0 < (L.filter (hopP a ((n : Int) + 1))).length ∧ cutL A a ((n : Int) + 1) = false then [⟨a, (n : Int) + 1⟩] else [])
def hopsL (L : List Pk) (A : List S52) : Nat → List S52
  | 0 => []
  | n + 1 => hopsL L A n ++ hopsRow L A ((n : Int) + 1) 15
end Go.Proofs.Ytdibaeomepallaa.NW
/- The document's functions of layer 12 that make lists, by hand: without. -/
namespace Go.Proofs.Ytdibaeomepallaa.NW
open Go.RowKit Go.Proofs.YtdibaeomepallaaW.PrintWords Go.Proofs.YtdibaeomepallaaW.PrintLast Go.Proofs.YtdibaeomepallaaW.PrintMore Go.Proofs.Ytdibaeomepallaa.PAll
set_option linter.unusedVariables false
set_option linter.unusedSimpArgs false
set_option maxRecDepth 100000
def woTo (L : List S58) (at_ : Int) : Nat → List S58
  | 0 => []
  | n + 1 => woTo L at_ n ++ (if (n : Int) = at_ then [] else [rd_T58 L n])
theorem woTo_len (L : List S58) (at_ : Int) (n : Nat) : (woTo L at_ n).length ≤ n := by
  induction n with
  | zero => simp [woTo]
  | succ n ih => unfold woTo; rw [List.length_append]; split <;> simp <;> omega
theorem info40s : (Try.prog.info? 40).map (·.size) = some 2 := by kernel_rfl
theorem new1 (w : World) (o1 o2 : Obj) : ((w.alloc o1).alloc o2).heap[w.heap.size + 1]? = some o2 := by
  have hn := blk_new (w.alloc o1) o2
  rwa [show (w.alloc o1).heap.size = w.heap.size + 1 from by simp] at hn
theorem k58_types : ∀ q, q ∈ (58 : Nat) :: k58.E → q ≠ 40 := by
  intro q hq
  simp [k58, Kd.iso, Kd.pair, Kd.int, Kd.string, Kd.scalar] at hq
  omega
/-- A row is put into the box of the net that came in, and that is handed back. -/
theorem ret40 {w wr : World} {v v0 v1 u0 u1 : Value} {xs : List S58} (h2 : wr.heap[w.heap.size]? = some (.cells #[v0, v1] 40 (0, 0))) (h4 : wr.heap[w.heap.size + 1]? = some (.cells #[u0, u1] 40 (0, 0)))
    (hR : Kd.R k58 58 wr w.heap.size (fun _ => True) v xs) (hB : Below w.heap.size w wr) :
    (((wr.setCell ⟨w.heap.size, 0, none⟩ v).setCell ⟨w.heap.size + 1, 0, none⟩ v).setCell ⟨w.heap.size + 1, 1, none⟩ v1).heap[w.heap.size + 1]? = some (.cells #[v, v1] 40 (0, 0)) ∧
    Kd.R k58 58 (((wr.setCell ⟨w.heap.size, 0, none⟩ v).setCell ⟨w.heap.size + 1, 0, none⟩ v).setCell ⟨w.heap.size + 1, 1, none⟩ v1) w.heap.size (fun _ => True) v xs ∧
    Below w.heap.size w (((wr.setCell ⟨w.heap.size, 0, none⟩ v).setCell ⟨w.heap.size + 1, 0, none⟩ v).setCell ⟨w.heap.size + 1, 1, none⟩ v1) := by
  have a1 := blk_far h4 (p := ⟨w.heap.size, 0, none⟩) (by simp) v
  have a2 := blk_set a1 0 v
  have a3 := blk_set a2 1 v1
  refine ⟨a3, ?_, below_cell (below_cell (below_cell hB (Nat.le_refl _) _) (by simp) _) (by simp) _⟩
  exact Kd.R_set (Kd.R_set (Kd.R_set hR h2 k58_types 0 v) a1 k58_types 0 v) a2 k58_types 1 v1
set_option maxHeartbeats 1000000 in
theorem without_is (L : List S58) (at_ : Int) (A0 : Option Addr) (c0 : Nat) (A1 : Option Addr) (n1 c1 : Nat) (w : World) (hC : Kd.C k58 w A0 L.length L) (hc : L.length ≤ c0) (hL : L.length ≤ 1000) :
    Calls Try.prog 85 #[.agg #[.slice A0 L.length c0, .slice A1 n1 c1], .int .i64 at_] w fun e w' => ∃ v0, e = .returned (.agg #[v0, .slice A1 n1 c1]) ∧ Kd.R k58 58 w' w.heap.size (fun _ => True) v0 (woTo L at_ L.length) ∧ Below w.heap.size w w' := by
  have hu40 := Try.underlying40
  have hu58 := Try.underlying58
  obtain ⟨w2, hw2⟩ : ∃ w2, w2 = (w.alloc (.cells #[.slice A0 L.length c0, .slice A1 n1 c1] 40 (0, 0))).alloc (.cells #[.slice none 0 0, .slice none 0 0] 40 (0, 0)) := ⟨_, rfl⟩
  have hB2 : Below w.heap.size w w2 := by rw [hw2]; exact below_alloc (below_alloc (Below.refl _ _) _) _
  have hb2 : w2.heap[w.heap.size]? = some (.cells #[.slice A0 L.length c0, .slice A1 n1 c1] 40 (0, 0)) := by rw [hw2]; exact blk_alloc (blk_new w _) _
  have hb4 : w2.heap[w.heap.size + 1]? = some (.cells #[.slice none 0 0, .slice none 0 0] 40 (0, 0)) := by rw [hw2]; exact new1 _ _ _
  have HW := Aside0.mk hw2
  have H2 := Aside0.mk hb2
  have H4 := Aside0.mk hb4
  have HB2 := Aside0.mk hB2
  have HC := Aside0.mk hC
  clear hw2 hb2 hb4 hB2 hC
  go_enter Try.func85, Try.ntmps85
  go_wp2
  go_loopg [5, 6] L.length (fun kq v5 v6 w' => ∃ i : Nat, v6 = .int .i64 i ∧ Aside0 (Kd.R k58 58 w' w2.heap.size (fun _ => True) v5 (woTo L at_ i)) ∧ Aside0 (i + kq = L.length) ∧ Aside0 (Below w2.heap.size w2 w'))
  case atStart => exact ⟨0, rfl, ⟨Kd.R_nil _ _ _ _ _⟩, ⟨by omega⟩, ⟨by rw [← HW.out]; exact Below.refl _ _⟩⟩
  case round =>
    obtain ⟨i, rfl, HO, HK, HB⟩ := hrel
    obtain ⟨A5, c5, rfl⟩ := Kd.R_slice HO.out
    have X0 : wr.cell? ⟨w.heap.size, 0, none⟩ = some (.slice A0 L.length c0) := (blk_cell (keep_box H2.out HB.out) 0).trans rfl
    cases gk with
    | zero =>
      have e : i = L.length := by have := HK.out; omega
      subst e
      have d1 : decide ((L.length : Int) < (L.length : Int)) = false := decide_eq_false (by omega)
      have X1 : wr.cell? ⟨w.heap.size, 1, none⟩ = some (.slice A1 n1 c1) := (blk_cell (keep_box H2.out HB.out) 1).trans rfl
      have f0 := blk_frozen (keep_box H2.out HB.out) 0
      have Y0 : wr.cell? ⟨w.heap.size + 1, 0, none⟩ = some (.slice none 0 0) := (blk_cell (keep_box H4.out HB.out) 0).trans rfl
      have Y1 : wr.cell? ⟨w.heap.size + 1, 1, none⟩ = some (.slice none 0 0) := (blk_cell (keep_box H4.out HB.out) 1).trans rfl
      have g0 := blk_frozen (keep_box H4.out HB.out) 0
      have g1 := blk_frozen (keep_box H4.out HB.out) 1
      go_wp2
      obtain ⟨z1, hR, hB⟩ := ret40 (w := w) (wr := wr) (v := .slice A5 (woTo L at_ L.length).length c5) (v1 := .slice A1 n1 c1) (keep_box H2.out HB.out) (keep_box H4.out HB.out) (Kd.R_lower HO.out HB2.out.size) (HB2.out.trans (HB.out.mono HB2.out.size))
      refine bodyPost_ret (results_cell_row rfl _ _ (w.heap.size + 1) 40 #[.slice A5 (woTo L at_ L.length).length c5, .slice A1 n1 c1] (0, 0) _ rfl z1 hu40 rfl info40s) rfl ?_
      exact ⟨_, rfl, hR, hB⟩
    | succ k1 =>
      have hi : i < L.length := by have := HK.out; omega
      have d1 : decide ((i : Int) < (L.length : Int)) = true := decide_eq_true (by omega)
      have i0 : (0 : Int) ≤ (i : Int) := by omega
      have i1 : (i : Int) < (L.length : Int) := by omega
      have hlen := woTo_len L at_ i
      obtain ⟨ad, hA, e0, e1, e2, e3, e4, e5, e6⟩ := at_T58 (Kd.C_below (Kd.C_below HC.out HB2.out) HB.out) (i : Int) i0 i1
      subst hA
      simp only [Int.toNat_natCast] at e0 e1 e2 e3 e4 e5 e6
      have HS := Aside0.mk (show woTo L at_ (i + 1) = woTo L at_ i ++ (if (i : Int) = at_ then [] else [rd_T58 L i]) from rfl)
      by_cases he : (i : Int) = at_
      · have d2 : ((i : Int) != at_) = false := bne_eq_false_iff_eq.mpr he
        have HE := Aside0.mk he
        clear he
        go_wp2
        go_roundg k1
        case measure => omega
        case rel => exact ⟨i + 1, by first | rfl | simp, by rw [HS.out, if_pos HE.out, List.append_nil]; exact HO, ⟨by have := HK.out; omega⟩, HB⟩
      · have d2 : ((i : Int) != at_) = true := bne_iff_ne.mpr he
        have HE := Aside0.mk he
        clear he
        go_wp2_with ((with_reducible refine gate_builtin (b := .append) (xs := #[.tmp 17, .tmp 23]) rfl ?_); at_builtin; refine Kd.R_append k58 (w0 := w2) w2.heap.size rfl (.tmp 17) (.tmp 23) 37 58 _ 64 rfl Try.underlying37 info58 rfl (by decide) (by omega) _ _ (rd_T58 L i) _ (fun _ => True) (fun _ => False) rfl rfl (k58_mkM _ _ _ (rd_T58 L i)) (fun _ hk => hk.elim) (fun _ _ => trivial) HO.out HB.out HB.out.size (by omega) ?_; intro v1 w1 h1 h2 h3 h4; have HV1 := Aside0.mk h1; have HB1 := Aside0.mk h2; clear h1 h2 h3 h4)
        go_roundg k1
        case measure => omega
        case rel => exact ⟨i + 1, by first | rfl | simp, by rw [HS.out, if_neg HE.out]; exact HV1, ⟨by have := HK.out; omega⟩, HB1⟩
end Go.Proofs.Ytdibaeomepallaa.NW
/- The document's functions of layer 12 that make lists, by hand: Clear, Send. -/
namespace Go.Proofs.Ytdibaeomepallaa.NW
open Go.RowKit Go.Proofs.YtdibaeomepallaaW.PrintWords Go.Proofs.YtdibaeomepallaaW.PrintLast Go.Proofs.YtdibaeomepallaaW.PrintMore Go.Proofs.Ytdibaeomepallaa.PAll
set_option linter.unusedVariables false
set_option linter.unusedSimpArgs false
set_option maxRecDepth 100000
def clTo (L : List S58) (of : Int) : Nat → List S58
  | 0 => []
  | n + 1 => clTo L of n ++ (if (rd_T58 L n).f0 = of ∨ (rd_T58 L n).f1 = of then [] else [rd_T58 L n])
theorem clTo_len (L : List S58) (of : Int) (n : Nat) : (clTo L of n).length ≤ n := by
  induction n with
  | zero => simp [clTo]
  | succ n ih => unfold clTo; rw [List.length_append]; split <;> simp <;> omega
set_option maxHeartbeats 1000000 in
theorem refClear_is (L : List S58) (of : Int) (A0 : Option Addr) (c0 : Nat) (A1 : Option Addr) (n1 c1 : Nat) (w : World) (hC : Kd.C k58 w A0 L.length L) (hc : L.length ≤ c0) (hL : L.length ≤ 1000) :
    Calls Try.prog 67 #[.agg #[.slice A0 L.length c0, .slice A1 n1 c1], .int .i64 of] w fun e w' => ∃ v0, e = .returned (.agg #[v0, .slice A1 n1 c1]) ∧ Kd.R k58 58 w' w.heap.size (fun _ => True) v0 (clTo L of L.length) ∧ Below w.heap.size w w' := by
  have hu40 := Try.underlying40
  have hu58 := Try.underlying58
  obtain ⟨w2, hw2⟩ : ∃ w2, w2 = (w.alloc (.cells #[.slice A0 L.length c0, .slice A1 n1 c1] 40 (0, 0))).alloc (.cells #[.slice none 0 0, .slice none 0 0] 40 (0, 0)) := ⟨_, rfl⟩
  have hB2 : Below w.heap.size w w2 := by rw [hw2]; exact below_alloc (below_alloc (Below.refl _ _) _) _
  have hb2 : w2.heap[w.heap.size]? = some (.cells #[.slice A0 L.length c0, .slice A1 n1 c1] 40 (0, 0)) := by rw [hw2]; exact blk_alloc (blk_new w _) _
  have hb4 : w2.heap[w.heap.size + 1]? = some (.cells #[.slice none 0 0, .slice none 0 0] 40 (0, 0)) := by rw [hw2]; exact new1 _ _ _
  have HW := Aside0.mk hw2
  have H2 := Aside0.mk hb2
  have H4 := Aside0.mk hb4
  have HB2 := Aside0.mk hB2
  have HC := Aside0.mk hC
  clear hw2 hb2 hb4 hB2 hC
  go_enter Try.func67, Try.ntmps67
  go_wp2
  go_loopg [5, 6] L.length (fun kq v5 v6 w' => ∃ i : Nat, v6 = .int .i64 i ∧ Aside0 (Kd.R k58 58 w' w2.heap.size (fun _ => True) v5 (clTo L of i)) ∧ Aside0 (i + kq = L.length) ∧ Aside0 (Below w2.heap.size w2 w'))
  case atStart => exact ⟨0, rfl, ⟨Kd.R_nil _ _ _ _ _⟩, ⟨by omega⟩, ⟨by rw [← HW.out]; exact Below.refl _ _⟩⟩
  case round =>
    obtain ⟨i, rfl, HO, HK, HB⟩ := hrel
    obtain ⟨A5, c5, rfl⟩ := Kd.R_slice HO.out
    have X0 : wr.cell? ⟨w.heap.size, 0, none⟩ = some (.slice A0 L.length c0) := (blk_cell (keep_box H2.out HB.out) 0).trans rfl
    cases gk with
    | zero =>
      have e : i = L.length := by have := HK.out; omega
      subst e
      have d1 : decide ((L.length : Int) < (L.length : Int)) = false := decide_eq_false (by omega)
      have X1 : wr.cell? ⟨w.heap.size, 1, none⟩ = some (.slice A1 n1 c1) := (blk_cell (keep_box H2.out HB.out) 1).trans rfl
      have f0 := blk_frozen (keep_box H2.out HB.out) 0
      have Y0 : wr.cell? ⟨w.heap.size + 1, 0, none⟩ = some (.slice none 0 0) := (blk_cell (keep_box H4.out HB.out) 0).trans rfl
      have Y1 : wr.cell? ⟨w.heap.size + 1, 1, none⟩ = some (.slice none 0 0) := (blk_cell (keep_box H4.out HB.out) 1).trans rfl
      have g0 := blk_frozen (keep_box H4.out HB.out) 0
      have g1 := blk_frozen (keep_box H4.out HB.out) 1
      go_wp2
      obtain ⟨z1, hR, hB⟩ := ret40 (w := w) (wr := wr) (v := .slice A5 (clTo L of L.length).length c5) (v1 := .slice A1 n1 c1) (keep_box H2.out HB.out) (keep_box H4.out HB.out) (Kd.R_lower HO.out HB2.out.size) (HB2.out.trans (HB.out.mono HB2.out.size))
      refine bodyPost_ret (results_cell_row rfl _ _ (w.heap.size + 1) 40 #[.slice A5 (clTo L of L.length).length c5, .slice A1 n1 c1] (0, 0) _ rfl z1 hu40 rfl info40s) rfl ?_
      exact ⟨_, rfl, hR, hB⟩
    | succ k1 =>
      have hi : i < L.length := by have := HK.out; omega
      have d1 : decide ((i : Int) < (L.length : Int)) = true := decide_eq_true (by omega)
      have i0 : (0 : Int) ≤ (i : Int) := by omega
      have i1 : (i : Int) < (L.length : Int) := by omega
      have hlen := clTo_len L of i
      obtain ⟨ad, hA, e0, e1, e2, e3, e4, e5, e6⟩ := at_T58 (Kd.C_below (Kd.C_below HC.out HB2.out) HB.out) (i : Int) i0 i1
      subst hA
      simp only [Int.toNat_natCast] at e0 e1 e2 e3 e4 e5 e6
      have HS := Aside0.mk (show clTo L of (i + 1) = clTo L of i ++ (if (rd_T58 L i).f0 = of ∨ (rd_T58 L i).f1 = of then [] else [rd_T58 L i]) from rfl)
      by_cases he : (rd_T58 L i).f0 = of
      · have d2 : ((rd_T58 L i).f0 != of) = false := bne_eq_false_iff_eq.mpr he
        have HE := Aside0.mk he
        clear he
        go_wp2
        go_roundg k1
        case measure => omega
        case rel => exact ⟨i + 1, by first | rfl | simp, by rw [HS.out, if_pos (.inl HE.out), List.append_nil]; exact HO, ⟨by have := HK.out; omega⟩, HB⟩
      · have d2 : ((rd_T58 L i).f0 != of) = true := bne_iff_ne.mpr he
        by_cases he2 : (rd_T58 L i).f1 = of
        · have d3 : ((rd_T58 L i).f1 != of) = false := bne_eq_false_iff_eq.mpr he2
          have HE := Aside0.mk he2
          clear he he2
          go_wp2
          go_roundg k1
          case measure => omega
          case rel => exact ⟨i + 1, by first | rfl | simp, by rw [HS.out, if_pos (.inr HE.out), List.append_nil]; exact HO, ⟨by have := HK.out; omega⟩, HB⟩
        · have d3 : ((rd_T58 L i).f1 != of) = true := bne_iff_ne.mpr he2
          have HE := Aside0.mk (show ¬ ((rd_T58 L i).f0 = of ∨ (rd_T58 L i).f1 = of) from fun e => e.elim he he2)
          clear he he2
          go_wp2_with ((with_reducible refine gate_builtin (b := .append) (xs := #[.tmp 32, .tmp 38]) rfl ?_); at_builtin; refine Kd.R_append k58 (w0 := w2) w2.heap.size rfl (.tmp 32) (.tmp 38) 37 58 _ 64 rfl Try.underlying37 info58 rfl (by decide) (by omega) _ _ (rd_T58 L i) _ (fun _ => True) (fun _ => False) rfl rfl (k58_mkM _ _ _ (rd_T58 L i)) (fun _ hk => hk.elim) (fun _ _ => trivial) HO.out HB.out HB.out.size (by omega) ?_; intro v1 w1 h1 h2 h3 h4; have HV1 := Aside0.mk h1; have HB1 := Aside0.mk h2; clear h1 h2 h3 h4)
          go_roundg k1
          case measure => omega
          case rel => exact ⟨i + 1, by first | rfl | simp, by rw [HS.out, if_neg HE.out]; exact HV1, ⟨by have := HK.out; omega⟩, HB1⟩
end Go.Proofs.Ytdibaeomepallaa.NW
/- The document's Send of layer 12, by hand; rows that are read, with their blocks (RF). -/
namespace Go.Proofs.Ytdibaeomepallaa.NW
open Go.RowKit Go.Proofs.YtdibaeomepallaaW.PrintWords Go.Proofs.YtdibaeomepallaaW.PrintLast Go.Proofs.YtdibaeomepallaaW.PrintMore Go.Proofs.Ytdibaeomepallaa.PAll
set_option linter.unusedVariables false
set_option linter.unusedSimpArgs false
set_option maxRecDepth 100000
/-- A slice that is only read, all of it in blocks of ok. -/
def RF {α : Type} (d : Kd α) (W : World) (ok : Nat → Prop) (v : Value) (xs : List α) : Prop := ∃ A c, v = .slice A xs.length c ∧ xs.length ≤ c ∧ Kd.F d W ok A xs.length xs
section
variable {α : Type} {d : Kd α} {W W1 : World} {ok ok' F : Nat → Prop} {v : Value} {xs : List α}
theorem RF.mono (h : RF d W ok v xs) (hk : ∀ k, ok k → ok' k) : RF d W ok' v xs := by
  obtain ⟨A, c, e, hc, hf⟩ := h
  exact ⟨A, c, e, hc, Kd.F_mono hf hk⟩
theorem RF.bound (h : RF d W ok v xs) : RF d W (fun k => ok k ∧ k < W.heap.size) v xs := by
  obtain ⟨A, c, e, hc, hf⟩ := h
  exact ⟨A, c, e, hc, Kd.F_bound hf⟩
theorem RF.step (h : RF d W ok v xs) (hm : ∀ k, ok k → k < W.heap.size → W1.heap[k]? = W.heap[k]?) : RF d W1 ok v xs := by
  obtain ⟨A, c, e, hc, hf⟩ := h
  exact ⟨A, c, e, hc, Kd.F_step hf hm⟩
theorem RF.below (h : RF d W ok v xs) (hb : Below W.heap.size W W1) : RF d W1 ok v xs := h.step (fun k _ hk => hb.block k hk)
/-- Other blocks have turned; what is new is none of these. -/
theorem RF.turn (h : RF d W (fun k => ¬ F k) v xs) (hm : Mods F W W1) : RF d W1 (fun k => ¬ grow F W W1 k) v xs :=
  (h.bound.step (fun k hk hlt => hm.block k hlt hk.1)).mono (fun k hk e => e.elim hk.1 (fun e => by have := hk.2; omega))
theorem RF.of_R {e base : Nat} (h : d.R e W base ok v xs) : RF d W (fun k => base ≤ k) v xs := by
  have h2 := Kd.R_bound h
  obtain ⟨A, c, rfl, hc, _⟩ := Kd.R_reads h
  exact ⟨A, c, rfl, hc, Kd.F_mono (Kd.R_F h2) (fun k hk => hk.2.1)⟩
theorem RF.nil (d : Kd α) (W : World) (ok : Nat → Prop) : RF d W ok (.slice none 0 0) [] := ⟨none, 0, rfl, Nat.le_refl _, Kd.F_nil d W ok⟩
end
/-- A row is put into the box of the net that came in, and that is handed back. -/
theorem ret40g {w wr : World} {b2 b4 : Nat} {v v0 v1 u0 u1 : Value} {xs : List S58} (hne : b4 ≠ b2) (hw2 : w.heap.size ≤ b2) (hw4 : w.heap.size ≤ b4) (h2 : wr.heap[b2]? = some (.cells #[v0, v1] 40 (0, 0))) (h4 : wr.heap[b4]? = some (.cells #[u0, u1] 40 (0, 0)))
    (hR : Kd.R k58 58 wr w.heap.size (fun _ => True) v xs) (hB : Below w.heap.size w wr) :
    (((wr.setCell ⟨b2, 0, none⟩ v).setCell ⟨b4, 0, none⟩ v).setCell ⟨b4, 1, none⟩ v1).heap[b4]? = some (.cells #[v, v1] 40 (0, 0)) ∧
    Kd.R k58 58 (((wr.setCell ⟨b2, 0, none⟩ v).setCell ⟨b4, 0, none⟩ v).setCell ⟨b4, 1, none⟩ v1) w.heap.size (fun _ => True) v xs ∧
    Below w.heap.size w (((wr.setCell ⟨b2, 0, none⟩ v).setCell ⟨b4, 0, none⟩ v).setCell ⟨b4, 1, none⟩ v1) := by
  have a1 := blk_far h4 (p := ⟨b2, 0, none⟩) hne v
  have a2 := blk_set a1 0 v
  have a3 := blk_set a2 1 v1
  refine ⟨a3, ?_, below_cell (below_cell (below_cell hB hw2 _) hw4 _) hw4 _⟩
  exact Kd.R_set (Kd.R_set (Kd.R_set hR h2 k58_types 0 v) a1 k58_types 0 v) a2 k58_types 1 v1
theorem check11_is (p : Pk) : caduceusref11_CheckPacket.f p.f0 p.f1 p.f2 p.f3 p.f4 p.f5 p.f6 = some (okP p) := by
  rw [← check_is]
  rfl
theorem results40 {W : World} {g : Nat} {cs : Array Value} (h : W.heap[g]? = some (.cells cs 40 (0, 0))) (hs : cs.size = 2) : (Try.prog.info? 40).map (·.size) = some cs.size := by rw [hs]; exact info40s
set_option maxHeartbeats 1000000 in
theorem refSend_no (L : List S58) (p : Pk) (b : Bool) (e0 : Int) (hb : okP p = b) (hcase : (b = false ∧ e0 = 1) ∨ (b = true ∧ 400 ≤ L.length ∧ e0 = 6)) (A0 : Option Addr) (c0 : Nat) (A1 : Option Addr) (n1 c1 : Nat) (w : World) :
    Calls Try.prog 62 #[.agg #[.slice A0 L.length c0, .slice A1 n1 c1], .agg #[.int .i64 p.f0, .int .i64 p.f1, .int .i64 p.f2, .int .i64 p.f3, .int .i64 p.f4, .int .i64 p.f5, .string p.f6]] w fun e w' => e = .returned (.tuple #[.agg #[.slice A0 L.length c0, .slice A1 n1 c1], .int .i64 e0]) ∧ Below w.heap.size w w' := by
  have hu40 := Try.underlying40
  have hu58 := Try.underlying58
  have hk := check11_is p
  rw [hb] at hk
  obtain ⟨w2, hw2⟩ : ∃ w2, w2 = ((w.alloc (.cells #[.slice A0 L.length c0, .slice A1 n1 c1] 40 (0, 0))).alloc (.cells #[.int .i64 p.f0, .int .i64 p.f1, .int .i64 p.f2, .int .i64 p.f3, .int .i64 p.f4, .int .i64 p.f5, .string p.f6] 58 (0, 0))).alloc (.cells #[.slice none 0 0, .slice none 0 0] 40 (0, 0)) := ⟨_, rfl⟩
  have hB2 : Below w.heap.size w w2 := by rw [hw2]; exact below_alloc (below_alloc (below_alloc (Below.refl _ _) _) _) _
  have hb2 : w2.heap[w.heap.size]? = some (.cells #[.slice A0 L.length c0, .slice A1 n1 c1] 40 (0, 0)) := by rw [hw2]; exact blk_alloc (blk_alloc (blk_new w _) _) _
  have hb4 : w2.heap[w.heap.size + 1 + 1]? = some (.cells #[.slice none 0 0, .slice none 0 0] 40 (0, 0)) := by
    rw [hw2]
    have hn := new1 (w.alloc (.cells #[.slice A0 L.length c0, .slice A1 n1 c1] 40 (0, 0))) (.cells #[.int .i64 p.f0, .int .i64 p.f1, .int .i64 p.f2, .int .i64 p.f3, .int .i64 p.f4, .int .i64 p.f5, .string p.f6] 58 (0, 0)) (.cells #[.slice none 0 0, .slice none 0 0] 40 (0, 0))
    rwa [show (w.alloc (.cells #[.slice A0 L.length c0, .slice A1 n1 c1] 40 (0, 0))).heap.size + 1 = w.heap.size + 1 + 1 from by simp] at hn
  have H2 := Aside0.mk hb2
  have H4 := Aside0.mk hb4
  have HB2 := Aside0.mk hB2
  have HW := Aside0.mk hw2
  clear hb2 hb4 hB2 hw2
  rcases hcase with ⟨rfl, rfl⟩ | ⟨rfl, hl, rfl⟩
  · go_enter Try.func62, Try.ntmps62
    go_wp2_with (((with_reducible refine gate_dst (N := 9) rfl ?_); refine goesL_ (some 9) rfl rfl Try.func79 (by kernel_rfl) rfl #[.agg #[.int .i64 p.f0, .int .i64 p.f1, .int .i64 p.f2, .int .i64 p.f3, .int .i64 p.f4, .int .i64 p.f5, .string p.f6]] rfl (by first | (simp only [List.map_toArray, List.map_cons, List.map_nil]; rfl) | rfl) ?_; refine (caduceusref11_CheckPacket.calls p.f0 p.f1 p.f2 p.f3 p.f4 p.f5 p.f6 _ _ hk).mono ?_; rintro e w9 ⟨rfl, hb9⟩; rw [← HW.out] at hb9; have HB := Aside0.mk hb9; clear hb9; have X0 : w9.cell? ⟨w.heap.size, 0, none⟩ = some (.slice A0 L.length c0) := (blk_cell (keep_box H2.out HB.out) 0).trans rfl; have X1 : w9.cell? ⟨w.heap.size, 1, none⟩ = some (.slice A1 n1 c1) := (blk_cell (keep_box H2.out HB.out) 1).trans rfl; have Y0 : w9.cell? ⟨w.heap.size + 1 + 1, 0, none⟩ = some (.slice none 0 0) := (blk_cell (keep_box H4.out HB.out) 0).trans rfl; have Y1 : w9.cell? ⟨w.heap.size + 1 + 1, 1, none⟩ = some (.slice none 0 0) := (blk_cell (keep_box H4.out HB.out) 1).trans rfl; have g0 := blk_frozen (keep_box H4.out HB.out) 0; have g1 := blk_frozen (keep_box H4.out HB.out) 1; refine ⟨_, rfl, ?_⟩))
    have z1 := blk_set (blk_set (keep_box H4.out HB.out) 0 (.slice A0 L.length c0)) 1 (.slice A1 n1 c1)
    refine bodyPost_ret (results_ct rfl _ _ (w.heap.size + 1 + 1) 40 #[.slice A0 L.length c0, .slice A1 n1 c1] (0, 0) _ rfl z1 hu40 rfl info40s) rfl ?_
    exact ⟨rfl, below_cell (below_cell (HB2.out.trans (HB.out.mono HB2.out.size)) (by show w.heap.size ≤ w.heap.size + 1 + 1; omega) _) (by show w.heap.size ≤ w.heap.size + 1 + 1; omega) _⟩
  · have d1 : decide ((400 : Int) ≤ (L.length : Int)) = true := decide_eq_true (by omega)
    go_enter Try.func62, Try.ntmps62
    go_wp2_with (((with_reducible refine gate_dst (N := 9) rfl ?_); refine goesL_ (some 9) rfl rfl Try.func79 (by kernel_rfl) rfl #[.agg #[.int .i64 p.f0, .int .i64 p.f1, .int .i64 p.f2, .int .i64 p.f3, .int .i64 p.f4, .int .i64 p.f5, .string p.f6]] rfl (by first | (simp only [List.map_toArray, List.map_cons, List.map_nil]; rfl) | rfl) ?_; refine (caduceusref11_CheckPacket.calls p.f0 p.f1 p.f2 p.f3 p.f4 p.f5 p.f6 _ _ hk).mono ?_; rintro e w9 ⟨rfl, hb9⟩; rw [← HW.out] at hb9; have HB := Aside0.mk hb9; clear hb9; have X0 : w9.cell? ⟨w.heap.size, 0, none⟩ = some (.slice A0 L.length c0) := (blk_cell (keep_box H2.out HB.out) 0).trans rfl; have X1 : w9.cell? ⟨w.heap.size, 1, none⟩ = some (.slice A1 n1 c1) := (blk_cell (keep_box H2.out HB.out) 1).trans rfl; have Y0 : w9.cell? ⟨w.heap.size + 1 + 1, 0, none⟩ = some (.slice none 0 0) := (blk_cell (keep_box H4.out HB.out) 0).trans rfl; have Y1 : w9.cell? ⟨w.heap.size + 1 + 1, 1, none⟩ = some (.slice none 0 0) := (blk_cell (keep_box H4.out HB.out) 1).trans rfl; have g0 := blk_frozen (keep_box H4.out HB.out) 0; have g1 := blk_frozen (keep_box H4.out HB.out) 1; refine ⟨_, rfl, ?_⟩))
    have z1 := blk_set (blk_set (keep_box H4.out HB.out) 0 (.slice A0 L.length c0)) 1 (.slice A1 n1 c1)
    refine bodyPost_ret (results_ct rfl _ _ (w.heap.size + 1 + 1) 40 #[.slice A0 L.length c0, .slice A1 n1 c1] (0, 0) _ rfl z1 hu40 rfl info40s) rfl ?_
    exact ⟨rfl, below_cell (below_cell (HB2.out.trans (HB.out.mono HB2.out.size)) (by show w.heap.size ≤ w.heap.size + 1 + 1; omega) _) (by show w.heap.size ≤ w.heap.size + 1 + 1; omega) _⟩
set_option maxHeartbeats 1000000 in
theorem refSend_ok (L : List S58) (p : Pk) (hb : okP p = true) (hl : L.length < 400) (A0 : Option Addr) (c0 : Nat) (A1 : Option Addr) (n1 c1 : Nat) (w : World) (hC : Kd.C k58 w A0 L.length L) (hc : L.length ≤ c0) :
    Calls Try.prog 62 #[.agg #[.slice A0 L.length c0, .slice A1 n1 c1], .agg #[.int .i64 p.f0, .int .i64 p.f1, .int .i64 p.f2, .int .i64 p.f3, .int .i64 p.f4, .int .i64 p.f5, .string p.f6]] w fun e w' => ∃ v0, e = .returned (.tuple #[.agg #[v0, .slice A1 n1 c1], .int .i64 0]) ∧ Kd.R k58 58 w' w.heap.size (fun _ => True) v0 (L ++ [to58 p]) ∧ Below w.heap.size w w' := by
  have hu40 := Try.underlying40
  have hu58 := Try.underlying58
  have hk := check11_is p
  rw [hb] at hk
  obtain ⟨w2, hw2⟩ : ∃ w2, w2 = ((w.alloc (.cells #[.slice A0 L.length c0, .slice A1 n1 c1] 40 (0, 0))).alloc (.cells #[.int .i64 p.f0, .int .i64 p.f1, .int .i64 p.f2, .int .i64 p.f3, .int .i64 p.f4, .int .i64 p.f5, .string p.f6] 58 (0, 0))).alloc (.cells #[.slice none 0 0, .slice none 0 0] 40 (0, 0)) := ⟨_, rfl⟩
  have hB2 : Below w.heap.size w w2 := by rw [hw2]; exact below_alloc (below_alloc (below_alloc (Below.refl _ _) _) _) _
  have hb2 : w2.heap[w.heap.size]? = some (.cells #[.slice A0 L.length c0, .slice A1 n1 c1] 40 (0, 0)) := by rw [hw2]; exact blk_alloc (blk_alloc (blk_new w _) _) _
  have hb3 : w2.heap[w.heap.size + 1]? = some (.cells #[.int .i64 p.f0, .int .i64 p.f1, .int .i64 p.f2, .int .i64 p.f3, .int .i64 p.f4, .int .i64 p.f5, .string p.f6] 58 (0, 0)) := by rw [hw2]; exact blk_alloc (new1 _ _ _) _
  have hb4 : w2.heap[w.heap.size + 1 + 1]? = some (.cells #[.slice none 0 0, .slice none 0 0] 40 (0, 0)) := by
    rw [hw2]
    have hn := new1 (w.alloc (.cells #[.slice A0 L.length c0, .slice A1 n1 c1] 40 (0, 0))) (.cells #[.int .i64 p.f0, .int .i64 p.f1, .int .i64 p.f2, .int .i64 p.f3, .int .i64 p.f4, .int .i64 p.f5, .string p.f6] 58 (0, 0)) (.cells #[.slice none 0 0, .slice none 0 0] 40 (0, 0))
    rwa [show (w.alloc (.cells #[.slice A0 L.length c0, .slice A1 n1 c1] 40 (0, 0))).heap.size + 1 = w.heap.size + 1 + 1 from by simp] at hn
  have H2 := Aside0.mk hb2
  have H3 := Aside0.mk hb3
  have H4 := Aside0.mk hb4
  have HB2 := Aside0.mk hB2
  have HC := Aside0.mk hC
  have HW := Aside0.mk hw2
  clear hb2 hb3 hb4 hB2 hC hw2
  have d0 : decide ((400 : Int) ≤ (L.length : Int)) = false := decide_eq_false (by omega)
  go_enter Try.func62, Try.ntmps62
  go_wp2_with (((with_reducible refine gate_dst (N := 9) rfl ?_); refine goesL_ (some 9) rfl rfl Try.func79 (by kernel_rfl) rfl #[.agg #[.int .i64 p.f0, .int .i64 p.f1, .int .i64 p.f2, .int .i64 p.f3, .int .i64 p.f4, .int .i64 p.f5, .string p.f6]] rfl (by first | (simp only [List.map_toArray, List.map_cons, List.map_nil]; rfl) | rfl) ?_; refine (caduceusref11_CheckPacket.calls p.f0 p.f1 p.f2 p.f3 p.f4 p.f5 p.f6 _ _ hk).mono ?_; rintro e w9 ⟨rfl, hb9⟩; rw [← HW.out] at hb9; have HB9 := Aside0.mk hb9; clear hb9; have X0 : w9.cell? ⟨w.heap.size, 0, none⟩ = some (.slice A0 L.length c0) := (blk_cell (keep_box H2.out HB9.out) 0).trans rfl; refine ⟨_, rfl, ?_⟩))
  clear X0
  go_loopg [6, 7] L.length (fun kq v5 v6 w' => ∃ i : Nat, v6 = .int .i64 i ∧ Aside0 (Kd.R k58 58 w' w2.heap.size (fun _ => True) v5 (L.take i)) ∧ Aside0 (i + kq = L.length) ∧ Aside0 (Below w2.heap.size w2 w'))
  case atStart => exact ⟨0, rfl, ⟨Kd.R_nil _ _ _ _ _⟩, ⟨by omega⟩, HB9⟩
  case round =>
    obtain ⟨i, rfl, HO, HK, HB⟩ := hrel
    obtain ⟨A5, c5, rfl⟩ := Kd.R_slice HO.out
    have X0 : wr.cell? ⟨w.heap.size, 0, none⟩ = some (.slice A0 L.length c0) := (blk_cell (keep_box H2.out HB.out) 0).trans rfl
    cases gk with
    | zero =>
      have e : i = L.length := by have := HK.out; omega
      subst e
      have d1 : decide ((L.length : Int) < (L.length : Int)) = false := decide_eq_false (by omega)
      have Z0 : wr.cell? ⟨w.heap.size + 1, 0, none⟩ = some (.int .i64 p.f0) := (blk_cell (keep_box H3.out HB.out) 0).trans rfl
      have Z1 : wr.cell? ⟨w.heap.size + 1, 1, none⟩ = some (.int .i64 p.f1) := (blk_cell (keep_box H3.out HB.out) 1).trans rfl
      have Z2 : wr.cell? ⟨w.heap.size + 1, 2, none⟩ = some (.int .i64 p.f2) := (blk_cell (keep_box H3.out HB.out) 2).trans rfl
      have Z3 : wr.cell? ⟨w.heap.size + 1, 3, none⟩ = some (.int .i64 p.f3) := (blk_cell (keep_box H3.out HB.out) 3).trans rfl
      have Z4 : wr.cell? ⟨w.heap.size + 1, 4, none⟩ = some (.int .i64 p.f4) := (blk_cell (keep_box H3.out HB.out) 4).trans rfl
      have Z5 : wr.cell? ⟨w.heap.size + 1, 5, none⟩ = some (.int .i64 p.f5) := (blk_cell (keep_box H3.out HB.out) 5).trans rfl
      have Z6 : wr.cell? ⟨w.heap.size + 1, 6, none⟩ = some (.string p.f6) := (blk_cell (keep_box H3.out HB.out) 6).trans rfl
      have hlen : (L.take L.length).length = L.length := by rw [List.take_length]
      go_wp2_with ((with_reducible refine gate_builtin (b := .append) (xs := #[.tmp 32, .tmp 34]) rfl ?_); at_builtin; refine Kd.R_append k58 (w0 := w2) w2.heap.size rfl (.tmp 32) (.tmp 34) 37 58 _ 64 rfl Try.underlying37 info58 rfl (by decide) (by omega) _ _ (to58 p) _ (fun _ => True) (fun _ => False) rfl rfl (k58_mkM _ _ _ (to58 p)) (fun _ hk => hk.elim) (fun _ _ => trivial) HO.out HB.out HB.out.size (by rw [List.take_length]; omega) ?_; intro v1 w1 h1 h2 h3 h4; obtain ⟨A6, c6, rfl⟩ := Kd.R_slice h1; have HV1 := Aside0.mk h1; have HB1 := Aside0.mk h2; clear h1 h2 h3 h4; clear X0; have X0 : w1.cell? ⟨w.heap.size, 0, none⟩ = some (.slice A0 L.length c0) := (blk_cell (keep_box H2.out HB1.out) 0).trans rfl; have X1 : w1.cell? ⟨w.heap.size, 1, none⟩ = some (.slice A1 n1 c1) := (blk_cell (keep_box H2.out HB1.out) 1).trans rfl; have f0 := blk_frozen (keep_box H2.out HB1.out) 0; have Y0 : w1.cell? ⟨w.heap.size + 1 + 1, 0, none⟩ = some (.slice none 0 0) := (blk_cell (keep_box H4.out HB1.out) 0).trans rfl; have Y1 : w1.cell? ⟨w.heap.size + 1 + 1, 1, none⟩ = some (.slice none 0 0) := (blk_cell (keep_box H4.out HB1.out) 1).trans rfl; have g0 := blk_frozen (keep_box H4.out HB1.out) 0; have g1 := blk_frozen (keep_box H4.out HB1.out) 1)
      have hv : Kd.R k58 58 w1 w.heap.size (fun _ => True) (.slice A6 (L.length + 1) c6) (L ++ [to58 p]) := by
        have h := HV1.out
        rw [List.take_length] at h
        simp only [List.length_append, List.length_singleton] at h
        exact Kd.R_lower h HB2.out.size
      obtain ⟨z1, hR, hB⟩ := ret40g (w := w) (wr := w1) (b2 := w.heap.size) (b4 := w.heap.size + 1 + 1) (v := .slice A6 (L.length + 1) c6) (v1 := .slice A1 n1 c1) (by omega) (by omega) (by omega) (keep_box H2.out HB1.out) (keep_box H4.out HB1.out) hv (HB2.out.trans (HB1.out.mono HB2.out.size))
      refine bodyPost_ret (results_ct rfl _ _ (w.heap.size + 1 + 1) 40 #[.slice A6 (L.length + 1) c6, .slice A1 n1 c1] (0, 0) _ rfl z1 hu40 rfl info40s) rfl ?_
      exact ⟨_, rfl, hR, hB⟩
    | succ k1 =>
      have hi : i < L.length := by have := HK.out; omega
      have d1 : decide ((i : Int) < (L.length : Int)) = true := decide_eq_true (by omega)
      have i0 : (0 : Int) ≤ (i : Int) := by omega
      have i1 : (i : Int) < (L.length : Int) := by omega
      obtain ⟨ad, hA, e0, e1, e2, e3, e4, e5, e6⟩ := at_T58 (Kd.C_below (Kd.C_below HC.out HB2.out) HB.out) (i : Int) i0 i1
      subst hA
      simp only [Int.toNat_natCast] at e0 e1 e2 e3 e4 e5 e6
      have HS := Aside0.mk (show L.take (i + 1) = L.take i ++ [rd_T58 L i] by
        rw [List.take_succ_eq_append_getElem hi]
        congr 2
        unfold rd_T58
        rw [Int.toNat_natCast, List.getD_eq_getElem?_getD, List.getElem?_eq_getElem hi]
        rfl)
      have hlen : (L.take i).length = i := by rw [List.length_take]; omega
      have HLen := Aside0.mk hlen
      clear hlen
      go_wp2_with ((with_reducible refine gate_builtin (b := .append) (xs := #[.tmp 24, .tmp 30]) rfl ?_); at_builtin; refine Kd.R_append k58 (w0 := w2) w2.heap.size rfl (.tmp 24) (.tmp 30) 37 58 _ 64 rfl Try.underlying37 info58 rfl (by decide) (by omega) _ _ (rd_T58 L i) _ (fun _ => True) (fun _ => False) rfl rfl (k58_mkM _ _ _ (rd_T58 L i)) (fun _ hk => hk.elim) (fun _ _ => trivial) HO.out HB.out HB.out.size (by rw [HLen.out]; omega) ?_; intro v1 w1 h1 h2 h3 h4; have HV1 := Aside0.mk h1; have HB1 := Aside0.mk h2; clear h1 h2 h3 h4)
      go_roundg k1
      case measure => omega
      case rel => exact ⟨i + 1, by first | rfl | simp, by rw [HS.out]; exact HV1, ⟨by have := HK.out; omega⟩, HB1⟩
end Go.Proofs.Ytdibaeomepallaa.NW
/- The document's Is and there of layer 12, by hand. -/
namespace Go.Proofs.Ytdibaeomepallaa.NW
open Go.RowKit Go.Proofs.YtdibaeomepallaaW.PrintWords Go.Proofs.YtdibaeomepallaaW.PrintLast Go.Proofs.YtdibaeomepallaaW.PrintMore Go.Proofs.Ytdibaeomepallaa.PAll
set_option linter.unusedVariables false
set_option linter.unusedSimpArgs false
set_option maxRecDepth 100000
theorem info52s : (Try.prog.info? 52).map (·.size) = some 2 := by kernel_rfl
theorem refIs_is (a b : Int) (w : World) : Calls Try.prog 27 #[.agg #[.int .i64 a, .int .i64 b]] w fun e w' => e = .returned (.bool (hopB a b)) ∧ Below w.heap.size w w' := by
  have hu52 := Try.underlying52
  have hB := below_alloc (Below.refl w.heap.size w) (Obj.cells #[Value.int IntKind.i64 a, Value.int IntKind.i64 b] 52)
  by_cases h1 : 1 ≤ a
  · have d1 : decide (1 ≤ a) = true := decide_eq_true h1
    by_cases h2 : a ≤ 15
    · have d2 : decide (a ≤ 15) = true := decide_eq_true h2
      by_cases h3 : 1 ≤ b
      · have d3 : decide (1 ≤ b) = true := decide_eq_true h3
        by_cases h4 : b ≤ 15
        · have d4 : decide (b ≤ 15) = true := decide_eq_true h4
          by_cases h5 : a = b
          · have e : hopB a b = false := by unfold hopB; simp [h5]
            subst h5
            rw [e]
            have d5 : (a != a) = false := by simp
            go_enter Try.func27, Try.ntmps27
            go_wp2
            go_ret
            exact ⟨by first | rfl | simp, hB⟩
          · have e : hopB a b = true := by unfold hopB; simp [h1, h2, h3, h4, h5]
            rw [e]
            have d5 : (a != b) = true := bne_iff_ne.mpr h5
            clear e
            go_enter Try.func27, Try.ntmps27
            go_wp2
            go_ret
            exact ⟨by first | rfl | simp, hB⟩
        · have d4 : decide (b ≤ 15) = false := decide_eq_false h4
          have e : hopB a b = false := by unfold hopB; simp [h4]
          rw [e]
          clear e
          go_enter Try.func27, Try.ntmps27
          go_wp2
          go_ret
          exact ⟨by first | rfl | simp, hB⟩
      · have d3 : decide (1 ≤ b) = false := decide_eq_false h3
        have e : hopB a b = false := by unfold hopB; simp [h3]
        rw [e]
        clear e
        go_enter Try.func27, Try.ntmps27
        go_wp2
        go_ret
        exact ⟨by first | rfl | simp, hB⟩
    · have d2 : decide (a ≤ 15) = false := decide_eq_false h2
      have e : hopB a b = false := by unfold hopB; simp [h2]
      rw [e]
      clear e
      go_enter Try.func27, Try.ntmps27
      go_wp2
      go_ret
      exact ⟨by first | rfl | simp, hB⟩
  · have d1 : decide (1 ≤ a) = false := decide_eq_false h1
    have e : hopB a b = false := by unfold hopB; simp [h1]
    rw [e]
    clear e
    go_enter Try.func27, Try.ntmps27
    go_wp2
    go_ret
    exact ⟨by first | rfl | simp, hB⟩
/-- The document's net, as a value: its two rows. -/
abbrev n40 (A0 : Option Addr) (n0 c0 : Nat) (A1 : Option Addr) (n1 c1 : Nat) : Array Value := #[.slice A0 n0 c0, .slice A1 n1 c1]
theorem places_calls (L : List Pk) (A : List S52) (a b : Int) (A0 : Option Addr) (c0 : Nat) (A1 : Option Addr) (c1 : Nat) (w : World) (hC0 : Kd.C k58 w A0 L.length (L.map to58)) (hc0 : L.length ≤ c0) (hC1 : Kd.C k52 w A1 A.length A) (hc1 : A.length ≤ c1) (hL : L.length ≤ 1000) :
    Calls Try.prog 26 #[.agg #[.slice A0 L.length c0, .slice A1 A.length c1], .agg #[.int .i64 a, .int .i64 b]] w fun e w' => ∃ B c, e = .returned (.slice B (places L a b).length c) ∧ Kd.R (Kd.int .i64) 3 w' w.heap.size (fun _ => True) (.slice B (places L a b).length c) ((places L a b).map (fun n : Nat => (n : Int))) ∧ Below w.heap.size w w' := by
  have key := (caduceusref12_Net_Places.calls 1001 A0 c0 (L.map to58) A1 c1 A a b _ w (by rw [List.length_map]; exact hC0) (by rw [List.length_map]; exact hc0) hC1 hc1 (places_f L A a b hL 1001 (Nat.le_refl _)))
  rw [List.length_map] at key
  refine key.mono ?_
  rintro e w' ⟨v, rfl, hR, hB⟩
  obtain ⟨B, c, rfl⟩ := Kd.R_slice hR
  rw [List.length_map] at hR ⊢
  exact ⟨B, c, rfl, hR, hB⟩
set_option maxHeartbeats 1000000 in
theorem refThere_is (L : List Pk) (A : List S52) (a b i : Int) (A0 : Option Addr) (c0 : Nat) (A1 : Option Addr) (c1 : Nat) (w : World) (hC0 : Kd.C k58 w A0 L.length (L.map to58)) (hc0 : L.length ≤ c0) (hC1 : Kd.C k52 w A1 A.length A) (hc1 : A.length ≤ c1) (hL : L.length ≤ 1000) :
    Calls Try.prog 84 #[.agg #[.slice A0 L.length c0, .slice A1 A.length c1], .agg #[.int .i64 a, .int .i64 b], .int .i64 i] w fun e w' => e = .returned (.int .i64 (thereL L a b i)) ∧ Below w.heap.size w w' := by
  have hu52 := Try.underlying52
  have hu40 := Try.underlying40
  obtain ⟨w2, hw2⟩ : ∃ w2, w2 = (w.alloc (.cells #[.slice A0 L.length c0, .slice A1 A.length c1] 40 (0, 0))).alloc (.cells #[.int .i64 a, .int .i64 b] 52 (0, 0)) := ⟨_, rfl⟩
  have hB2 : Below w.heap.size w w2 := by rw [hw2]; exact below_alloc (below_alloc (Below.refl _ _) _) _
  have hb3 : w2.heap[w.heap.size]? = some (.cells #[.slice A0 L.length c0, .slice A1 A.length c1] 40 (0, 0)) := by rw [hw2]; exact blk_alloc (blk_new w _) _
  have hb4 : w2.heap[w.heap.size + 1]? = some (.cells #[.int .i64 a, .int .i64 b] 52 (0, 0)) := by rw [hw2]; exact new1 _ _ _
  have HW := Aside0.mk hw2
  have H3 := Aside0.mk hb3
  have H4 := Aside0.mk hb4
  have HB2 := Aside0.mk hB2
  have HC0 := Aside0.mk (Kd.C_below hC0 hB2)
  have HC1 := Aside0.mk (Kd.C_below hC1 hB2)
  have HP := places_len (hopP a b) L 0
  clear hw2 hb3 hb4 hB2 hC0 hC1
  unfold thereL
  cases hb : hopB a b with
  | false =>
    rw [if_neg (by decide)]
    go_enter Try.func84, Try.ntmps84
    go_wp2_with (((with_reducible refine gate_dst (N := 8) rfl ?_); refine goesL_ (some 8) rfl rfl Try.func27 (by kernel_rfl) rfl #[.agg #[.int .i64 a, .int .i64 b]] rfl (by first | (simp only [List.map_toArray, List.map_cons, List.map_nil]; rfl) | rfl) ?_; refine (refIs_is a b _).mono ?_; rintro e w8 ⟨rfl, hb8⟩; rw [← HW.out] at hb8; rw [hb]; refine ⟨_, rfl, ?_⟩))
    go_ret
    exact ⟨rfl, HB2.out.trans (hb8.mono HB2.out.size)⟩
  | true =>
    rw [if_pos rfl]
    by_cases hi : i < 0
    · have di : decide (i < 0) = true := decide_eq_true hi
      rw [if_pos (.inl hi)]
      go_enter Try.func84, Try.ntmps84
      go_wp2_with (((with_reducible refine gate_dst (N := 8) rfl ?_); refine goesL_ (some 8) rfl rfl Try.func27 (by kernel_rfl) rfl #[.agg #[.int .i64 a, .int .i64 b]] rfl (by first | (simp only [List.map_toArray, List.map_cons, List.map_nil]; rfl) | rfl) ?_; refine (refIs_is a b _).mono ?_; rintro e w8 ⟨rfl, hb8⟩; rw [← HW.out] at hb8; rw [hb]; refine ⟨_, rfl, ?_⟩))
      go_ret
      exact ⟨rfl, HB2.out.trans (hb8.mono HB2.out.size)⟩
    · have di : decide (i < 0) = false := decide_eq_false hi
      by_cases hl : ((L.filter (hopP a b)).length : Int) ≤ i
      · rw [if_pos (.inr hl)]
        have dl : decide (((places L a b).length : Int) ≤ i) = true := decide_eq_true (by unfold places; rw [HP]; exact hl)
        clear HP hl
        go_enter Try.func84, Try.ntmps84
        go_wp2_with (first
          | ((with_reducible refine gate_dst (N := 8) rfl ?_); refine goesL_ (some 8) rfl rfl Try.func27 (by kernel_rfl) rfl #[.agg #[.int .i64 a, .int .i64 b]] rfl (by first | (simp only [List.map_toArray, List.map_cons, List.map_nil]; rfl) | rfl) ?_; refine (refIs_is a b _).mono ?_; rintro e w8 ⟨rfl, hb8⟩; rw [← HW.out] at hb8; rw [hb]; refine ⟨_, rfl, ?_⟩)
          | ((with_reducible refine gate_dst (N := 14) rfl ?_); refine gate_guard (by rfl) ?_; dsimp only; refine wpList_load_row rfl 40 (.tmp 3) rfl w.heap.size rfl 40 _ (0, 0) _ (keep_box H3.out hb8) Try.underlying40 rfl info40s ?_)
          | ((with_reducible refine gate_dst (N := 15) rfl ?_); refine gate_guard (by rfl) ?_; dsimp only; refine wpList_load_row rfl 52 (.tmp 4) rfl (w.heap.size + 1) rfl 52 _ (0, 0) _ (keep_box H4.out hb8) Try.underlying52 rfl info52s ?_)
          | ((with_reducible refine gate_dst (N := 16) rfl ?_); refine gate_guard (by rfl) ?_; dsimp only; refine goesL_ (some 16) rfl rfl Try.func26 (by kernel_rfl) rfl #[.agg #[.slice A0 L.length c0, .slice A1 A.length c1], .agg #[.int .i64 a, .int .i64 b]] rfl (by first | (simp only [List.map_toArray, List.map_cons, List.map_nil]; rfl) | rfl) ?_; refine (places_calls L A a b A0 c0 A1 c1 _ (Kd.C_below HC0.out hb8) hc0 (Kd.C_below HC1.out hb8) hc1 hL).mono ?_; rintro e w16 ⟨B, c, rfl, hR, hb16⟩; refine ⟨_, rfl, ?_⟩))
        go_ret
        exact ⟨rfl, (HB2.out.trans (hb8.mono HB2.out.size)).trans (hb16.mono (Nat.le_trans HB2.out.size hb8.size))⟩
      · rw [if_neg (fun e => e.elim hi hl)]
        have dl : decide (((places L a b).length : Int) ≤ i) = false := decide_eq_false (by unfold places; rw [HP]; exact hl)
        clear HP hl
        go_enter Try.func84, Try.ntmps84
        go_wp2_with (first
          | ((with_reducible refine gate_dst (N := 8) rfl ?_); refine goesL_ (some 8) rfl rfl Try.func27 (by kernel_rfl) rfl #[.agg #[.int .i64 a, .int .i64 b]] rfl (by first | (simp only [List.map_toArray, List.map_cons, List.map_nil]; rfl) | rfl) ?_; refine (refIs_is a b _).mono ?_; rintro e w8 ⟨rfl, hb8⟩; rw [← HW.out] at hb8; rw [hb]; refine ⟨_, rfl, ?_⟩)
          | ((with_reducible refine gate_dst (N := 14) rfl ?_); refine gate_guard (by rfl) ?_; dsimp only; refine wpList_load_row rfl 40 (.tmp 3) rfl w.heap.size rfl 40 _ (0, 0) _ (keep_box H3.out hb8) Try.underlying40 rfl info40s ?_)
          | ((with_reducible refine gate_dst (N := 15) rfl ?_); refine gate_guard (by rfl) ?_; dsimp only; refine wpList_load_row rfl 52 (.tmp 4) rfl (w.heap.size + 1) rfl 52 _ (0, 0) _ (keep_box H4.out hb8) Try.underlying52 rfl info52s ?_)
          | ((with_reducible refine gate_dst (N := 16) rfl ?_); refine gate_guard (by rfl) ?_; dsimp only; refine goesL_ (some 16) rfl rfl Try.func26 (by kernel_rfl) rfl #[.agg #[.slice A0 L.length c0, .slice A1 A.length c1], .agg #[.int .i64 a, .int .i64 b]] rfl (by first | (simp only [List.map_toArray, List.map_cons, List.map_nil]; rfl) | rfl) ?_; refine (places_calls L A a b A0 c0 A1 c1 _ (Kd.C_below HC0.out hb8) hc0 (Kd.C_below HC1.out hb8) hc1 hL).mono ?_; rintro e w16 ⟨B, c, rfl, hR, hb16⟩; refine ⟨_, rfl, ?_⟩))
        go_ret
        exact ⟨rfl, (HB2.out.trans (hb8.mono HB2.out.size)).trans (hb16.mono (Nat.le_trans HB2.out.size hb8.size))⟩
end Go.Proofs.Ytdibaeomepallaa.NW
/- The document's Take of layer 12, by hand. -/
namespace Go.Proofs.Ytdibaeomepallaa.NW
open Go.RowKit Go.Proofs.YtdibaeomepallaaW.PrintWords Go.Proofs.YtdibaeomepallaaW.PrintLast Go.Proofs.YtdibaeomepallaaW.PrintMore Go.Proofs.Ytdibaeomepallaa.PAll
set_option linter.unusedVariables false
set_option linter.unusedSimpArgs false
set_option maxRecDepth 100000
theorem info123s : (Try.prog.info? 123).map (·.size) = some 10 := by kernel_rfl
/-- What Take's boxes are, and that they stay. -/
theorem boxes3 (w : World) (o1 o2 o3 : Obj) : ∃ w2, w2 = ((w.alloc o1).alloc o2).alloc o3 ∧ Below w.heap.size w w2 ∧ w2.heap[w.heap.size]? = some o1 ∧ w2.heap[w.heap.size + 1]? = some o2 ∧ w2.heap[w.heap.size + 1 + 1]? = some o3 := by
  refine ⟨_, rfl, below_alloc (below_alloc (below_alloc (Below.refl _ _) _) _) _, blk_alloc (blk_alloc (blk_new w _) _) _, blk_alloc (new1 _ _ _) _, ?_⟩
  have hn := new1 (w.alloc o1) o2 o3
  rwa [show (w.alloc o1).heap.size + 1 = w.heap.size + 1 + 1 from by simp] at hn
theorem storeRow_ {P : Program} {ops : Array Oper} {oi : Oper} {a : Act} {w : World} {K : Act → World → Prop} {Q : Exit → Act → World → Prop} (hw : Region.wanted oi (yielded ops a.tmps) = true) (ty : TypeId) (x y : Operand) (ho : oi.op = .store ty x y) (hN : oi.dst = none)
    (g : Nat) (cells : Array Value) (hx : a.eval x = .pointer (some ⟨g, 0, none⟩)) (hy : a.eval y = .agg cells) (t : TypeId) (old : Array Value) (hg : w.heap[g]? = some (.cells old t (0, 0))) (hi : (P.info? ty).map (·.size) = some cells.size)
    (hold : old.size = cells.size) (h1 : cells.all (·.oneCell') = true) (h : K a (w.setRow g cells)) : if Region.wanted oi (yielded ops a.tmps) = true then Oper.wp P oi a w K Q else K (a.put none undef) w := by
  rw [if_pos hw]
  exact wp_store_row ty x y ho g cells hx hy t old hg hi hold h1 (by rw [hN]; exact h)
theorem rd_places {l : List Nat} {n at_ : Nat} (h : l[n]? = some at_) : rd (l.map (fun n : Nat => (n : Int))) (n : Int) = (at_ : Int) := by
  unfold rd
  rw [Int.toNat_natCast, List.getD_eq_getElem?_getD, List.getElem?_map, h]
  rfl
section
variable (L : List Pk) (A : List S52) (a b i : Int) (A0 : Option Addr) (c0 : Nat) (A1 : Option Addr) (c1 : Nat) (w : World)
set_option maxHeartbeats 1000000 in
theorem refTake_no (e0 : Int) (ht : thereL L a b i = e0) (he : e0 ≠ 0) (hC0 : Kd.C k58 w A0 L.length (L.map to58)) (hc0 : L.length ≤ c0) (hC1 : Kd.C k52 w A1 A.length A) (hc1 : A.length ≤ c1) (hL : L.length ≤ 1000) :
    Calls Try.prog 63 #[.agg #[.slice A0 L.length c0, .slice A1 A.length c1], .agg #[.int .i64 a, .int .i64 b], .int .i64 i] w fun e w' => e = .returned (.agg #[.slice A0 L.length c0, .slice A1 A.length c1, .int .i64 0, .int .i64 0, .int .i64 0, .int .i64 0, .int .i64 0, .int .i64 0, .string ⟨#[]⟩, .int .i64 e0]) ∧ Below w.heap.size w w' := by
  have hu52 := Try.underlying52
  have hu40 := Try.underlying40
  have hu123 := Try.underlying123
  obtain ⟨w2, hw2, hB2, hb3, hb4, hb6⟩ := boxes3 w (.cells #[.slice A0 L.length c0, .slice A1 A.length c1] 40 (0, 0)) (.cells #[.int .i64 a, .int .i64 b] 52 (0, 0)) (.cells #[.slice none 0 0, .slice none 0 0, .int .i64 0, .int .i64 0, .int .i64 0, .int .i64 0, .int .i64 0, .int .i64 0, .string ⟨#[]⟩, .int .i64 0] 123 (0, 0))
  have HW := Aside0.mk hw2
  have H3 := Aside0.mk hb3
  have H6 := Aside0.mk hb6
  have HB2 := Aside0.mk hB2
  have HC0 := Aside0.mk (Kd.C_below hC0 hB2)
  have HC1 := Aside0.mk (Kd.C_below hC1 hB2)
  have HT := Aside0.mk ht
  clear hw2 hb3 hb4 hb6 hB2 hC0 hC1 ht
  have hd : (e0 != 0) = true := bne_iff_ne.mpr he
  go_enter Try.func63, Try.ntmps63
  go_wp2_with (first
    | ((with_reducible refine gate_dst (N := 12) rfl ?_); refine goesL_ (some 12) rfl rfl Try.func84 (by kernel_rfl) rfl #[.agg #[.slice A0 L.length c0, .slice A1 A.length c1], .agg #[.int .i64 a, .int .i64 b], .int .i64 i] rfl (by first | (simp only [List.map_toArray, List.map_cons, List.map_nil]; rfl) | rfl) ?_; refine (refThere_is L A a b i A0 c0 A1 c1 _ (by rw [← HW.out]; exact HC0.out) hc0 (by rw [← HW.out]; exact HC1.out) hc1 hL).mono ?_; rintro e w12 ⟨rfl, hb12⟩; rw [← HW.out] at hb12; rw [HT.out]; have HB := Aside0.mk hb12; clear hb12; refine ⟨_, rfl, ?_⟩)
    | ((with_reducible refine gate_dst (N := 15) rfl ?_); refine wpList_load_row rfl 40 (.tmp 3) rfl w.heap.size rfl 40 _ (0, 0) _ (keep_box H3.out HB.out) Try.underlying40 rfl info40s ?_)
    | ((with_reducible refine gate_store (t := 123) (p := 6) rfl ?_); refine wpList_store_row rfl 123 (.tmp 6) (.tmp 17) rfl (w.heap.size + 1 + 1) #[.slice A0 L.length c0, .slice A1 A.length c1, .int .i64 0, .int .i64 0, .int .i64 0, .int .i64 0, .int .i64 0, .int .i64 0, .string ⟨#[]⟩, .int .i64 e0] rfl rfl 123 _ (keep_box H6.out HB.out) info123s rfl (by rw [List.all_toArray]; rfl) ?_))
  refine bodyPost_ret (results_cell_row rfl _ _ (w.heap.size + 1 + 1) 123 #[.slice A0 L.length c0, .slice A1 A.length c1, .int .i64 0, .int .i64 0, .int .i64 0, .int .i64 0, .int .i64 0, .int .i64 0, .string ⟨#[]⟩, .int .i64 e0] (0, 0) _ rfl (setRow_heap _ _ _ _ _ _ (keep_box H6.out HB.out)) hu123 rfl info123s) rfl ?_
  exact ⟨rfl, below_setRow (HB2.out.trans (HB.out.mono HB2.out.size)) (by omega) _⟩
theorem cut_calls (hC0 : Kd.C k58 w A0 L.length (L.map to58)) (hc0 : L.length ≤ c0) (hC1 : Kd.C k52 w A1 A.length A) (hc1 : A.length ≤ c1) (hA : A.length ≤ 1000) :
    Calls Try.prog 30 #[.agg #[.slice A0 L.length c0, .slice A1 A.length c1], .agg #[.int .i64 a, .int .i64 b]] w fun e w' => e = .returned (.bool (cutL A a b)) ∧ Below w.heap.size w w' := by
  have key := caduceusref12_Net_Cut.calls 1001 A0 c0 (L.map to58) A1 c1 A a b _ w (by rw [List.length_map]; exact hC0) (by rw [List.length_map]; exact hc0) hC1 hc1 (cut_f (L.map to58) A a b hA 1001 (Nat.le_refl _))
  rw [List.length_map] at key
  exact key
set_option maxHeartbeats 1000000 in
theorem refTake_cut (ht : thereL L a b i = 0) (hcut : cutL A a b = true) (hC0 : Kd.C k58 w A0 L.length (L.map to58)) (hc0 : L.length ≤ c0) (hC1 : Kd.C k52 w A1 A.length A) (hc1 : A.length ≤ c1) (hL : L.length ≤ 1000) (hA : A.length ≤ 1000) :
    Calls Try.prog 63 #[.agg #[.slice A0 L.length c0, .slice A1 A.length c1], .agg #[.int .i64 a, .int .i64 b], .int .i64 i] w fun e w' => e = .returned (.agg #[.slice A0 L.length c0, .slice A1 A.length c1, .int .i64 0, .int .i64 0, .int .i64 0, .int .i64 0, .int .i64 0, .int .i64 0, .string ⟨#[]⟩, .int .i64 12]) ∧ Below w.heap.size w w' := by
  have hu52 := Try.underlying52
  have hu40 := Try.underlying40
  have hu58 := Try.underlying58
  have hu123 := Try.underlying123
  obtain ⟨w2, hw2, hB2, hb3, hb4, hb6⟩ := boxes3 w (.cells #[.slice A0 L.length c0, .slice A1 A.length c1] 40 (0, 0)) (.cells #[.int .i64 a, .int .i64 b] 52 (0, 0)) (.cells #[.slice none 0 0, .slice none 0 0, .int .i64 0, .int .i64 0, .int .i64 0, .int .i64 0, .int .i64 0, .int .i64 0, .string ⟨#[]⟩, .int .i64 0] 123 (0, 0))
  have HW := Aside0.mk hw2
  have H3 := Aside0.mk hb3
  have H4 := Aside0.mk hb4
  have H6 := Aside0.mk hb6
  have HB2 := Aside0.mk hB2
  have HC0 := Aside0.mk (Kd.C_below hC0 hB2)
  have HC1 := Aside0.mk (Kd.C_below hC1 hB2)
  have HT := Aside0.mk ht
  have HCut := Aside0.mk hcut
  clear hw2 hb3 hb4 hb6 hB2 hC0 hC1 ht hcut
  go_enter Try.func63, Try.ntmps63
  go_wp2_with (first
    | ((with_reducible refine gate_dst (N := 12) rfl ?_); refine goesL_ (some 12) rfl rfl Try.func84 (by kernel_rfl) rfl #[.agg #[.slice A0 L.length c0, .slice A1 A.length c1], .agg #[.int .i64 a, .int .i64 b], .int .i64 i] rfl (by first | (simp only [List.map_toArray, List.map_cons, List.map_nil]; rfl) | rfl) ?_; refine (refThere_is L A a b i A0 c0 A1 c1 _ (by rw [← HW.out]; exact HC0.out) hc0 (by rw [← HW.out]; exact HC1.out) hc1 hL).mono ?_; rintro e w12 ⟨rfl, hb12⟩; rw [← HW.out] at hb12; rw [HT.out]; have HB := Aside0.mk hb12; clear hb12; refine ⟨_, rfl, ?_⟩)
    | ((with_reducible refine gate_dst (N := 18) rfl ?_); refine wpList_load_row rfl 40 (.tmp 3) rfl w.heap.size rfl 40 _ (0, 0) _ (keep_box H3.out HB.out) Try.underlying40 rfl info40s ?_)
    | ((with_reducible refine gate_dst (N := 19) rfl ?_); refine wpList_load_row rfl 52 (.tmp 4) rfl (w.heap.size + 1) rfl 52 _ (0, 0) _ (keep_box H4.out HB.out) Try.underlying52 rfl info52s ?_)
    | ((with_reducible refine gate_dst (N := 20) rfl ?_); refine goesL_ (some 20) rfl rfl Try.func30 (by kernel_rfl) rfl #[.agg #[.slice A0 L.length c0, .slice A1 A.length c1], .agg #[.int .i64 a, .int .i64 b]] rfl (by first | (simp only [List.map_toArray, List.map_cons, List.map_nil]; rfl) | rfl) ?_; refine (cut_calls L A a b A0 c0 A1 c1 _ (Kd.C_below HC0.out HB.out) hc0 (Kd.C_below HC1.out HB.out) hc1 hA).mono ?_; rintro e w20 ⟨rfl, hb20⟩; rw [HCut.out]; have HB_ := Aside0.mk (HB.out.trans (hb20.mono HB.out.size)); clear HB; have HB := HB_; clear HB_; clear hb20; refine ⟨_, rfl, ?_⟩)
    | ((with_reducible refine gate_dst (N := 21) rfl ?_); refine wpList_load_row rfl 40 (.tmp 3) rfl w.heap.size rfl 40 _ (0, 0) _ (keep_box H3.out HB.out) Try.underlying40 rfl info40s ?_)
    | ((with_reducible refine gate_store (t := 123) (p := 6) rfl ?_); refine wpList_store_row rfl 123 (.tmp 6) (.tmp 22) rfl (w.heap.size + 1 + 1) #[.slice A0 L.length c0, .slice A1 A.length c1, .int .i64 0, .int .i64 0, .int .i64 0, .int .i64 0, .int .i64 0, .int .i64 0, .string ⟨#[]⟩, .int .i64 12] rfl rfl 123 _ (keep_box H6.out HB.out) info123s rfl (by rw [List.all_toArray]; rfl) ?_))
  refine bodyPost_ret (results_cell_row rfl _ _ (w.heap.size + 1 + 1) 123 #[.slice A0 L.length c0, .slice A1 A.length c1, .int .i64 0, .int .i64 0, .int .i64 0, .int .i64 0, .int .i64 0, .int .i64 0, .string ⟨#[]⟩, .int .i64 12] (0, 0) _ rfl (setRow_heap _ _ _ _ _ _ (keep_box H6.out HB.out)) hu123 rfl info123s) rfl ?_
  exact ⟨rfl, below_setRow (HB2.out.trans (HB.out.mono HB2.out.size)) (by omega) _⟩
set_option maxHeartbeats 2000000 in
theorem refTake_ok (n at_ : Nat) (p : Pk) (hi : i = (n : Int)) (ht : thereL L a b i = 0) (hcut : cutL A a b = false) (hpl : (places L a b)[n]? = some at_) (hp : L[at_]? = some p) (hC0 : Kd.C k58 w A0 L.length (L.map to58)) (hc0 : L.length ≤ c0) (hC1 : Kd.C k52 w A1 A.length A) (hc1 : A.length ≤ c1) (hL : L.length ≤ 1000) (hA : A.length ≤ 1000) :
    Calls Try.prog 63 #[.agg #[.slice A0 L.length c0, .slice A1 A.length c1], .agg #[.int .i64 a, .int .i64 b], .int .i64 i] w fun e w' => ∃ v0, e = .returned (.agg #[v0, .slice A1 A.length c1, .int .i64 p.f0, .int .i64 p.f1, .int .i64 p.f2, .int .i64 p.f3, .int .i64 p.f4, .int .i64 p.f5, .string p.f6, .int .i64 0]) ∧ Kd.R k58 58 w' w.heap.size (fun _ => True) v0 (woTo (L.map to58) at_ L.length) ∧ Below w.heap.size w w' := by
  subst hi
  have hnl := (List.getElem?_eq_some_iff.1 hpl).1
  have hal := (List.getElem?_eq_some_iff.1 hp).1
  have hpll : (places L a b).length ≤ L.length := by
    unfold places
    rw [places_len]
    exact List.length_filter_le _ _
  have HPl := Aside0.mk hpl
  have HP := Aside0.mk hp
  clear hpl hp
  have hu52 := Try.underlying52
  have hu40 := Try.underlying40
  have hu58 := Try.underlying58
  have hu123 := Try.underlying123
  obtain ⟨w2, hw2, hB2, hb3, hb4, hb6⟩ := boxes3 w (.cells #[.slice A0 L.length c0, .slice A1 A.length c1] 40 (0, 0)) (.cells #[.int .i64 a, .int .i64 b] 52 (0, 0)) (.cells #[.slice none 0 0, .slice none 0 0, .int .i64 0, .int .i64 0, .int .i64 0, .int .i64 0, .int .i64 0, .int .i64 0, .string ⟨#[]⟩, .int .i64 0] 123 (0, 0))
  have HW := Aside0.mk hw2
  have H3 := Aside0.mk hb3
  have H4 := Aside0.mk hb4
  have H6 := Aside0.mk hb6
  have HB2 := Aside0.mk hB2
  have HC0 := Aside0.mk (Kd.C_below hC0 hB2)
  have HC1 := Aside0.mk (Kd.C_below hC1 hB2)
  have HT := Aside0.mk ht
  have HCut := Aside0.mk hcut
  clear hw2 hb3 hb4 hb6 hB2 hC0 hC1 ht hcut
  have n0 : (0 : Int) ≤ (n : Int) := by omega
  have n1 : (n : Int) < ((places L a b).length : Int) := by omega
  have m0 : (0 : Int) ≤ (at_ : Int) := by omega
  have m1 : (at_ : Int) < (L.length : Int) := by omega
  go_enter Try.func63, Try.ntmps63
  go_wp2_with (first
    | ((with_reducible refine gate_dst (N := 12) rfl ?_); refine goesL_ (some 12) rfl rfl Try.func84 (by kernel_rfl) rfl #[.agg #[.slice A0 L.length c0, .slice A1 A.length c1], .agg #[.int .i64 a, .int .i64 b], .int .i64 n] rfl (by first | (simp only [List.map_toArray, List.map_cons, List.map_nil]; rfl) | rfl) ?_; refine (refThere_is L A a b n A0 c0 A1 c1 _ (by rw [← HW.out]; exact HC0.out) hc0 (by rw [← HW.out]; exact HC1.out) hc1 hL).mono ?_; rintro e w12 ⟨rfl, hb12⟩; rw [← HW.out] at hb12; rw [HT.out]; have HB := Aside0.mk hb12; clear hb12; refine ⟨_, rfl, ?_⟩)
    | ((with_reducible refine gate_dst (N := 18) rfl ?_); refine wpList_load_row rfl 40 (.tmp 3) rfl w.heap.size rfl 40 _ (0, 0) _ (keep_box H3.out HB.out) Try.underlying40 rfl info40s ?_)
    | ((with_reducible refine gate_dst (N := 19) rfl ?_); refine wpList_load_row rfl 52 (.tmp 4) rfl (w.heap.size + 1) rfl 52 _ (0, 0) _ (keep_box H4.out HB.out) Try.underlying52 rfl info52s ?_)
    | ((with_reducible refine gate_dst (N := 20) rfl ?_); refine goesL_ (some 20) rfl rfl Try.func30 (by kernel_rfl) rfl #[.agg #[.slice A0 L.length c0, .slice A1 A.length c1], .agg #[.int .i64 a, .int .i64 b]] rfl (by first | (simp only [List.map_toArray, List.map_cons, List.map_nil]; rfl) | rfl) ?_; refine (cut_calls L A a b A0 c0 A1 c1 _ (Kd.C_below HC0.out HB.out) hc0 (Kd.C_below HC1.out HB.out) hc1 hA).mono ?_; rintro e w20 ⟨rfl, hb20⟩; rw [HCut.out]; have HB_ := Aside0.mk (HB.out.trans (hb20.mono HB.out.size)); clear HB; have HB := HB_; clear HB_; clear hb20; refine ⟨_, rfl, ?_⟩)
    | ((with_reducible refine gate_dst (N := 23) rfl ?_); refine wpList_load_row rfl 40 (.tmp 3) rfl w.heap.size rfl 40 _ (0, 0) _ (keep_box H3.out HB.out) Try.underlying40 rfl info40s ?_)
    | ((with_reducible refine gate_dst (N := 24) rfl ?_); refine wpList_load_row rfl 52 (.tmp 4) rfl (w.heap.size + 1) rfl 52 _ (0, 0) _ (keep_box H4.out HB.out) Try.underlying52 rfl info52s ?_)
    | ((with_reducible refine gate_dst (N := 25) rfl ?_); refine goesL_ (some 25) rfl rfl Try.func26 (by kernel_rfl) rfl #[.agg #[.slice A0 L.length c0, .slice A1 A.length c1], .agg #[.int .i64 a, .int .i64 b]] rfl (by first | (simp only [List.map_toArray, List.map_cons, List.map_nil]; rfl) | rfl) ?_; refine (places_calls L A a b A0 c0 A1 c1 _ (Kd.C_below HC0.out HB.out) hc0 (Kd.C_below HC1.out HB.out) hc1 hL).mono ?_; rintro e w25 ⟨B, cB, rfl, hR, hb25⟩; have HB_ := Aside0.mk (HB.out.trans (hb25.mono HB.out.size)); clear HB hb25; have HB := HB_; clear HB_; obtain ⟨hx1, hx2, hx3⟩ := Kd.R_reads' hR; obtain ⟨adB, rfl, hcB⟩ := Kd.at_int (xs := (places L a b).map (fun n : Nat => (n : Int))) hx3 (n : Int) n0 (by rw [List.length_map]; exact n1); have hrd : rd ((places L a b).map (fun n : Nat => (n : Int))) (n : Int) = (at_ : Int) := rd_places HPl.out; rw [hrd, Int.toNat_natCast] at hcB; clear hrd hx1 hx2 hx3 hR; refine ⟨_, rfl, ?_⟩))
  have HBd := Aside0.mk (below_drew1 HB.out)
  have x0 : w25.drew.cell? ⟨w.heap.size, 0, none⟩ = some (.slice A0 L.length c0) := (blk_cell (keep_box H3.out HBd.out) 0).trans rfl
  have x1 : w25.drew.cell? ⟨w.heap.size, 1, none⟩ = some (.slice A1 A.length c1) := (blk_cell (keep_box H3.out HBd.out) 1).trans rfl
  obtain ⟨ad, hA0, e0, e1, e2, e3, e4, e5, e6⟩ := at_T58 (Kd.C_below HC0.out HBd.out) (at_ : Int) m0 m1
  subst hA0
  rw [rd58_at HP.out] at e0 e1 e2 e3 e4 e5 e6
  simp only [Int.toNat_natCast, to58] at e0 e1 e2 e3 e4 e5 e6
  refine start_ (n := 10) (S := fun w' => w'.cell? ⟨w.heap.size, 0, none⟩ = some (.slice (some ad) L.length c0) ∧ w'.cell? ⟨w.heap.size, 1, none⟩ = some (.slice A1 A.length c1) ∧ w'.cell? (ad.add (at_ * 7)) = some (.int .i64 p.f0) ∧ w'.cell? ⟨(ad.add (at_ * 7)).block, (ad.add (at_ * 7)).off + 1, none⟩ = some (.int .i64 p.f1) ∧ w'.cell? ⟨(ad.add (at_ * 7)).block, (ad.add (at_ * 7)).off + 2, none⟩ = some (.int .i64 p.f2) ∧ w'.cell? ⟨(ad.add (at_ * 7)).block, (ad.add (at_ * 7)).off + 3, none⟩ = some (.int .i64 p.f3) ∧ w'.cell? ⟨(ad.add (at_ * 7)).block, (ad.add (at_ * 7)).off + 4, none⟩ = some (.int .i64 p.f4) ∧ w'.cell? ⟨(ad.add (at_ * 7)).block, (ad.add (at_ * 7)).off + 5, none⟩ = some (.int .i64 p.f5) ∧ w'.cell? ⟨(ad.add (at_ * 7)).block, (ad.add (at_ * 7)).off + 6, none⟩ = some (.string p.f6)) (ds := [9]) #[false, false, false, false, false, false, false, false, false, false] (by kernel_rfl) rfl rfl ⟨x0, x1, e0, e1, e2, e3, e4, e5, e6⟩ (fun hHeld => ?_)
  refine take_ (i := 0) (N := some 29) (v := ?_) (a' := ?_) #[true, false, false, false, false, false, false, false, false, false] rfl rfl (by kernel_rfl) (fun _ _ _ h => h) (Or.inl ⟨by rfl, ?_⟩) hHeld ?_ ?_
  rotate_left
  · rintro w' ⟨s0, s1, s2, s3, s4, s5, s6, s7, s8⟩; go_simp; with_reducible rfl
  rotate_left
  · simp only [Act.put, List.setIfInBounds_toArray, List.set_cons_zero, List.set_cons_succ, i64_w, i32_w]; rfl
  refine pure_ (i := 1) (N := some 30) (v := ?_) (a' := ?_) #[true, true, false, false, false, false, false, false, false, false] rfl rfl (by kernel_rfl) (fun _ _ _ h => h) (Or.inl ⟨by rfl, ?_⟩) ?_ ?_
  rotate_left
  · intro w'; go_simp; with_reducible rfl
  rotate_left
  · simp only [Act.put, List.setIfInBounds_toArray, List.set_cons_zero, List.set_cons_succ, i64_w, i32_w]; rfl
  refine pure_ (i := 3) (N := some 32) (v := ?_) (a' := ?_) #[true, true, false, true, false, false, false, false, false, false] rfl rfl (by kernel_rfl) (fun _ _ _ h => h) (Or.inl ⟨by rfl, ?_⟩) ?_ ?_
  rotate_left
  · intro w'; go_simp; with_reducible rfl
  rotate_left
  · simp only [Act.put, List.setIfInBounds_toArray, List.set_cons_zero, List.set_cons_succ, i64_w, i32_w]; rfl
  refine take_ (i := 4) (N := some 33) (v := ?_) (a' := ?_) #[true, true, false, true, true, false, false, false, false, false] rfl rfl (by kernel_rfl) (fun _ _ _ h => h) (Or.inl ⟨by rfl, ?_⟩) hHeld ?_ ?_
  rotate_left
  · rintro w' ⟨s0, s1, s2, s3, s4, s5, s6, s7, s8⟩; go_simp; with_reducible rfl
  rotate_left
  · simp only [Act.put, List.setIfInBounds_toArray, List.set_cons_zero, List.set_cons_succ, i64_w, i32_w]; rfl
  refine pure_ (i := 5) (N := some 34) (v := ?_) (a' := ?_) #[true, true, false, true, true, true, false, false, false, false] rfl rfl (by kernel_rfl) (fun _ _ _ h => h) (Or.inl ⟨by rfl, ?_⟩) ?_ ?_
  rotate_left
  · intro w'; go_simp; with_reducible rfl
  rotate_left
  · simp only [Act.put, List.setIfInBounds_toArray, List.set_cons_zero, List.set_cons_succ, i64_w, i32_w]; rfl
  refine pure_ (i := 6) (N := some 35) (v := ?_) (a' := ?_) #[true, true, false, true, true, true, true, false, false, false] rfl rfl (by kernel_rfl) (fun _ _ _ h => h) (Or.inl ⟨by rfl, ?_⟩) ?_ ?_
  rotate_left
  · intro w'; go_simp; with_reducible rfl
  rotate_left
  · simp only [Act.put, List.setIfInBounds_toArray, List.set_cons_zero, List.set_cons_succ, i64_w, i32_w]; rfl
  refine take_ (i := 7) (N := some 36) (v := ?_) (a' := ?_) #[true, true, false, true, true, true, true, true, false, false] rfl rfl (by kernel_rfl) (fun _ _ _ h => h) (Or.inl ⟨by rfl, ?_⟩) hHeld ?_ ?_
  rotate_left
  · rintro w' ⟨s0, s1, s2, s3, s4, s5, s6, s7, s8⟩; go_simp; with_reducible rfl
  rotate_left
  · simp only [Act.put, List.setIfInBounds_toArray, List.set_cons_zero, List.set_cons_succ, i64_w, i32_w]; rfl
  clear x0 x1 e0 e1 e2 e3 e4 e5 e6 hcB
  refine one_ (i := 2) (N := some 31) #[true, true, true, true, true, true, true, true, false, false] rfl rfl (by kernel_rfl) (by decide) (fun K hK => ?_)
  refine goes_ Try.func85 (by kernel_rfl) rfl #[.agg #[.slice (some ad) L.length c0, .slice A1 A.length c1], .int .i64 at_] (by rfl) rfl rfl (by first | rfl | (simp only [List.map_toArray, List.map_cons, List.map_nil]; rfl)) ?_
  have hw := without_is (L.map to58) at_ (some ad) c0 A1 A.length c1 w25.drew (by rw [List.length_map]; exact Kd.C_below HC0.out HBd.out) (by rw [List.length_map]; exact hc0) (by rw [List.length_map]; exact hL)
  rw [List.length_map] at hw
  refine hw.mono ?_
  rintro e w31 ⟨v0, rfl, hR, hb31⟩
  obtain ⟨A6, c6, rfl⟩ := Kd.R_slice hR
  have HB3 := Aside0.mk (HBd.out.trans (hb31.mono HBd.out.size))
  have x0 : w31.cell? ⟨w.heap.size, 0, none⟩ = some (.slice (some ad) L.length c0) := (blk_cell (keep_box H3.out HB3.out) 0).trans rfl
  have x1 : w31.cell? ⟨w.heap.size, 1, none⟩ = some (.slice A1 A.length c1) := (blk_cell (keep_box H3.out HB3.out) 1).trans rfl
  obtain ⟨ad', hA0, e0, e1, e2, e3, e4, e5, e6⟩ := at_T58 (Kd.C_below HC0.out HB3.out) (at_ : Int) m0 m1
  cases hA0
  rw [rd58_at HP.out] at e0 e1 e2 e3 e4 e5 e6
  simp only [Int.toNat_natCast, to58] at e0 e1 e2 e3 e4 e5 e6
  refine ⟨_, rfl, hK.out _ _ ⟨x0, x1, e0, e1, e2, e3, e4, e5, e6⟩ (fun hHeld => ?_)⟩
  clear hK K x0 x1 e0 e1 e2 e3 e4 e5 e6
  refine norm_ (a' := ?_) ?_ ?_
  rotate_left
  · show Act.put _ (some 31) _ = _
    simp only [Act.put, List.setIfInBounds_toArray, List.set_cons_zero, List.set_cons_succ, i64_w, i32_w]
    rfl
  refine pure_ (i := 8) (N := some 37) (v := ?_) (a' := ?_) #[true, true, true, true, true, true, true, true, true, false] rfl rfl (by kernel_rfl) (fun _ _ _ h => h) (Or.inl ⟨by rfl, ?_⟩) ?_ ?_
  rotate_left
  · intro w'; go_simp; with_reducible rfl
  rotate_left
  · simp only [Act.put, List.setIfInBounds_toArray, List.set_cons_zero, List.set_cons_succ, i64_w, i32_w]; rfl
  refine last_ (i := 9) (N := none) #[true, true, true, true, true, true, true, true, true, true] rfl rfl (by kernel_rfl) (by decide) (fun K hK => ?_)
  refine storeRow_ (by rfl) 123 (.tmp 6) (.tmp 37) rfl rfl (w.heap.size + 1 + 1) #[.slice A6 (woTo (L.map to58) at_ L.length).length c6, .slice A1 A.length c1, .int .i64 p.f0, .int .i64 p.f1, .int .i64 p.f2, .int .i64 p.f3, .int .i64 p.f4, .int .i64 p.f5, .string p.f6, .int .i64 0] rfl rfl 123 _ (keep_box H6.out HB3.out) info123s rfl (by rw [List.all_toArray]; rfl) ?_
  refine hK.out _ _ ?_
  clear hK K
  refine done_ (by kernel_rfl) ?_
  go_wp2
  refine bodyPost_ret (results_cell_row rfl _ _ (w.heap.size + 1 + 1) 123 #[.slice A6 (woTo (L.map to58) at_ L.length).length c6, .slice A1 A.length c1, .int .i64 p.f0, .int .i64 p.f1, .int .i64 p.f2, .int .i64 p.f3, .int .i64 p.f4, .int .i64 p.f5, .string p.f6, .int .i64 0] (0, 0) _ rfl (setRow_heap _ _ _ _ _ _ (keep_box H6.out HB3.out)) hu123 rfl info123s) rfl ?_
  have hwB := HB2.out.trans (HBd.out.mono HB2.out.size)
  refine ⟨_, rfl, ?_, below_setRow (HB2.out.trans (HB3.out.mono HB2.out.size)) (by omega) _⟩
  have hlt : w.heap.size + 1 + 1 < w25.drew.heap.size := blk_lt (keep_box H6.out HBd.out)
  exact Kd.R_lower (Kd.R_mono (Kd.R_step (Kd.R_bound hR) (fun k hk _ => setRow_other _ _ _ _ (by have := hk.2.1; omega))) (fun _ _ => trivial)) hwB.size
end
end Go.Proofs.Ytdibaeomepallaa.NW
/- The document's Send, Lose, Twice of layer 12, by hand. -/
namespace Go.Proofs.Ytdibaeomepallaa.NW
open Go.RowKit Go.Proofs.YtdibaeomepallaaW.PrintWords Go.Proofs.YtdibaeomepallaaW.PrintLast Go.Proofs.YtdibaeomepallaaW.PrintMore Go.Proofs.Ytdibaeomepallaa.PAll
set_option linter.unusedVariables false
set_option linter.unusedSimpArgs false
set_option maxRecDepth 100000
def sendLE (p : Pk) (L : List Pk) : Int := if okP p = true then (if L.length < 400 then 0 else 6) else 1
section
variable (L : List Pk) (A : List S52) (a b i : Int) (A0 : Option Addr) (c0 : Nat) (A1 : Option Addr) (c1 : Nat) (w : World) (ok : Nat → Prop)
theorem refSend_is (p : Pk) (n1 : Nat) (hF0 : Kd.F k58 w ok A0 L.length (L.map to58)) (hc0 : L.length ≤ c0) :
    Calls Try.prog 62 #[.agg #[.slice A0 L.length c0, .slice A1 n1 c1], .agg #[.int .i64 p.f0, .int .i64 p.f1, .int .i64 p.f2, .int .i64 p.f3, .int .i64 p.f4, .int .i64 p.f5, .string p.f6]] w fun e w' => ∃ v0, e = .returned (.tuple #[.agg #[v0, .slice A1 n1 c1], .int .i64 (sendLE p L)]) ∧ RF k58 w' (fun k => ok k ∨ w.heap.size ≤ k) v0 ((sendL p L).map to58) ∧ Below w.heap.size w w' := by
  have hlm : (L.map to58).length = L.length := List.length_map _
  have stay : ∀ w', Below w.heap.size w w' → RF k58 w' (fun k => ok k ∨ w.heap.size ≤ k) (.slice A0 L.length c0) (L.map to58) := fun w' hb => ⟨A0, c0, by rw [hlm], by rw [hlm]; exact hc0, by rw [hlm]; exact Kd.F_mono (Kd.F_below hF0 hb) (fun _ hk => .inl hk)⟩
  unfold sendLE sendL
  cases hb : okP p with
  | false =>
    rw [if_neg (by decide), if_neg (fun e => by cases e.1)]
    have key := refSend_no (L.map to58) p false 1 hb (.inl ⟨rfl, rfl⟩) A0 c0 A1 n1 c1 w
    rw [hlm] at key
    exact key.mono fun e w' ⟨he, hbw⟩ => ⟨_, he, stay w' hbw, hbw⟩
  | true =>
    by_cases hl : L.length < 400
    · rw [if_pos rfl, if_pos hl, if_pos ⟨rfl, hl⟩]
      have key := refSend_ok (L.map to58) p hb (by rw [hlm]; exact hl) A0 c0 A1 n1 c1 w (by rw [hlm]; exact Kd.F_now hF0) (by rw [hlm]; exact hc0)
      rw [hlm] at key
      refine key.mono fun e w' ⟨v0, he, hR, hbw⟩ => ⟨v0, he, ?_, hbw⟩
      rw [List.map_append]
      exact (RF.of_R hR).mono (fun _ hk => .inr hk)
    · rw [if_pos rfl, if_neg hl, if_neg (fun e => hl e.2)]
      have key := refSend_no (L.map to58) p true 6 hb (.inr ⟨rfl, by rw [hlm]; omega, rfl⟩) A0 c0 A1 n1 c1 w
      rw [hlm] at key
      exact key.mono fun e w' ⟨he, hbw⟩ => ⟨_, he, stay w' hbw, hbw⟩
set_option maxHeartbeats 1000000 in
theorem refLose_no (e0 : Int) (ht : thereL L a b i = e0) (he : e0 ≠ 0) (hF0 : Kd.F k58 w ok A0 L.length (L.map to58)) (hc0 : L.length ≤ c0) (hC1 : Kd.C k52 w A1 A.length A) (hc1 : A.length ≤ c1) (hL : L.length ≤ 1000) :
    Calls Try.prog 64 #[.agg #[.slice A0 L.length c0, .slice A1 A.length c1], .agg #[.int .i64 a, .int .i64 b], .int .i64 i] w fun e w' => e = .returned (.tuple #[.agg #[.slice A0 L.length c0, .slice A1 A.length c1], .int .i64 e0]) ∧ Below w.heap.size w w' := by
  have hu52 := Try.underlying52
  have hu40 := Try.underlying40
  have hu58 := Try.underlying58
  obtain ⟨w2, hw2, hB2, hb3, hb4, hb6⟩ := boxes3 w (.cells #[.slice A0 L.length c0, .slice A1 A.length c1] 40 (0, 0)) (.cells #[.int .i64 a, .int .i64 b] 52 (0, 0)) (.cells #[.slice none 0 0, .slice none 0 0] 40 (0, 0))
  have HW := Aside0.mk hw2
  have H3 := Aside0.mk hb3
  have H4 := Aside0.mk hb4
  have H6 := Aside0.mk hb6
  have HB2 := Aside0.mk hB2
  have HF0 := Aside0.mk (Kd.F_below hF0 hB2)
  have HC0 := Aside0.mk (Kd.C_below (Kd.F_now hF0) hB2)
  have HC1 := Aside0.mk (Kd.C_below hC1 hB2)
  have HT := Aside0.mk ht
  clear ht
  clear hw2 hb3 hb4 hb6 hB2 hF0 hC1
  have hd : (e0 != 0) = true := bne_iff_ne.mpr he
  go_enter Try.func64, Try.ntmps64
  go_wp2_with (first
    | ((with_reducible refine gate_dst (N := 12) rfl ?_); refine goesL_ (some 12) rfl rfl Try.func84 (by kernel_rfl) rfl #[.agg #[.slice A0 L.length c0, .slice A1 A.length c1], .agg #[.int .i64 a, .int .i64 b], .int .i64 i] rfl (by first | (simp only [List.map_toArray, List.map_cons, List.map_nil]; rfl) | rfl) ?_; refine (refThere_is L A a b i A0 c0 A1 c1 _ (by rw [← HW.out]; exact HC0.out) hc0 (by rw [← HW.out]; exact HC1.out) hc1 hL).mono ?_; rintro e w12 ⟨rfl, hb12⟩; rw [← HW.out] at hb12; rw [HT.out]; have HB := Aside0.mk hb12; clear hb12; refine ⟨_, rfl, ?_⟩)
    | ((with_reducible refine gate_dst (N := 15) rfl ?_); refine wpList_load_row rfl 40 (.tmp 3) rfl w.heap.size rfl 40 _ (0, 0) _ (keep_box H3.out HB.out) Try.underlying40 rfl info40s ?_)
    | ((with_reducible refine gate_store (t := 40) (p := 6) rfl ?_); refine wpList_store_row rfl 40 (.tmp 6) (.tmp 15) rfl (w.heap.size + 1 + 1) #[.slice A0 L.length c0, .slice A1 A.length c1] rfl rfl 40 _ (keep_box H6.out HB.out) info40s rfl (by rw [List.all_toArray]; rfl) ?_))
  refine bodyPost_ret (results_ct rfl _ _ (w.heap.size + 1 + 1) 40 #[.slice A0 L.length c0, .slice A1 A.length c1] (0, 0) _ rfl (setRow_heap _ _ _ _ _ _ (keep_box H6.out HB.out)) hu40 rfl info40s) rfl ?_
  exact ⟨rfl, below_setRow (HB2.out.trans (HB.out.mono HB2.out.size)) (by omega) _⟩
set_option maxHeartbeats 1000000 in
theorem refTwice_no (e0 : Int) (ht : thereL L a b i = e0) (he : e0 ≠ 0) (hF0 : Kd.F k58 w ok A0 L.length (L.map to58)) (hc0 : L.length ≤ c0) (hC1 : Kd.C k52 w A1 A.length A) (hc1 : A.length ≤ c1) (hL : L.length ≤ 1000) :
    Calls Try.prog 65 #[.agg #[.slice A0 L.length c0, .slice A1 A.length c1], .agg #[.int .i64 a, .int .i64 b], .int .i64 i] w fun e w' => e = .returned (.tuple #[.agg #[.slice A0 L.length c0, .slice A1 A.length c1], .int .i64 e0]) ∧ Below w.heap.size w w' := by
  have hu52 := Try.underlying52
  have hu40 := Try.underlying40
  have hu58 := Try.underlying58
  obtain ⟨w2, hw2, hB2, hb3, hb4, hb6⟩ := boxes3 w (.cells #[.slice A0 L.length c0, .slice A1 A.length c1] 40 (0, 0)) (.cells #[.int .i64 a, .int .i64 b] 52 (0, 0)) (.cells #[.slice none 0 0, .slice none 0 0] 40 (0, 0))
  have HW := Aside0.mk hw2
  have H3 := Aside0.mk hb3
  have H4 := Aside0.mk hb4
  have H6 := Aside0.mk hb6
  have HB2 := Aside0.mk hB2
  have HF0 := Aside0.mk (Kd.F_below hF0 hB2)
  have HC0 := Aside0.mk (Kd.C_below (Kd.F_now hF0) hB2)
  have HC1 := Aside0.mk (Kd.C_below hC1 hB2)
  have HT := Aside0.mk ht
  clear ht
  clear hw2 hb3 hb4 hb6 hB2 hF0 hC1
  have hd : (e0 != 0) = true := bne_iff_ne.mpr he
  go_enter Try.func65, Try.ntmps65
  go_wp2_with (first
    | ((with_reducible refine gate_dst (N := 12) rfl ?_); refine goesL_ (some 12) rfl rfl Try.func84 (by kernel_rfl) rfl #[.agg #[.slice A0 L.length c0, .slice A1 A.length c1], .agg #[.int .i64 a, .int .i64 b], .int .i64 i] rfl (by first | (simp only [List.map_toArray, List.map_cons, List.map_nil]; rfl) | rfl) ?_; refine (refThere_is L A a b i A0 c0 A1 c1 _ (by rw [← HW.out]; exact HC0.out) hc0 (by rw [← HW.out]; exact HC1.out) hc1 hL).mono ?_; rintro e w12 ⟨rfl, hb12⟩; rw [← HW.out] at hb12; rw [HT.out]; have HB := Aside0.mk hb12; clear hb12; refine ⟨_, rfl, ?_⟩)
    | ((with_reducible refine gate_dst (N := 15) rfl ?_); refine wpList_load_row rfl 40 (.tmp 3) rfl w.heap.size rfl 40 _ (0, 0) _ (keep_box H3.out HB.out) Try.underlying40 rfl info40s ?_)
    | ((with_reducible refine gate_store (t := 40) (p := 6) rfl ?_); refine wpList_store_row rfl 40 (.tmp 6) (.tmp 15) rfl (w.heap.size + 1 + 1) #[.slice A0 L.length c0, .slice A1 A.length c1] rfl rfl 40 _ (keep_box H6.out HB.out) info40s rfl (by rw [List.all_toArray]; rfl) ?_))
  refine bodyPost_ret (results_ct rfl _ _ (w.heap.size + 1 + 1) 40 #[.slice A0 L.length c0, .slice A1 A.length c1] (0, 0) _ rfl (setRow_heap _ _ _ _ _ _ (keep_box H6.out HB.out)) hu40 rfl info40s) rfl ?_
  exact ⟨rfl, below_setRow (HB2.out.trans (HB.out.mono HB2.out.size)) (by omega) _⟩
set_option maxHeartbeats 2000000 in
theorem refLose_ok (n at_ : Nat) (p : Pk) (hi : i = (n : Int)) (ht : thereL L a b i = 0) (hpl : (places L a b)[n]? = some at_) (hp : L[at_]? = some p) (hF0 : Kd.F k58 w ok A0 L.length (L.map to58)) (hc0 : L.length ≤ c0) (hC1 : Kd.C k52 w A1 A.length A) (hc1 : A.length ≤ c1) (hL : L.length ≤ 1000) :
    Calls Try.prog 64 #[.agg #[.slice A0 L.length c0, .slice A1 A.length c1], .agg #[.int .i64 a, .int .i64 b], .int .i64 i] w fun e w' => ∃ v0, e = .returned (.tuple #[.agg #[v0, .slice A1 A.length c1], .int .i64 0]) ∧ Kd.R k58 58 w' w.heap.size (fun _ => True) v0 (woTo (L.map to58) at_ L.length) ∧ Below w.heap.size w w' := by
  subst hi
  have hnl := (List.getElem?_eq_some_iff.1 hpl).1
  have hal := (List.getElem?_eq_some_iff.1 hp).1
  have hpll : (places L a b).length ≤ L.length := by
    unfold places
    rw [places_len]
    exact List.length_filter_le _ _
  have HPl := Aside0.mk hpl
  have HP := Aside0.mk hp
  clear hpl hp
  have hu52 := Try.underlying52
  have hu40 := Try.underlying40
  have hu58 := Try.underlying58
  obtain ⟨w2, hw2, hB2, hb3, hb4, hb6⟩ := boxes3 w (.cells #[.slice A0 L.length c0, .slice A1 A.length c1] 40 (0, 0)) (.cells #[.int .i64 a, .int .i64 b] 52 (0, 0)) (.cells #[.slice none 0 0, .slice none 0 0] 40 (0, 0))
  have HW := Aside0.mk hw2
  have H3 := Aside0.mk hb3
  have H4 := Aside0.mk hb4
  have H6 := Aside0.mk hb6
  have HB2 := Aside0.mk hB2
  have HF0 := Aside0.mk (Kd.F_below hF0 hB2)
  have HC0 := Aside0.mk (Kd.C_below (Kd.F_now hF0) hB2)
  have HC1 := Aside0.mk (Kd.C_below hC1 hB2)
  have HT := Aside0.mk ht
  clear ht
  clear hw2 hb3 hb4 hb6 hB2 hF0 hC1
  have n0 : (0 : Int) ≤ (n : Int) := by omega
  have n1 : (n : Int) < ((places L a b).length : Int) := by omega
  have m0 : (0 : Int) ≤ (at_ : Int) := by omega
  have m1 : (at_ : Int) < (L.length : Int) := by omega
  go_enter Try.func64, Try.ntmps64
  go_wp2_with (((with_reducible refine gate_dst (N := 12) rfl ?_); refine goesL_ (some 12) rfl rfl Try.func84 (by kernel_rfl) rfl #[.agg #[.slice A0 L.length c0, .slice A1 A.length c1], .agg #[.int .i64 a, .int .i64 b], .int .i64 n] rfl (by first | (simp only [List.map_toArray, List.map_cons, List.map_nil]; rfl) | rfl) ?_; refine (refThere_is L A a b n A0 c0 A1 c1 _ (by rw [← HW.out]; exact HC0.out) hc0 (by rw [← HW.out]; exact HC1.out) hc1 hL).mono ?_; rintro e w12 ⟨rfl, hb12⟩; rw [← HW.out] at hb12; rw [HT.out]; have HB := Aside0.mk hb12; clear hb12; refine ⟨_, rfl, ?_⟩))
  have HBd := Aside0.mk (below_drew1 HB.out)
  have x0 : w12.drew.cell? ⟨w.heap.size, 0, none⟩ = some (.slice A0 L.length c0) := (blk_cell (keep_box H3.out HBd.out) 0).trans rfl
  have x1 : w12.drew.cell? ⟨w.heap.size, 1, none⟩ = some (.slice A1 A.length c1) := (blk_cell (keep_box H3.out HBd.out) 1).trans rfl
  have x2 : w12.drew.cell? ⟨w.heap.size + 1, 0, none⟩ = some (.int .i64 a) := (blk_cell (keep_box H4.out HBd.out) 0).trans rfl
  have x3 : w12.drew.cell? ⟨w.heap.size + 1, 1, none⟩ = some (.int .i64 b) := (blk_cell (keep_box H4.out HBd.out) 1).trans rfl
  refine start_ (n := 10) (S := fun w' => w'.cell? ⟨w.heap.size, 0, none⟩ = some (.slice A0 L.length c0) ∧ w'.cell? ⟨w.heap.size, 1, none⟩ = some (.slice A1 A.length c1) ∧ w'.cell? ⟨w.heap.size + 1, 0, none⟩ = some (.int .i64 a) ∧ w'.cell? ⟨w.heap.size + 1, 1, none⟩ = some (.int .i64 b)) (ds := [8]) #[false, false, false, false, false, false, false, false, false, false] (by kernel_rfl) rfl rfl ⟨x0, x1, x2, x3⟩ (fun hHeld => ?_)
  refine take_ (i := 0) (N := some 17) (v := ?_) (a' := ?_) #[true, false, false, false, false, false, false, false, false, false] rfl rfl (by kernel_rfl) (fun _ _ _ h => h) (Or.inl ⟨by rfl, ?_⟩) hHeld ?_ ?_
  rotate_left
  · rintro w' ⟨s0, s1, s2, s3⟩; go_simp; with_reducible rfl
  rotate_left
  · simp only [Act.put, List.setIfInBounds_toArray, List.set_cons_zero, List.set_cons_succ, i64_w, i32_w]; rfl
  refine take_ (i := 1) (N := some 18) (v := ?_) (a' := ?_) #[true, true, false, false, false, false, false, false, false, false] rfl rfl (by kernel_rfl) (fun _ _ _ h => h) (Or.inl ⟨by rfl, ?_⟩) hHeld ?_ ?_
  rotate_left
  · rintro w' ⟨s0, s1, s2, s3⟩; go_simp; with_reducible rfl
  rotate_left
  · simp only [Act.put, List.setIfInBounds_toArray, List.set_cons_zero, List.set_cons_succ, i64_w, i32_w]; rfl
  refine take_ (i := 2) (N := some 19) (v := ?_) (a' := ?_) #[true, true, true, false, false, false, false, false, false, false] rfl rfl (by kernel_rfl) (fun _ _ _ h => h) (Or.inl ⟨by rfl, ?_⟩) hHeld ?_ ?_
  rotate_left
  · rintro w' ⟨s0, s1, s2, s3⟩; go_simp; with_reducible rfl
  rotate_left
  · simp only [Act.put, List.setIfInBounds_toArray, List.set_cons_zero, List.set_cons_succ, i64_w, i32_w]; rfl
  refine pure_ (i := 4) (N := some 21) (v := ?_) (a' := ?_) #[true, true, true, false, true, false, false, false, false, false] rfl rfl (by kernel_rfl) (fun _ _ _ h => h) (Or.inl ⟨by rfl, ?_⟩) ?_ ?_
  rotate_left
  · intro w'; go_simp; with_reducible rfl
  rotate_left
  · simp only [Act.put, List.setIfInBounds_toArray, List.set_cons_zero, List.set_cons_succ, i64_w, i32_w]; rfl
  clear x0 x1 x2 x3
  refine one_ (i := 3) (N := some 20) #[true, true, true, true, true, false, false, false, false, false] rfl rfl (by kernel_rfl) (by decide) (fun K hK => ?_)
  refine goes_ Try.func26 (by kernel_rfl) rfl #[.agg #[.slice A0 L.length c0, .slice A1 A.length c1], .agg #[.int .i64 a, .int .i64 b]] (by rfl) rfl rfl (by first | rfl | (simp only [List.map_toArray, List.map_cons, List.map_nil]; rfl)) ?_
  refine (places_calls L A a b A0 c0 A1 c1 _ (Kd.C_below HC0.out HBd.out) hc0 (Kd.C_below HC1.out HBd.out) hc1 hL).mono ?_
  rintro e w25 ⟨B, cB, rfl, hR, hb25⟩
  have HB3 := Aside0.mk (HBd.out.trans (hb25.mono HBd.out.size))
  clear hb25
  obtain ⟨hx1, hx2, hx3⟩ := Kd.R_reads' hR
  obtain ⟨adB, rfl, hcB⟩ := Kd.at_int (xs := (places L a b).map (fun n : Nat => (n : Int))) hx3 (n : Int) n0 (by rw [List.length_map]; exact n1)
  have hrd : rd ((places L a b).map (fun n : Nat => (n : Int))) (n : Int) = (at_ : Int) := rd_places HPl.out
  rw [hrd, Int.toNat_natCast] at hcB
  clear hrd hx1 hx2 hx3 hR
  have x0 : w25.cell? ⟨w.heap.size, 0, none⟩ = some (.slice A0 L.length c0) := (blk_cell (keep_box H3.out HB3.out) 0).trans rfl
  have x1 : w25.cell? ⟨w.heap.size, 1, none⟩ = some (.slice A1 A.length c1) := (blk_cell (keep_box H3.out HB3.out) 1).trans rfl
  have x2 : w25.cell? ⟨w.heap.size + 1, 0, none⟩ = some (.int .i64 a) := (blk_cell (keep_box H4.out HB3.out) 0).trans rfl
  have x3 : w25.cell? ⟨w.heap.size + 1, 1, none⟩ = some (.int .i64 b) := (blk_cell (keep_box H4.out HB3.out) 1).trans rfl
  refine ⟨_, rfl, hK.out _ _ ⟨x0, x1, x2, x3⟩ (fun hHeld => ?_)⟩
  clear hK K
  refine norm_ (a' := ?_) ?_ ?_
  rotate_left
  · show Act.put _ (some 20) _ = _
    simp only [Act.put, List.setIfInBounds_toArray, List.set_cons_zero, List.set_cons_succ, i64_w, i32_w]
    rfl
  refine pure_ (i := 5) (N := some 22) (v := ?_) (a' := ?_) #[true, true, true, true, true, true, false, false, false, false] rfl rfl (by kernel_rfl) (fun _ _ _ h => h) (Or.inl ⟨by rfl, ?_⟩) ?_ ?_
  rotate_left
  · intro w'; go_simp; with_reducible rfl
  rotate_left
  · simp only [Act.put, List.setIfInBounds_toArray, List.set_cons_zero, List.set_cons_succ, i64_w, i32_w]; rfl
  refine one_ (i := 6) (N := some 23) #[true, true, true, true, true, true, true, false, false, false] rfl rfl (by kernel_rfl) (by decide) (fun K hK => ?_)
  refine event_step (v := .int .i64 at_) (w1 := w25) (by rfl) (by first | (go_simp; done) | (go_simp; rfl)) ?_
  refine hK.out _ _ ⟨x0, x1, x2, x3⟩ (fun hHeld => ?_)
  clear hK K hcB x0 x1 x2 x3
  refine norm_ (a' := ?_) ?_ ?_
  rotate_left
  · show Act.put _ (some 23) _ = _
    simp only [Act.put, List.setIfInBounds_toArray, List.set_cons_zero, List.set_cons_succ, i64_w, i32_w]
    rfl
  refine one_ (i := 7) (N := some 24) #[true, true, true, true, true, true, true, true, false, false] rfl rfl (by kernel_rfl) (by decide) (fun K hK => ?_)
  refine goes_ Try.func85 (by kernel_rfl) rfl #[.agg #[.slice A0 L.length c0, .slice A1 A.length c1], .int .i64 at_] (by rfl) rfl rfl (by first | rfl | (simp only [List.map_toArray, List.map_cons, List.map_nil]; rfl)) ?_
  have hw := without_is (L.map to58) at_ A0 c0 A1 A.length c1 w25 (by rw [List.length_map]; exact Kd.C_below HC0.out HB3.out) (by rw [List.length_map]; exact hc0) (by rw [List.length_map]; exact hL)
  rw [List.length_map] at hw
  refine hw.mono ?_
  rintro e w31 ⟨v0, rfl, hR, hb31⟩
  obtain ⟨A6, c6, rfl⟩ := Kd.R_slice hR
  have HB4 := Aside0.mk (HB3.out.trans (hb31.mono HB3.out.size))
  have x0 : w31.cell? ⟨w.heap.size, 0, none⟩ = some (.slice A0 L.length c0) := (blk_cell (keep_box H3.out HB4.out) 0).trans rfl
  have x1 : w31.cell? ⟨w.heap.size, 1, none⟩ = some (.slice A1 A.length c1) := (blk_cell (keep_box H3.out HB4.out) 1).trans rfl
  have x2 : w31.cell? ⟨w.heap.size + 1, 0, none⟩ = some (.int .i64 a) := (blk_cell (keep_box H4.out HB4.out) 0).trans rfl
  have x3 : w31.cell? ⟨w.heap.size + 1, 1, none⟩ = some (.int .i64 b) := (blk_cell (keep_box H4.out HB4.out) 1).trans rfl
  refine ⟨_, rfl, hK.out _ _ ⟨x0, x1, x2, x3⟩ (fun hHeld => ?_)⟩
  clear hK K x0 x1 x2 x3
  refine norm_ (a' := ?_) ?_ ?_
  rotate_left
  · show Act.put _ (some 24) _ = _
    simp only [Act.put, List.setIfInBounds_toArray, List.set_cons_zero, List.set_cons_succ, i64_w, i32_w]
    rfl
  refine last_ (i := 8) (N := none) #[true, true, true, true, true, true, true, true, true, false] rfl rfl (by kernel_rfl) (by decide) (fun K hK => ?_)
  refine storeRow_ (by rfl) 40 (.tmp 6) (.tmp 24) rfl rfl (w.heap.size + 1 + 1) #[.slice A6 (woTo (L.map to58) at_ L.length).length c6, .slice A1 A.length c1] rfl rfl 40 _ (keep_box H6.out HB4.out) info40s rfl (by rw [List.all_toArray]; rfl) ?_
  refine hK.out _ _ ?_
  clear hK K
  refine pure_ (i := 9) (N := some 7) (v := ?_) (a' := ?_) #[true, true, true, true, true, true, true, true, true, true] rfl rfl (by kernel_rfl) (fun _ _ _ h => h) (Or.inl ⟨by rfl, ?_⟩) ?_ ?_
  rotate_left
  · intro w'; go_simp; with_reducible rfl
  rotate_left
  · simp only [Act.put, List.setIfInBounds_toArray, List.set_cons_zero, List.set_cons_succ, i64_w, i32_w]; rfl
  refine done_ (by kernel_rfl) ?_
  go_wp2
  refine bodyPost_ret (results_ct rfl _ _ (w.heap.size + 1 + 1) 40 #[.slice A6 (woTo (L.map to58) at_ L.length).length c6, .slice A1 A.length c1] (0, 0) _ rfl (setRow_heap _ _ _ _ _ _ (keep_box H6.out HB4.out)) hu40 rfl info40s) rfl ?_
  have hwB := HB2.out.trans (HB3.out.mono HB2.out.size)
  refine ⟨_, rfl, ?_, below_setRow (HB2.out.trans (HB4.out.mono HB2.out.size)) (by omega) _⟩
  have hlt : w.heap.size + 1 + 1 < w25.heap.size := blk_lt (keep_box H6.out HB3.out)
  exact Kd.R_lower (Kd.R_mono (Kd.R_step (Kd.R_bound hR) (fun k hk _ => setRow_other _ _ _ _ (by have := hk.2.1; omega))) (fun _ _ => trivial)) hwB.size
set_option maxHeartbeats 2000000 in
theorem refTwice_ok (n at_ : Nat) (p : Pk) (hi : i = (n : Int)) (ht : thereL L a b i = 0) (hpl : (places L a b)[n]? = some at_) (hp : L[at_]? = some p) (hF0 : Kd.F k58 w ok A0 L.length (L.map to58)) (hc0 : L.length ≤ c0) (hC1 : Kd.C k52 w A1 A.length A) (hc1 : A.length ≤ c1) (hL : L.length ≤ 1000) :
    Calls Try.prog 65 #[.agg #[.slice A0 L.length c0, .slice A1 A.length c1], .agg #[.int .i64 a, .int .i64 b], .int .i64 i] w fun e w' => ∃ v0, e = .returned (.tuple #[.agg #[v0, .slice A1 A.length c1], .int .i64 (sendLE p L)]) ∧ RF k58 w' (fun k => ok k ∨ w.heap.size ≤ k) v0 ((sendL p L).map to58) ∧ Below w.heap.size w w' := by
  subst hi
  have hnl := (List.getElem?_eq_some_iff.1 hpl).1
  have hal := (List.getElem?_eq_some_iff.1 hp).1
  have hpll : (places L a b).length ≤ L.length := by
    unfold places
    rw [places_len]
    exact List.length_filter_le _ _
  have HPl := Aside0.mk hpl
  have HP := Aside0.mk hp
  clear hpl hp
  have hu52 := Try.underlying52
  have hu40 := Try.underlying40
  have hu58 := Try.underlying58
  obtain ⟨w2, hw2, hB2, hb3, hb4, hb6⟩ := boxes3 w (.cells #[.slice A0 L.length c0, .slice A1 A.length c1] 40 (0, 0)) (.cells #[.int .i64 a, .int .i64 b] 52 (0, 0)) (.cells #[.slice none 0 0, .slice none 0 0] 40 (0, 0))
  have HW := Aside0.mk hw2
  have H3 := Aside0.mk hb3
  have H4 := Aside0.mk hb4
  have H6 := Aside0.mk hb6
  have HB2 := Aside0.mk hB2
  have HF0 := Aside0.mk (Kd.F_below (Kd.F_bound hF0) hB2)
  have HC0 := Aside0.mk (Kd.C_below (Kd.F_now hF0) hB2)
  have HC1 := Aside0.mk (Kd.C_below hC1 hB2)
  have HT := Aside0.mk ht
  clear ht
  clear hw2 hb3 hb4 hb6 hB2 hF0 hC1
  have n0 : (0 : Int) ≤ (n : Int) := by omega
  have n1 : (n : Int) < ((places L a b).length : Int) := by omega
  have m0 : (0 : Int) ≤ (at_ : Int) := by omega
  have m1 : (at_ : Int) < (L.length : Int) := by omega
  go_enter Try.func65, Try.ntmps65
  go_wp2_with (((with_reducible refine gate_dst (N := 12) rfl ?_); refine goesL_ (some 12) rfl rfl Try.func84 (by kernel_rfl) rfl #[.agg #[.slice A0 L.length c0, .slice A1 A.length c1], .agg #[.int .i64 a, .int .i64 b], .int .i64 n] rfl (by first | (simp only [List.map_toArray, List.map_cons, List.map_nil]; rfl) | rfl) ?_; refine (refThere_is L A a b n A0 c0 A1 c1 _ (by rw [← HW.out]; exact HC0.out) hc0 (by rw [← HW.out]; exact HC1.out) hc1 hL).mono ?_; rintro e w12 ⟨rfl, hb12⟩; rw [← HW.out] at hb12; rw [HT.out]; have HB := Aside0.mk hb12; clear hb12; refine ⟨_, rfl, ?_⟩))
  have HBd := Aside0.mk (below_drew1 HB.out)
  have x0 : w12.drew.cell? ⟨w.heap.size, 0, none⟩ = some (.slice A0 L.length c0) := (blk_cell (keep_box H3.out HBd.out) 0).trans rfl
  have x1 : w12.drew.cell? ⟨w.heap.size, 1, none⟩ = some (.slice A1 A.length c1) := (blk_cell (keep_box H3.out HBd.out) 1).trans rfl
  have x2 : w12.drew.cell? ⟨w.heap.size + 1, 0, none⟩ = some (.int .i64 a) := (blk_cell (keep_box H4.out HBd.out) 0).trans rfl
  have x3 : w12.drew.cell? ⟨w.heap.size + 1, 1, none⟩ = some (.int .i64 b) := (blk_cell (keep_box H4.out HBd.out) 1).trans rfl
  obtain ⟨ad, hA0, e0, e1, e2, e3, e4, e5, e6⟩ := at_T58 (Kd.C_below HC0.out HBd.out) (at_ : Int) m0 m1
  subst hA0
  rw [rd58_at HP.out] at e0 e1 e2 e3 e4 e5 e6
  simp only [Int.toNat_natCast, to58] at e0 e1 e2 e3 e4 e5 e6
  refine start_ (n := 16) (S := fun w' => w'.cell? ⟨w.heap.size, 0, none⟩ = some (.slice (some ad) L.length c0) ∧ w'.cell? ⟨w.heap.size, 1, none⟩ = some (.slice A1 A.length c1) ∧ w'.cell? ⟨w.heap.size + 1, 0, none⟩ = some (.int .i64 a) ∧ w'.cell? ⟨w.heap.size + 1, 1, none⟩ = some (.int .i64 b) ∧ w'.cell? (ad.add (at_ * 7)) = some (.int .i64 p.f0) ∧ w'.cell? ⟨(ad.add (at_ * 7)).block, (ad.add (at_ * 7)).off + 1, none⟩ = some (.int .i64 p.f1) ∧ w'.cell? ⟨(ad.add (at_ * 7)).block, (ad.add (at_ * 7)).off + 2, none⟩ = some (.int .i64 p.f2) ∧ w'.cell? ⟨(ad.add (at_ * 7)).block, (ad.add (at_ * 7)).off + 3, none⟩ = some (.int .i64 p.f3) ∧ w'.cell? ⟨(ad.add (at_ * 7)).block, (ad.add (at_ * 7)).off + 4, none⟩ = some (.int .i64 p.f4) ∧ w'.cell? ⟨(ad.add (at_ * 7)).block, (ad.add (at_ * 7)).off + 5, none⟩ = some (.int .i64 p.f5) ∧ w'.cell? ⟨(ad.add (at_ * 7)).block, (ad.add (at_ * 7)).off + 6, none⟩ = some (.string p.f6)) (ds := [14]) #[false, false, false, false, false, false, false, false, false, false, false, false, false, false, false, false] (by kernel_rfl) rfl rfl ⟨x0, x1, x2, x3, e0, e1, e2, e3, e4, e5, e6⟩ (fun hHeld => ?_)
  refine take_ (i := 0) (N := some 17) (v := ?_) (a' := ?_) #[true, false, false, false, false, false, false, false, false, false, false, false, false, false, false, false] rfl rfl (by kernel_rfl) (fun _ _ _ h => h) (Or.inl ⟨by rfl, ?_⟩) hHeld ?_ ?_
  rotate_left
  · rintro w' ⟨s0, s1, s2, s3, s4, s5, s6, s7, s8, s9, s10⟩; go_simp; with_reducible rfl
  rotate_left
  · simp only [Act.put, List.setIfInBounds_toArray, List.set_cons_zero, List.set_cons_succ, i64_w, i32_w]; rfl
  refine pure_ (i := 1) (N := some 18) (v := ?_) (a' := ?_) #[true, true, false, false, false, false, false, false, false, false, false, false, false, false, false, false] rfl rfl (by kernel_rfl) (fun _ _ _ h => h) (Or.inl ⟨by rfl, ?_⟩) ?_ ?_
  rotate_left
  · intro w'; go_simp; with_reducible rfl
  rotate_left
  · simp only [Act.put, List.setIfInBounds_toArray, List.set_cons_zero, List.set_cons_succ, i64_w, i32_w]; rfl
  refine take_ (i := 2) (N := some 19) (v := ?_) (a' := ?_) #[true, true, true, false, false, false, false, false, false, false, false, false, false, false, false, false] rfl rfl (by kernel_rfl) (fun _ _ _ h => h) (Or.inl ⟨by rfl, ?_⟩) hHeld ?_ ?_
  rotate_left
  · rintro w' ⟨s0, s1, s2, s3, s4, s5, s6, s7, s8, s9, s10⟩; go_simp; with_reducible rfl
  rotate_left
  · simp only [Act.put, List.setIfInBounds_toArray, List.set_cons_zero, List.set_cons_succ, i64_w, i32_w]; rfl
  refine take_ (i := 3) (N := some 20) (v := ?_) (a' := ?_) #[true, true, true, true, false, false, false, false, false, false, false, false, false, false, false, false] rfl rfl (by kernel_rfl) (fun _ _ _ h => h) (Or.inl ⟨by rfl, ?_⟩) hHeld ?_ ?_
  rotate_left
  · rintro w' ⟨s0, s1, s2, s3, s4, s5, s6, s7, s8, s9, s10⟩; go_simp; with_reducible rfl
  rotate_left
  · simp only [Act.put, List.setIfInBounds_toArray, List.set_cons_zero, List.set_cons_succ, i64_w, i32_w]; rfl
  refine take_ (i := 4) (N := some 21) (v := ?_) (a' := ?_) #[true, true, true, true, true, false, false, false, false, false, false, false, false, false, false, false] rfl rfl (by kernel_rfl) (fun _ _ _ h => h) (Or.inl ⟨by rfl, ?_⟩) hHeld ?_ ?_
  rotate_left
  · rintro w' ⟨s0, s1, s2, s3, s4, s5, s6, s7, s8, s9, s10⟩; go_simp; with_reducible rfl
  rotate_left
  · simp only [Act.put, List.setIfInBounds_toArray, List.set_cons_zero, List.set_cons_succ, i64_w, i32_w]; rfl
  refine pure_ (i := 6) (N := some 23) (v := ?_) (a' := ?_) #[true, true, true, true, true, false, true, false, false, false, false, false, false, false, false, false] rfl rfl (by kernel_rfl) (fun _ _ _ h => h) (Or.inl ⟨by rfl, ?_⟩) ?_ ?_
  rotate_left
  · intro w'; go_simp; with_reducible rfl
  rotate_left
  · simp only [Act.put, List.setIfInBounds_toArray, List.set_cons_zero, List.set_cons_succ, i64_w, i32_w]; rfl
  clear x0 x1 x2 x3 e0 e1 e2 e3 e4 e5 e6
  refine one_ (i := 5) (N := some 22) #[true, true, true, true, true, true, true, false, false, false, false, false, false, false, false, false] rfl rfl (by kernel_rfl) (by decide) (fun K hK => ?_)
  refine goes_ Try.func26 (by kernel_rfl) rfl #[.agg #[.slice (some ad) L.length c0, .slice A1 A.length c1], .agg #[.int .i64 a, .int .i64 b]] (by rfl) rfl rfl (by first | rfl | (simp only [List.map_toArray, List.map_cons, List.map_nil]; rfl)) ?_
  refine (places_calls L A a b (some ad) c0 A1 c1 _ (Kd.C_below HC0.out HBd.out) hc0 (Kd.C_below HC1.out HBd.out) hc1 hL).mono ?_
  rintro e w25 ⟨B, cB, rfl, hR, hb25⟩
  have HB3 := Aside0.mk (HBd.out.trans (hb25.mono HBd.out.size))
  clear hb25
  obtain ⟨hx1, hx2, hx3⟩ := Kd.R_reads' hR
  obtain ⟨adB, rfl, hcB⟩ := Kd.at_int (xs := (places L a b).map (fun n : Nat => (n : Int))) hx3 (n : Int) n0 (by rw [List.length_map]; exact n1)
  have hrd : rd ((places L a b).map (fun n : Nat => (n : Int))) (n : Int) = (at_ : Int) := rd_places HPl.out
  rw [hrd, Int.toNat_natCast] at hcB
  clear hrd hx1 hx2 hx3 hR
  have x0 : w25.cell? ⟨w.heap.size, 0, none⟩ = some (.slice (some ad) L.length c0) := (blk_cell (keep_box H3.out HB3.out) 0).trans rfl
  have x1 : w25.cell? ⟨w.heap.size, 1, none⟩ = some (.slice A1 A.length c1) := (blk_cell (keep_box H3.out HB3.out) 1).trans rfl
  have x2 : w25.cell? ⟨w.heap.size + 1, 0, none⟩ = some (.int .i64 a) := (blk_cell (keep_box H4.out HB3.out) 0).trans rfl
  have x3 : w25.cell? ⟨w.heap.size + 1, 1, none⟩ = some (.int .i64 b) := (blk_cell (keep_box H4.out HB3.out) 1).trans rfl
  obtain ⟨ad', hA0, e0, e1, e2, e3, e4, e5, e6⟩ := at_T58 (Kd.C_below HC0.out HB3.out) (at_ : Int) m0 m1
  cases hA0
  rw [rd58_at HP.out] at e0 e1 e2 e3 e4 e5 e6
  simp only [Int.toNat_natCast, to58] at e0 e1 e2 e3 e4 e5 e6
  refine ⟨_, rfl, hK.out _ _ ⟨x0, x1, x2, x3, e0, e1, e2, e3, e4, e5, e6⟩ (fun hHeld => ?_)⟩
  clear hK K
  refine norm_ (a' := ?_) ?_ ?_
  rotate_left
  · show Act.put _ (some 22) _ = _
    simp only [Act.put, List.setIfInBounds_toArray, List.set_cons_zero, List.set_cons_succ, i64_w, i32_w]
    rfl
  refine pure_ (i := 7) (N := some 24) (v := ?_) (a' := ?_) #[true, true, true, true, true, true, true, true, false, false, false, false, false, false, false, false] rfl rfl (by kernel_rfl) (fun _ _ _ h => h) (Or.inl ⟨by rfl, ?_⟩) ?_ ?_
  rotate_left
  · intro w'; go_simp; with_reducible rfl
  rotate_left
  · simp only [Act.put, List.setIfInBounds_toArray, List.set_cons_zero, List.set_cons_succ, i64_w, i32_w]; rfl
  refine one_ (i := 8) (N := some 25) #[true, true, true, true, true, true, true, true, true, false, false, false, false, false, false, false] rfl rfl (by kernel_rfl) (by decide) (fun K hK => ?_)
  refine event_step (v := .int .i64 at_) (w1 := w25) (by rfl) (by first | (go_simp; done) | (go_simp; rfl)) ?_
  refine hK.out _ _ ⟨x0, x1, x2, x3, e0, e1, e2, e3, e4, e5, e6⟩ (fun hHeld => ?_)
  clear hK K hcB x0 x1 x2 x3 e0 e1 e2 e3 e4 e5 e6
  refine norm_ (a' := ?_) ?_ ?_
  rotate_left
  · show Act.put _ (some 25) _ = _
    simp only [Act.put, List.setIfInBounds_toArray, List.set_cons_zero, List.set_cons_succ, i64_w, i32_w]
    rfl
  refine pure_ (i := 9) (N := some 26) (v := ?_) (a' := ?_) #[true, true, true, true, true, true, true, true, true, true, false, false, false, false, false, false] rfl rfl (by kernel_rfl) (fun _ _ _ h => h) (Or.inl ⟨by rfl, ?_⟩) ?_ ?_
  rotate_left
  · intro w'; go_simp; with_reducible rfl
  rotate_left
  · simp only [Act.put, List.setIfInBounds_toArray, List.set_cons_zero, List.set_cons_succ, i64_w, i32_w]; rfl
  refine take_ (i := 10) (N := some 27) (v := ?_) (a' := ?_) #[true, true, true, true, true, true, true, true, true, true, true, false, false, false, false, false] rfl rfl (by kernel_rfl) (fun _ _ _ h => h) (Or.inl ⟨by rfl, ?_⟩) hHeld ?_ ?_
  rotate_left
  · rintro w' ⟨s0, s1, s2, s3, s4, s5, s6, s7, s8, s9, s10⟩; go_simp; with_reducible rfl
  rotate_left
  · simp only [Act.put, List.setIfInBounds_toArray, List.set_cons_zero, List.set_cons_succ, i64_w, i32_w]; rfl
  refine one_ (i := 11) (N := some 28) #[true, true, true, true, true, true, true, true, true, true, true, true, false, false, false, false] rfl rfl (by kernel_rfl) (by decide) (fun K hK => ?_)
  refine goes_ Try.func62 (by kernel_rfl) rfl #[.agg #[.slice (some ad) L.length c0, .slice A1 A.length c1], .agg #[.int .i64 p.f0, .int .i64 p.f1, .int .i64 p.f2, .int .i64 p.f3, .int .i64 p.f4, .int .i64 p.f5, .string p.f6]] (by rfl) rfl rfl (by first | rfl | (simp only [List.map_toArray, List.map_cons, List.map_nil]; rfl)) ?_
  refine (refSend_is L (some ad) c0 A1 c1 w25 (fun k => ok k ∧ k < w.heap.size) p A.length (Kd.F_below HF0.out HB3.out) hc0).mono ?_
  rintro e w31 ⟨v0, rfl, hR, hb31⟩
  obtain ⟨A6, c6, hv0, hRc, hRf⟩ := hR
  rw [List.length_map] at hv0 hRc hRf
  subst hv0
  have HB4 := Aside0.mk (HB3.out.trans (hb31.mono HB3.out.size))
  have x0 : w31.cell? ⟨w.heap.size, 0, none⟩ = some (.slice (some ad) L.length c0) := (blk_cell (keep_box H3.out HB4.out) 0).trans rfl
  have x1 : w31.cell? ⟨w.heap.size, 1, none⟩ = some (.slice A1 A.length c1) := (blk_cell (keep_box H3.out HB4.out) 1).trans rfl
  have x2 : w31.cell? ⟨w.heap.size + 1, 0, none⟩ = some (.int .i64 a) := (blk_cell (keep_box H4.out HB4.out) 0).trans rfl
  have x3 : w31.cell? ⟨w.heap.size + 1, 1, none⟩ = some (.int .i64 b) := (blk_cell (keep_box H4.out HB4.out) 1).trans rfl
  obtain ⟨ad', hA0, e0, e1, e2, e3, e4, e5, e6⟩ := at_T58 (Kd.C_below HC0.out HB4.out) (at_ : Int) m0 m1
  cases hA0
  rw [rd58_at HP.out] at e0 e1 e2 e3 e4 e5 e6
  simp only [Int.toNat_natCast, to58] at e0 e1 e2 e3 e4 e5 e6
  refine ⟨_, rfl, hK.out _ _ ⟨x0, x1, x2, x3, e0, e1, e2, e3, e4, e5, e6⟩ (fun hHeld => ?_)⟩
  clear hK K x0 x1 x2 x3 e0 e1 e2 e3 e4 e5 e6
  refine norm_ (a' := ?_) ?_ ?_
  rotate_left
  · show Act.put _ (some 28) _ = _
    simp only [Act.put, List.setIfInBounds_toArray, List.set_cons_zero, List.set_cons_succ, i64_w, i32_w]
    rfl
  refine pure_ (i := 12) (N := some 29) (v := ?_) (a' := ?_) #[true, true, true, true, true, true, true, true, true, true, true, true, true, false, false, false] rfl rfl (by kernel_rfl) (fun _ _ _ h => h) (Or.inl ⟨by rfl, ?_⟩) ?_ ?_
  rotate_left
  · intro w'; go_simp; with_reducible rfl
  rotate_left
  · simp only [Act.put, List.setIfInBounds_toArray, List.set_cons_zero, List.set_cons_succ, i64_w, i32_w]; rfl
  refine pure_ (i := 13) (N := some 30) (v := ?_) (a' := ?_) #[true, true, true, true, true, true, true, true, true, true, true, true, true, true, false, false] rfl rfl (by kernel_rfl) (fun _ _ _ h => h) (Or.inl ⟨by rfl, ?_⟩) ?_ ?_
  rotate_left
  · intro w'; go_simp; with_reducible rfl
  rotate_left
  · simp only [Act.put, List.setIfInBounds_toArray, List.set_cons_zero, List.set_cons_succ, i64_w, i32_w]; rfl
  refine last_ (i := 14) (N := none) #[true, true, true, true, true, true, true, true, true, true, true, true, true, true, true, false] rfl rfl (by kernel_rfl) (by decide) (fun K hK => ?_)
  refine storeRow_ (by rfl) 40 (.tmp 6) (.tmp 29) rfl rfl (w.heap.size + 1 + 1) #[.slice A6 (sendL p L).length c6, .slice A1 A.length c1] rfl rfl 40 _ (keep_box H6.out HB4.out) info40s rfl (by rw [List.all_toArray]; rfl) ?_
  refine hK.out _ _ ?_
  clear hK K
  refine pure_ (i := 15) (N := some 7) (v := ?_) (a' := ?_) #[true, true, true, true, true, true, true, true, true, true, true, true, true, true, true, true] rfl rfl (by kernel_rfl) (fun _ _ _ h => h) (Or.inl ⟨by rfl, ?_⟩) ?_ ?_
  rotate_left
  · intro w'; go_simp; with_reducible rfl
  rotate_left
  · simp only [Act.put, List.setIfInBounds_toArray, List.set_cons_zero, List.set_cons_succ, i64_w, i32_w]; rfl
  refine done_ (by kernel_rfl) ?_
  go_wp2
  refine bodyPost_ret (results_ct rfl _ _ (w.heap.size + 1 + 1) 40 #[.slice A6 (sendL p L).length c6, .slice A1 A.length c1] (0, 0) _ rfl (setRow_heap _ _ _ _ _ _ (keep_box H6.out HB4.out)) hu40 rfl info40s) rfl ?_
  have hwB := HB2.out.trans (HB3.out.mono HB2.out.size)
  refine ⟨_, rfl, ?_, below_setRow (HB2.out.trans (HB4.out.mono HB2.out.size)) (by omega) _⟩
  have hlt : w.heap.size + 1 + 1 < w25.heap.size := blk_lt (keep_box H6.out HB3.out)
  have hws := hwB.size
  refine (RF.step (ok := fun k => (ok k ∧ k < w.heap.size) ∨ w25.heap.size ≤ k) ⟨A6, c6, by rw [List.length_map], by rw [List.length_map]; exact hRc, by rw [List.length_map]; exact hRf⟩ (fun k hk _ => setRow_other _ _ _ _ (by rcases hk with hk | hk <;> omega))).mono (fun k hk => hk.elim (fun h => .inl h.1) (fun h => .inr (by omega)))
end
end Go.Proofs.Ytdibaeomepallaa.NW
/- The document's Part of layer 12, by hand. -/
namespace Go.Proofs.Ytdibaeomepallaa.NW
open Go.RowKit Go.Proofs.YtdibaeomepallaaW.PrintWords Go.Proofs.YtdibaeomepallaaW.PrintLast Go.Proofs.YtdibaeomepallaaW.PrintMore Go.Proofs.Ytdibaeomepallaa.PAll
set_option linter.unusedVariables false
set_option linter.unusedSimpArgs false
set_option maxRecDepth 100000
attribute [local go_sem high] eqA52
def isHop (x : S52) (a b : Int) : Bool := (x.f0 == a) && (x.f1 == b)
def ptTo (A : List S52) (a b : Int) : Nat → List S52
  | 0 => []
  | n + 1 => ptTo A a b n ++ (if isHop (rd_T52 A n) a b = true ∨ isHop (rd_T52 A n) b a = true then [] else [rd_T52 A n])
theorem ptTo_len (A : List S52) (a b : Int) (n : Nat) : (ptTo A a b n).length ≤ n := by
  induction n with
  | zero => simp [ptTo]
  | succ n ih => unfold ptTo; rw [List.length_append]; split <;> simp <;> omega
theorem k52_types : ∀ q, q ∈ (52 : Nat) :: k52.E → q ≠ 40 := by
  intro q hq
  simp [k52, Kd.iso, Kd.pair, Kd.int, Kd.scalar] at hq
  omega
theorem ret40h {w wr : World} {b2 b4 : Nat} {v v0 v0' u0 u1 : Value} {xs : List S52} (hne : b4 ≠ b2) (hw2 : w.heap.size ≤ b2) (hw4 : w.heap.size ≤ b4) (h2 : wr.heap[b2]? = some (.cells #[v0, v0'] 40 (0, 0))) (h4 : wr.heap[b4]? = some (.cells #[u0, u1] 40 (0, 0)))
    {v1 : Value} (hR : Kd.R k52 52 wr w.heap.size (fun _ => True) v xs) (hB : Below w.heap.size w wr) :
    (((wr.setCell ⟨b2, 1, none⟩ v).setCell ⟨b4, 0, none⟩ v1).setCell ⟨b4, 1, none⟩ v).heap[b4]? = some (.cells #[v1, v] 40 (0, 0)) ∧
    Kd.R k52 52 (((wr.setCell ⟨b2, 1, none⟩ v).setCell ⟨b4, 0, none⟩ v1).setCell ⟨b4, 1, none⟩ v) w.heap.size (fun _ => True) v xs ∧
    Below w.heap.size w (((wr.setCell ⟨b2, 1, none⟩ v).setCell ⟨b4, 0, none⟩ v1).setCell ⟨b4, 1, none⟩ v) := by
  have a1 := blk_far h4 (p := ⟨b2, 1, none⟩) hne v
  have a2 := blk_set a1 0 v1
  have a3 := blk_set a2 1 v
  refine ⟨a3, ?_, below_cell (below_cell (below_cell hB hw2 _) hw4 _) hw4 _⟩
  exact Kd.R_set (Kd.R_set (Kd.R_set hR h2 k52_types 1 v) a1 k52_types 0 v1) a2 k52_types 1 v
def ptL (A : List S52) (a b : Int) (on : Bool) : List S52 := if on = true then ptTo A a b A.length ++ [⟨a, b⟩] else ptTo A a b A.length
section
variable (L : List Pk) (A : List S52) (a b : Int) (on : Bool) (A0 : Option Addr) (c0 n0 : Nat) (A1 : Option Addr) (c1 : Nat) (w : World)
set_option maxHeartbeats 1000000 in
theorem refPart_no (hb : hopB a b = false) :
    Calls Try.prog 66 #[.agg #[.slice A0 n0 c0, .slice A1 A.length c1], .agg #[.int .i64 a, .int .i64 b], .bool on] w fun e w' => e = .returned (.tuple #[.agg #[.slice A0 n0 c0, .slice A1 A.length c1], .int .i64 1]) ∧ Below w.heap.size w w' := by
  have hu52 := Try.underlying52
  have hu40 := Try.underlying40
  obtain ⟨w2, hw2, hB2, hb3, hb4, hb6⟩ := boxes3 w (.cells #[.slice A0 n0 c0, .slice A1 A.length c1] 40 (0, 0)) (.cells #[.int .i64 a, .int .i64 b] 52 (0, 0)) (.cells #[.slice none 0 0, .slice none 0 0] 40 (0, 0))
  have HW := Aside0.mk hw2
  have H3 := Aside0.mk hb3
  have H6 := Aside0.mk hb6
  have HB2 := Aside0.mk hB2
  have HH := Aside0.mk hb
  clear hw2 hb3 hb4 hb6 hB2 hb
  go_enter Try.func66, Try.ntmps66
  go_wp2_with (first
    | ((with_reducible refine gate_dst (N := 11) rfl ?_); refine goesL_ (some 11) rfl rfl Try.func27 (by kernel_rfl) rfl #[.agg #[.int .i64 a, .int .i64 b]] rfl (by first | (simp only [List.map_toArray, List.map_cons, List.map_nil]; rfl) | rfl) ?_; refine (refIs_is a b _).mono ?_; rintro e w12 ⟨rfl, hb12⟩; rw [← HW.out] at hb12; rw [HH.out]; have HB := Aside0.mk hb12; clear hb12; refine ⟨_, rfl, ?_⟩)
    | ((with_reducible refine gate_dst (N := 13) rfl ?_); refine wpList_load_row rfl 40 (.tmp 3) rfl w.heap.size rfl 40 _ (0, 0) _ (keep_box H3.out HB.out) Try.underlying40 rfl info40s ?_)
    | ((with_reducible refine gate_store (t := 40) (p := 6) rfl ?_); refine wpList_store_row rfl 40 (.tmp 6) (.tmp 13) rfl (w.heap.size + 1 + 1) #[.slice A0 n0 c0, .slice A1 A.length c1] rfl rfl 40 _ (keep_box H6.out HB.out) info40s rfl (by rw [List.all_toArray]; rfl) ?_))
  refine bodyPost_ret (results_ct rfl _ _ (w.heap.size + 1 + 1) 40 #[.slice A0 n0 c0, .slice A1 A.length c1] (0, 0) _ rfl (setRow_heap _ _ _ _ _ _ (keep_box H6.out HB.out)) hu40 rfl info40s) rfl ?_
  exact ⟨rfl, below_setRow (HB2.out.trans (HB.out.mono HB2.out.size)) (by omega) _⟩
set_option maxHeartbeats 2000000 in
theorem refPart_ok (hb : hopB a b = true) (hC1 : Kd.C k52 w A1 A.length A) (hc1 : A.length ≤ c1) (hA : A.length ≤ 1000) :
    Calls Try.prog 66 #[.agg #[.slice A0 n0 c0, .slice A1 A.length c1], .agg #[.int .i64 a, .int .i64 b], .bool on] w fun e w' => ∃ v1, e = .returned (.tuple #[.agg #[.slice A0 n0 c0, v1], .int .i64 0]) ∧ Kd.R k52 52 w' w.heap.size (fun _ => True) v1 (ptL A a b on) ∧ Below w.heap.size w w' := by
  have hu52 := Try.underlying52
  have hu40 := Try.underlying40
  obtain ⟨w2, hw2, hB2, hb3, hb4, hb6⟩ := boxes3 w (.cells #[.slice A0 n0 c0, .slice A1 A.length c1] 40 (0, 0)) (.cells #[.int .i64 a, .int .i64 b] 52 (0, 0)) (.cells #[.slice none 0 0, .slice none 0 0] 40 (0, 0))
  have HW := Aside0.mk hw2
  have H3 := Aside0.mk hb3
  have H4 := Aside0.mk hb4
  have H6 := Aside0.mk hb6
  have HB2 := Aside0.mk hB2
  have HH := Aside0.mk hb
  have HC1 := Aside0.mk (Kd.C_below hC1 hB2)
  clear hw2 hb3 hb4 hb6 hB2 hb hC1
  go_enter Try.func66, Try.ntmps66
  go_wp2_with (((with_reducible refine gate_dst (N := 11) rfl ?_); refine goesL_ (some 11) rfl rfl Try.func27 (by kernel_rfl) rfl #[.agg #[.int .i64 a, .int .i64 b]] rfl (by first | (simp only [List.map_toArray, List.map_cons, List.map_nil]; rfl) | rfl) ?_; refine (refIs_is a b _).mono ?_; rintro e w12 ⟨rfl, hb12⟩; rw [← HW.out] at hb12; rw [HH.out]; have HB0 := Aside0.mk hb12; clear hb12; refine ⟨_, rfl, ?_⟩))
  go_loopg [8, 9] A.length (fun kq v5 v6 w' => ∃ i : Nat, v6 = .int .i64 i ∧ Aside0 (Kd.R k52 52 w' w2.heap.size (fun _ => True) v5 (ptTo A a b i)) ∧ Aside0 (i + kq = A.length) ∧ Aside0 (Below w2.heap.size w2 w'))
  case atStart => exact ⟨0, rfl, ⟨Kd.R_nil _ _ _ _ _⟩, ⟨by omega⟩, HB0⟩
  case round =>
    clear HB0
    obtain ⟨i, rfl, HO, HK, HB⟩ := hrel
    obtain ⟨A5, c5, rfl⟩ := Kd.R_slice HO.out
    have X1 : wr.cell? ⟨w.heap.size, 1, none⟩ = some (.slice A1 A.length c1) := (blk_cell (keep_box H3.out HB.out) 1).trans rfl
    cases gk with
    | zero =>
      have e : i = A.length := by have := HK.out; omega
      subst e
      have d1 : decide ((A.length : Int) < (A.length : Int)) = false := decide_eq_false (by omega)
      cases on with
      | false =>
        clear X1
        have X0 : wr.cell? ⟨w.heap.size, 0, none⟩ = some (.slice A0 n0 c0) := (blk_cell (keep_box H3.out HB.out) 0).trans rfl
        have X1 : wr.cell? ⟨w.heap.size, 1, none⟩ = some (.slice A1 A.length c1) := (blk_cell (keep_box H3.out HB.out) 1).trans rfl
        have f1 := blk_frozen (keep_box H3.out HB.out) 1
        have Y0 : wr.cell? ⟨w.heap.size + 1 + 1, 0, none⟩ = some (.slice none 0 0) := (blk_cell (keep_box H6.out HB.out) 0).trans rfl
        have Y1 : wr.cell? ⟨w.heap.size + 1 + 1, 1, none⟩ = some (.slice none 0 0) := (blk_cell (keep_box H6.out HB.out) 1).trans rfl
        have g0 := blk_frozen (keep_box H6.out HB.out) 0
        have g1 := blk_frozen (keep_box H6.out HB.out) 1
        go_wp2
        obtain ⟨z1, hR, hB⟩ := ret40h (w := w) (wr := wr) (b2 := w.heap.size) (b4 := w.heap.size + 1 + 1) (v := .slice A5 (ptTo A a b A.length).length c5) (v1 := .slice A0 n0 c0) (by omega) (by omega) (by omega) (keep_box H3.out HB.out) (keep_box H6.out HB.out) (Kd.R_lower HO.out HB2.out.size) (HB2.out.trans (HB.out.mono HB2.out.size))
        refine bodyPost_ret (results_ct rfl _ _ (w.heap.size + 1 + 1) 40 #[.slice A0 n0 c0, .slice A5 (ptTo A a b A.length).length c5] (0, 0) _ rfl z1 hu40 rfl info40s) rfl ?_
        exact ⟨_, rfl, by unfold ptL; first | (rw [if_pos rfl]; exact hR) | (rw [if_neg (by decide)]; exact hR), hB⟩
      | true =>
        have hlen := ptTo_len A a b A.length
        have Y0' : wr.cell? ⟨w.heap.size + 1, 0, none⟩ = some (.int .i64 a) := (blk_cell (keep_box H4.out HB.out) 0).trans rfl
        have Y1' : wr.cell? ⟨w.heap.size + 1, 1, none⟩ = some (.int .i64 b) := (blk_cell (keep_box H4.out HB.out) 1).trans rfl
        go_wp2_with ((with_reducible refine gate_builtin (b := .append) (xs := #[.tmp 50, .tmp 52]) rfl ?_); at_builtin; refine Kd.R_append k52 (w0 := w2) w2.heap.size rfl (.tmp 50) (.tmp 52) 38 52 _ 16 rfl Try.underlying38 info52 rfl (by decide) (by omega) _ _ (⟨a, b⟩ : S52) _ (fun _ => True) (fun _ => False) rfl rfl (k52_mkM _ _ _ (⟨a, b⟩ : S52)) (fun _ hk => hk.elim) (fun _ _ => trivial) HO.out HB.out HB.out.size (by omega) ?_; intro v1 w1 h1 h2 h3 h4; obtain ⟨A6, c6, rfl⟩ := Kd.R_slice h1; have HV1 := Aside0.mk h1; have HB1 := Aside0.mk h2; clear h1 h2 h3 h4; clear X1; have X0 : w1.cell? ⟨w.heap.size, 0, none⟩ = some (.slice A0 n0 c0) := (blk_cell (keep_box H3.out HB1.out) 0).trans rfl; have X1 : w1.cell? ⟨w.heap.size, 1, none⟩ = some (.slice A1 A.length c1) := (blk_cell (keep_box H3.out HB1.out) 1).trans rfl; have f1 := blk_frozen (keep_box H3.out HB1.out) 1; have Y0 : w1.cell? ⟨w.heap.size + 1 + 1, 0, none⟩ = some (.slice none 0 0) := (blk_cell (keep_box H6.out HB1.out) 0).trans rfl; have Y1 : w1.cell? ⟨w.heap.size + 1 + 1, 1, none⟩ = some (.slice none 0 0) := (blk_cell (keep_box H6.out HB1.out) 1).trans rfl; have g0 := blk_frozen (keep_box H6.out HB1.out) 0; have g1 := blk_frozen (keep_box H6.out HB1.out) 1)
        have hv := HV1.out
        simp only [List.length_append, List.length_singleton] at hv
        obtain ⟨z1, hR, hB⟩ := ret40h (w := w) (wr := w1) (b2 := w.heap.size) (b4 := w.heap.size + 1 + 1) (v := .slice A6 ((ptTo A a b A.length).length + 1) c6) (v1 := .slice A0 n0 c0) (by omega) (by omega) (by omega) (keep_box H3.out HB1.out) (keep_box H6.out HB1.out) (Kd.R_lower hv HB2.out.size) (HB2.out.trans (HB1.out.mono HB2.out.size))
        refine bodyPost_ret (results_ct rfl _ _ (w.heap.size + 1 + 1) 40 #[.slice A0 n0 c0, .slice A6 ((ptTo A a b A.length).length + 1) c6] (0, 0) _ rfl z1 hu40 rfl info40s) rfl ?_
        exact ⟨_, rfl, by unfold ptL; first | (rw [if_pos rfl]; exact hR) | (rw [if_neg (by decide)]; exact hR), hB⟩
    | succ k1 =>
      have hi : i < A.length := by have := HK.out; omega
      have d1 : decide ((i : Int) < (A.length : Int)) = true := decide_eq_true (by omega)
      have i0 : (0 : Int) ≤ (i : Int) := by omega
      have i1 : (i : Int) < (A.length : Int) := by omega
      have hlen := ptTo_len A a b i
      obtain ⟨ad, hA, e0, e1⟩ := at_T52 (Kd.C_below HC1.out HB.out) (i : Int) i0 i1
      subst hA
      simp only [Int.toNat_natCast] at e0 e1
      have Y0 : wr.cell? ⟨w.heap.size + 1, 0, none⟩ = some (.int .i64 a) := (blk_cell (keep_box H4.out HB.out) 0).trans rfl
      have Y1 : wr.cell? ⟨w.heap.size + 1, 1, none⟩ = some (.int .i64 b) := (blk_cell (keep_box H4.out HB.out) 1).trans rfl
      have HS := Aside0.mk (show ptTo A a b (i + 1) = ptTo A a b i ++ (if isHop (rd_T52 A i) a b = true ∨ isHop (rd_T52 A i) b a = true then [] else [rd_T52 A i]) from rfl)
      generalize hxx : rd_T52 A (i : Int) = x at *
      clear hxx
      cases h1 : isHop x a b with
      | true =>
        have g1 : ((x.f0 == a) && (x.f1 == b)) = true := h1
        have HE := Aside0.mk h1
        clear h1
        go_wp2
        go_quiet (fail)
        go_wp2
        go_roundg k1
        case measure => omega
        case rel => exact ⟨i + 1, by first | rfl | simp, ⟨by rw [HS.out, if_pos (.inl HE.out), List.append_nil]; exact Kd.R_drewN HO.out _⟩, ⟨by have := HK.out; omega⟩, ⟨pw_below_drewN HB.out _⟩⟩
      | false =>
        have g1 : ((x.f0 == a) && (x.f1 == b)) = false := h1
        have HE := Aside0.mk h1
        clear h1
        cases h2 : isHop x b a with
        | true =>
          have g2 : ((x.f0 == b) && (x.f1 == a)) = true := h2
          have HE2 := Aside0.mk h2
          clear h2
          go_wp2
          go_quiet (fail)
          go_wp2
          go_roundg k1
          case measure => omega
          case rel => exact ⟨i + 1, by first | rfl | simp, ⟨by rw [HS.out, if_pos (.inr HE2.out), List.append_nil]; exact Kd.R_drewN HO.out _⟩, ⟨by have := HK.out; omega⟩, ⟨pw_below_drewN HB.out _⟩⟩
        | false =>
          have g2 : ((x.f0 == b) && (x.f1 == a)) = false := h2
          have HE2 := Aside0.mk h2
          clear h2
          go_wp2
          go_quiet (fail)
          go_wp2_with ((with_reducible refine gate_builtin (b := .append) (xs := #[.tmp 41, .tmp 47]) rfl ?_); at_builtin; refine Kd.R_append k52 (w0 := w2) w2.heap.size rfl (.tmp 41) (.tmp 47) 38 52 _ 16 rfl Try.underlying38 info52 rfl (by decide) (by omega) _ _ x _ (fun _ => True) (fun _ => False) rfl rfl (k52_mkM _ _ _ x) (fun _ hk => hk.elim) (fun _ _ => trivial) (Kd.R_drewN HO.out nq) (pw_below_drewN HB.out nq) HB.out.size (by omega) ?_; intro v1 w1 h1 h2 h3 h4; have HV1 := Aside0.mk h1; have HB1 := Aside0.mk h2; clear h1 h2 h3 h4)
          go_roundg k1
          case measure => omega
          case rel => exact ⟨i + 1, by first | rfl | simp, by rw [HS.out, if_neg (fun e => by rw [HE.out, HE2.out] at e; simp at e)]; exact HV1, ⟨by have := HK.out; omega⟩, HB1⟩
end
end Go.Proofs.Ytdibaeomepallaa.NW
