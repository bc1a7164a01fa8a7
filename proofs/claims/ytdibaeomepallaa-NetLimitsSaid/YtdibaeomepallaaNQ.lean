/- The net, plain: the rows of a net against a list of packets in the order in which they were sent. -/
import Derived.Test.YtdibaeomepallaaNL
namespace Go.Proofs.Ytdibaeomepallaa.NW
open Go.RowKit Go.Proofs.YtdibaeomepallaaW.PrintWords Go.Proofs.Ytdibaeomepallaa.PAll
set_option linter.unusedVariables false
set_option linter.unusedSimpArgs false
/-- The packets of one place of the array. -/
def ofP (i : Nat) (p : Pk) : Bool := at2 p.f0 p.f1 == i
structure NRel (q : List (List Pk)) (L : List Pk) : Prop where
  len : q.length = 256
  row : ∀ i, i < 256 → q[i]? = some (L.filter (ofP i))
  ok : ∀ p ∈ L, okP p = true
theorem at2_lt {a b : Int} (ha : 1 ≤ a ∧ a ≤ 15) (hb : 1 ≤ b ∧ b ≤ 15) : at2 a b < 256 := by unfold at2; omega
theorem at2_inj {a b c d : Int} (ha : 1 ≤ a ∧ a ≤ 15) (hb : 1 ≤ b ∧ b ≤ 15) (hc : 1 ≤ c ∧ c ≤ 15) (hd : 1 ≤ d ∧ d ≤ 15) (h : at2 a b = at2 c d) : a = c ∧ b = d := by unfold at2 at h; omega
theorem okP_at {p : Pk} (h : okP p = true) : at2 p.f0 p.f1 < 256 := at2_lt (okP_parts h).1 (okP_parts h).2.1
theorem sum_ind (k : Nat) : ∀ n, k < n → ((List.range n).map (fun i => if k = i then 1 else 0)).sum = 1 := by
  intro n
  induction n with
  | zero => intro h; omega
  | succ n ih =>
    intro h
    rw [List.range_succ, List.map_append, List.sum_append]
    by_cases hk : k = n
    · subst hk
      have : ((List.range k).map (fun i => if k = i then 1 else 0)).sum = 0 := by
        have hz : ∀ m, m ≤ k → ((List.range m).map (fun i => if k = i then 1 else 0)).sum = 0 := by
          intro m
          induction m with
          | zero => intro _; rfl
          | succ m ihm =>
            intro hm
            rw [List.range_succ, List.map_append, List.sum_append, ihm (by omega)]
            simp
            omega
        exact hz k (Nat.le_refl _)
      rw [this]
      simp
    · rw [ih (by omega)]
      simp
      omega
theorem sum_rows (n : Nat) : ∀ L : List Pk, (∀ p ∈ L, at2 p.f0 p.f1 < n) → ((List.range n).map (fun i => (L.filter (ofP i)).length)).sum = L.length := by
  intro L
  induction L with
  | nil =>
    intro _
    simp only [List.filter_nil, List.length_nil]
    induction n with
    | zero => rfl
    | succ n ih => rw [List.range_succ, List.map_append, List.sum_append, ih (fun p hp => by cases hp)]; rfl
  | cons p r ih =>
    intro h
    have h1 := ih (fun x hx => h x (List.mem_cons_of_mem _ hx))
    have h2 := sum_ind (at2 p.f0 p.f1) n (h p List.mem_cons_self)
    have split : ∀ l : List Nat, (l.map (fun i => ((p :: r).filter (ofP i)).length)).sum = (l.map (fun i => (r.filter (ofP i)).length)).sum + (l.map (fun i => if at2 p.f0 p.f1 = i then 1 else 0)).sum := by
      intro l
      induction l with
      | nil => rfl
      | cons a l ihl =>
        simp only [List.map_cons, List.sum_cons, ihl]
        have : ((p :: r).filter (ofP a)).length = (r.filter (ofP a)).length + (if at2 p.f0 p.f1 = a then 1 else 0) := by
          rw [List.filter_cons]
          by_cases e : at2 p.f0 p.f1 = a
          · rw [if_pos (by unfold ofP; exact beq_iff_eq.2 e), if_pos e]; rfl
          · rw [if_neg (by unfold ofP; simpa using e), if_neg e]; rfl
        omega
    rw [split, h1, h2]
    rfl
theorem NRel.eq {q : List (List Pk)} {L : List Pk} (h : NRel q L) : q = (List.range 256).map (fun i => L.filter (ofP i)) := by
  apply List.ext_getElem?
  intro i
  by_cases hi : i < 256
  · rw [h.row i hi, List.getElem?_map, List.getElem?_range hi]
    rfl
  · rw [List.getElem?_eq_none (by rw [h.len]; omega), List.getElem?_eq_none (by simp; omega)]
theorem NRel.cnt {q : List (List Pk)} {L : List Pk} (h : NRel q L) : cnt q = L.length := by
  rw [← sum_rows 256 L (fun p hp => okP_at (h.ok p hp))]
  conv => lhs; rw [h.eq]
  unfold NW.cnt
  rw [List.map_map]
  rfl
theorem NRel.getD {q : List (List Pk)} {L : List Pk} (h : NRel q L) {i : Nat} (hi : i < 256) : q.getD i [] = L.filter (ofP i) := by
  rw [List.getD_eq_getElem?_getD, h.row i hi]
  rfl
theorem nrel_new : NRel (List.replicate 256 []) [] := ⟨List.length_replicate, fun i hi => by rw [List.getElem?_replicate, if_pos hi]; rfl, fun p hp => by cases hp⟩
def hopP (a b : Int) (p : Pk) : Bool := decide (p.f0 = a) && decide (p.f1 = b)
theorem filter_hop {L : List Pk} (hL : ∀ p ∈ L, okP p = true) {a b : Int} (ha : 1 ≤ a ∧ a ≤ 15) (hb : 1 ≤ b ∧ b ≤ 15) : L.filter (ofP (at2 a b)) = L.filter (hopP a b) := by
  apply List.filter_congr
  intro p hp
  obtain ⟨h1, h2, h3⟩ := okP_parts (hL p hp)
  unfold ofP hopP
  rw [Bool.eq_iff_iff]
  simp only [beq_iff_eq, Bool.and_eq_true, decide_eq_true_eq]
  exact ⟨fun e => at2_inj h1 h2 ha hb e, fun ⟨e1, e2⟩ => by rw [e1, e2]⟩
/-- A hop's packets. -/
theorem NRel.rowAt {q : List (List Pk)} {L : List Pk} (h : NRel q L) {a b : Int} (hb : hopB a b = true) : rowAt q a b = L.filter (hopP a b) := by
  obtain ⟨h1, h2, h3⟩ := hopB_iff.1 hb
  unfold NW.rowAt
  rw [if_pos hb, h.getD (at2_lt h1 h2), filter_hop h.ok h1 h2]
/-- A list with a packet more. -/
theorem NRel.push {q : List (List Pk)} {L : List Pk} (h : NRel q L) {p : Pk} (hp : okP p = true) : NRel (q.set (at2 p.f0 p.f1) (q.getD (at2 p.f0 p.f1) [] ++ [p])) (L ++ [p]) := by
  have hlt := okP_at hp
  refine ⟨by simp [h.len], fun i hi => ?_, fun x hx => ?_⟩
  · by_cases he : at2 p.f0 p.f1 = i
    · subst he
      rw [List.getElem?_set_self (by rw [h.len]; exact hlt), h.getD hlt, List.filter_append, List.filter_cons, if_pos (by unfold ofP; exact beq_self_eq_true _)]
      rfl
    · rw [List.getElem?_set_ne he, h.row i hi, List.filter_append, List.filter_cons, if_neg (by unfold ofP; simpa using he)]
      simp
  · rcases List.mem_append.1 hx with hx | hx
    · exact h.ok x hx
    · rw [List.mem_singleton.1 hx]; exact hp
def sendL (p : Pk) (L : List Pk) : List Pk := if okP p = true ∧ L.length < 400 then L ++ [p] else L
theorem NRel.send {q : List (List Pk)} {L : List Pk} (h : NRel q L) (p : Pk) : NRel (sendQ p q) (sendL p L) := by
  unfold sendQ sendL
  rw [h.cnt]
  by_cases hc : okP p = true ∧ L.length < 400
  · rw [if_pos hc, if_pos hc]
    exact h.push hc.1
  · rw [if_neg hc, if_neg hc]
    exact h
theorem NRel.sendE {q : List (List Pk)} {L : List Pk} (h : NRel q L) (p : Pk) : NW.sendE p q = if okP p = true then (if L.length < 400 then 0 else 6) else 1 := by
  unfold NW.sendE
  rw [h.cnt]
theorem sendL_le {p : Pk} {L : List Pk} (h : L.length ≤ 400) : (sendL p L).length ≤ 400 := by
  unfold sendL
  split
  · rename_i hc; rw [List.length_append]; simp; omega
  · exact h
/-- The places of a list where P holds. -/
def placesFrom (P : Pk → Bool) (o : Nat) : List Pk → List Nat
  | [] => []
  | p :: r => if P p then o :: placesFrom P (o + 1) r else placesFrom P (o + 1) r
theorem places_len (P : Pk → Bool) : ∀ (L : List Pk) (o : Nat), (placesFrom P o L).length = (L.filter P).length := by
  intro L
  induction L with
  | nil => intro o; rfl
  | cons p r ih =>
    intro o
    unfold placesFrom
    rw [List.filter_cons]
    split
    · rw [List.length_cons, List.length_cons, ih]
    · exact ih _
/-- The i-th of them: the packet there, and the list without it. -/
theorem places_at (P : Pk → Bool) : ∀ (L : List Pk) (o i at_ : Nat), (placesFrom P o L)[i]? = some at_ → o ≤ at_ ∧ at_ - o < L.length ∧ ∃ p, L[at_ - o]? = some p ∧ P p = true ∧ (L.filter P)[i]? = some p ∧ (L.eraseIdx (at_ - o)).filter P = (L.filter P).eraseIdx i ∧ ∀ Q : Pk → Bool, Q p = false → (L.eraseIdx (at_ - o)).filter Q = L.filter Q := by
  intro L
  induction L with
  | nil => intro o i at_ h; simp [placesFrom] at h
  | cons x r ih =>
    intro o i at_ h
    unfold placesFrom at h
    split at h
    · rename_i hx
      cases i with
      | zero =>
        rw [List.getElem?_cons_zero] at h
        injection h with h
        subst h
        refine ⟨Nat.le_refl _, by simp, x, by simp, hx, by rw [List.filter_cons, if_pos hx]; rfl, ?_, fun Q hQ => ?_⟩
        · rw [Nat.sub_self, List.eraseIdx_zero, List.tail_cons, List.filter_cons, if_pos hx, List.eraseIdx_zero, List.tail_cons]
        · rw [Nat.sub_self, List.eraseIdx_zero, List.tail_cons, List.filter_cons, if_neg (by rw [hQ]; decide)]
      | succ i =>
        rw [List.getElem?_cons_succ] at h
        obtain ⟨h1, h2, p, h3, h4, h5, h6, h7⟩ := ih (o + 1) i at_ h
        have e : at_ - o = (at_ - (o + 1)) + 1 := by omega
        refine ⟨by omega, by rw [e, List.length_cons]; omega, p, by rw [e, List.getElem?_cons_succ]; exact h3, h4, by rw [List.filter_cons, if_pos hx, List.getElem?_cons_succ]; exact h5, ?_, fun Q hQ => ?_⟩
        · rw [e, List.eraseIdx_cons_succ, List.filter_cons, if_pos hx, List.filter_cons, if_pos hx, List.eraseIdx_cons_succ, h6]
        · rw [e, List.eraseIdx_cons_succ, List.filter_cons, List.filter_cons, h7 Q hQ]
    · rename_i hx
      obtain ⟨h1, h2, p, h3, h4, h5, h6, h7⟩ := ih (o + 1) i at_ h
      have e : at_ - o = (at_ - (o + 1)) + 1 := by omega
      refine ⟨by omega, by rw [e, List.length_cons]; omega, p, by rw [e, List.getElem?_cons_succ]; exact h3, h4, by rw [List.filter_cons, if_neg hx]; exact h5, ?_, fun Q hQ => ?_⟩
      · rw [e, List.eraseIdx_cons_succ, List.filter_cons, if_neg hx, List.filter_cons, if_neg hx, h6]
      · rw [e, List.eraseIdx_cons_succ, List.filter_cons, List.filter_cons, h7 Q hQ]
def places (L : List Pk) (a b : Int) : List Nat := placesFrom (hopP a b) 0 L
/-- Without a hop's packet. -/
theorem NRel.del {q : List (List Pk)} {L : List Pk} (h : NRel q L) {a b i : Int} (hb : hopB a b = true) {at_ : Nat} (ht : (places L a b)[i.toNat]? = some at_) : NRel (delQ q a b i) (L.eraseIdx at_) ∧ ∃ p, L[at_]? = some p ∧ (L.filter (hopP a b))[i.toNat]? = some p := by
  obtain ⟨h1, h2, h3⟩ := hopB_iff.1 hb
  obtain ⟨_, hl, p, g3, g4, g5, g6, g7⟩ := places_at _ L 0 _ _ ht
  rw [Nat.sub_zero] at *
  have hlt := at2_lt h1 h2
  have hpa : at2 p.f0 p.f1 = at2 a b := by
    unfold hopP at g4
    simp only [Bool.and_eq_true, decide_eq_true_eq] at g4
    rw [g4.1, g4.2]
  refine ⟨⟨by simp [delQ, h.len], fun j hj => ?_, fun x hx => h.ok x (List.mem_of_mem_eraseIdx hx)⟩, p, g3, g5⟩
  unfold delQ
  by_cases he : at2 a b = j
  · subst he
    rw [List.getElem?_set_self (by rw [h.len]; exact hlt), h.rowAt hb, filter_hop (fun x hx => h.ok x (List.mem_of_mem_eraseIdx hx)) h1 h2, g6]
  · rw [List.getElem?_set_ne he, h.row j hj, g7 (ofP j) (by unfold ofP; rw [hpa]; simpa using he)]
theorem cnt_set {q : List (List Pk)} {i : Nat} {xs : List Pk} (hi : q[i]? = some xs) (ys : List Pk) : cnt (q.set i ys) + xs.length = cnt q + ys.length := by
  unfold cnt
  induction q generalizing i with
  | nil => simp at hi
  | cons x r ih =>
    cases i with
    | zero =>
      rw [List.getElem?_cons_zero] at hi
      injection hi with hi
      subst hi
      simp only [List.set_cons_zero, List.map_cons, List.sum_cons]
      omega
    | succ i =>
      rw [List.getElem?_cons_succ] at hi
      have := ih hi
      simp only [List.set_cons_succ, List.map_cons, List.sum_cons]
      omega
/-- The rows behind n rounds of Clear: those of the node that are done are empty. -/
theorem clrQ_at {q : List (List Pk)} (hl : q.length = 256) (of : Nat) (ho : of < 16) : ∀ n, n ≤ 16 → ∀ i, i < 256 → (clrQ q of n)[i]? = if (∃ j, j < n ∧ (i = of * 16 + j ∨ i = j * 16 + of)) then some [] else q[i]? := by
  intro n
  induction n with
  | zero =>
    intro _ i hi
    rw [if_neg (by rintro ⟨j, hj, _⟩; omega)]
    rfl
  | succ n ih =>
    intro hn i hi
    have ih := ih (by omega) i hi
    have hcl : ∀ m, (clrQ q of m).length = 256 := by
      intro m
      induction m with
      | zero => exact hl
      | succ m ihm => simp [clrQ, ihm]
    unfold clrQ
    rw [List.getElem?_set, List.getElem?_set]
    by_cases h1 : n * 16 + of = i
    · rw [if_pos h1, if_pos (by rw [List.length_set, hcl]; omega), if_pos ⟨n, by omega, .inr h1.symm⟩]
    · rw [if_neg h1]
      by_cases h2 : of * 16 + n = i
      · rw [if_pos h2, if_pos (by rw [hcl]; omega), if_pos ⟨n, by omega, .inl h2.symm⟩]
      · rw [if_neg h2, ih]
        by_cases h3 : ∃ j, j < n ∧ (i = of * 16 + j ∨ i = j * 16 + of)
        · obtain ⟨j, hj, h3⟩ := h3
          rw [if_pos ⟨j, hj, h3⟩, if_pos ⟨j, by omega, h3⟩]
        · rw [if_neg h3, if_neg]
          rintro ⟨j, hj, h4⟩
          by_cases hjn : j = n
          · subst hjn; omega
          · exact h3 ⟨j, by omega, h4⟩
def clearP (of : Int) (p : Pk) : Bool := decide (p.f0 ≠ of) && decide (p.f1 ≠ of)
theorem NRel.clear0 {q : List (List Pk)} {L : List Pk} (h : NRel q L) (of : Nat) (h1 : 1 ≤ of) (h15 : of ≤ 15) : NRel (clrQ q of 16) (L.filter (clearP of)) := by
  have hcl : ∀ m, (clrQ q of m).length = 256 := by
    intro m
    induction m with
    | zero => exact h.len
    | succ m ihm => simp [clrQ, ihm]
  refine ⟨hcl 16, fun i hi => ?_, fun p hp => h.ok p (List.mem_filter.1 hp).1⟩
  rw [clrQ_at h.len of (by omega) 16 (Nat.le_refl _) i hi]
  by_cases hc : ∃ j, j < 16 ∧ (i = of * 16 + j ∨ i = j * 16 + of)
  · rw [if_pos hc]
    congr 1
    symm
    rw [List.filter_eq_nil_iff]
    intro p hp
    obtain ⟨hp1, hp2⟩ := List.mem_filter.1 hp
    obtain ⟨g1, g2, g3⟩ := okP_parts (h.ok p hp1)
    unfold clearP at hp2
    simp only [Bool.and_eq_true, decide_eq_true_eq] at hp2
    obtain ⟨j, hj, hc⟩ := hc
    unfold ofP
    simp only [beq_iff_eq]
    unfold at2
    rcases hc with hc | hc <;> omega
  · rw [if_neg hc, h.row i hi]
    congr 1
    rw [List.filter_filter]
    apply List.filter_congr
    intro p hp
    obtain ⟨g1, g2, g3⟩ := okP_parts (h.ok p hp)
    cases hb : ofP i p with
    | false => rfl
    | true =>
      unfold ofP at hb
      simp only [beq_iff_eq] at hb
      unfold at2 at hb
      rw [Bool.true_and]
      symm
      unfold clearP
      simp only [Bool.and_eq_true, decide_eq_true_eq]
      refine ⟨fun e => hc ⟨p.f1.toNat, by omega, .inl (by rw [e] at hb; simp at hb; omega)⟩, fun e => hc ⟨p.f0.toNat, by omega, .inr (by rw [e] at hb; simp at hb; omega)⟩⟩
theorem clrK_cnt {q : List (List Pk)} {L : List Pk} (h : NRel q L) (of : Nat) (h1 : 1 ≤ of) (h15 : of ≤ 15) : ∀ n, n ≤ 16 → clrK q of n + cnt (clrQ q of n) = cnt q := by
  have hcl : ∀ m, (clrQ q of m).length = 256 := by
    intro m
    induction m with
    | zero => exact h.len
    | succ m ihm => simp [clrQ, ihm]
  intro n
  induction n with
  | zero => intro _; simp [clrK, clrQ]
  | succ n ih =>
    intro hn
    have ih := ih (by omega)
    rw [clrK, clrQ]
    obtain ⟨x1, hx1⟩ : ∃ xs, (clrQ q of n)[of * 16 + n]? = some xs := ⟨_, List.getElem?_eq_getElem (by rw [hcl]; omega)⟩
    obtain ⟨x2, hx2⟩ : ∃ xs, (clrQ q of n)[n * 16 + of]? = some xs := ⟨_, List.getElem?_eq_getElem (by rw [hcl]; omega)⟩
    have e1 : (clrQ q of n).getD (of * 16 + n) [] = x1 := by rw [List.getD_eq_getElem?_getD, hx1]; rfl
    have e2 : (clrQ q of n).getD (n * 16 + of) [] = x2 := by rw [List.getD_eq_getElem?_getD, hx2]; rfl
    rw [e1, e2]
    have c1 := cnt_set hx1 ([] : List Pk)
    by_cases hne : n = of
    · subst hne
      have hx : x1 = [] := by
        rw [clrQ_at h.len n (by omega) n (by omega) _ (by omega)] at hx1
        split at hx1
        · injection hx1 with hx1; exact hx1.symm
        · rw [h.row _ (by omega)] at hx1
          injection hx1 with hx1
          rw [← hx1, List.filter_eq_nil_iff]
          intro p hp
          obtain ⟨g1, g2, g3⟩ := okP_parts (h.ok p hp)
          unfold ofP
          simp only [beq_iff_eq]
          unfold at2
          omega
      have hxx : x2 = x1 := by rw [hx1] at hx2; injection hx2 with hx2; exact hx2.symm
      have c2 := cnt_set (q := (clrQ q n n).set (n * 16 + n) []) (i := n * 16 + n) (xs := []) (List.getElem?_set_self (by rw [hcl]; omega)) ([] : List Pk)
      rw [hx] at c1 hxx
      rw [hxx]
      simp only [List.length_nil] at *
      rw [hx]
      simp only [List.length_nil]
      omega
    · have c2 := cnt_set (q := (clrQ q of n).set (of * 16 + n) []) (i := n * 16 + of) (xs := x2) (by rw [List.getElem?_set_ne (by omega)]; exact hx2) ([] : List Pk)
      simp only [List.length_nil] at *
      omega
def clearL (of : Int) (L : List Pk) : List Pk := L.filter (clearP of)
theorem NRel.clear {q : List (List Pk)} {L : List Pk} (h : NRel q L) (of : Int) : NRel (clearQ q of) (clearL of L) ∧ clearK q of + (clearL of L).length = L.length := by
  unfold clearQ clearK clearL
  by_cases ho : 1 ≤ of ∧ of ≤ 15
  · rw [if_pos ho, if_pos ho]
    obtain ⟨n, rfl⟩ := Int.eq_ofNat_of_zero_le (show 0 ≤ of by omega)
    have h1 := h.clear0 n (by omega) (by omega)
    have h2 := clrK_cnt h n (by omega) (by omega) 16 (Nat.le_refl _)
    rw [h1.cnt, h.cnt] at h2
    exact ⟨h1, h2⟩
  · rw [if_neg ho, if_neg ho]
    have : L.filter (clearP of) = L := by
      rw [List.filter_eq_self]
      intro p hp
      obtain ⟨g1, g2, g3⟩ := okP_parts (h.ok p hp)
      unfold clearP
      simp only [Bool.and_eq_true, decide_eq_true_eq]
      omega
    rw [this]
    exact ⟨h, by omega⟩
end Go.Proofs.Ytdibaeomepallaa.NW
