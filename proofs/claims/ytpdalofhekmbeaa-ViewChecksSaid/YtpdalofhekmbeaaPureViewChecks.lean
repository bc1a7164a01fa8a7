import Derived.Test.YtpdalofhekmbeaaPViewChecksy
namespace Go.Proofs.Ytpdalofhekmbeaa.Pure
open Go.RowKit Go.Proofs.Ytpdalofhekmbeaa.PViewChecks Go.Proofs.YtpdalofhekmbeaaW.PrintWords Go.Proofs.YtpdalofhekmbeaaW.PrintLast Go.Proofs.YtpdalofhekmbeaaW.PrintMore 
set_option linter.unusedSimpArgs false
set_option linter.unusedVariables false

namespace ViewChecksC
theorem lift {α : Type} {f : Nat → Option α} (hm : ∀ k, LeO (f k) (f (k + 1))) {a b : Nat} (h : a ≤ b) {r : α} (e : f a = some r) : f b = some r := by
  obtain ⟨d, rfl⟩ : ∃ d, b = a + d := ⟨b - a, by omega⟩
  clear h
  induction d with
  | zero => exact e
  | succ d ih => exact hm _ _ ih
theorem wrapn {n : Nat} (h : n ≤ 1000000) : wrap64 ((n : Int) + 1) = ((n + 1 : Nat) : Int) := by unfold wrap64; omega
theorem wrapp {n : Nat} (h : n ≤ 1000000) (h0 : 0 < n) : wrap64 ((n : Int) - 1) = ((n - 1 : Nat) : Int) := by unfold wrap64; omega
theorem drop_parts {α : Type} {l : List α} {i : Nat} {x : α} {r : List α} (h : l.drop i = x :: r) : l[i]? = some x ∧ i < l.length ∧ l.drop (i + 1) = r := by
  have hi : i < l.length := by
    rcases Nat.lt_or_ge i l.length with g | g
    · exact g
    · rw [List.drop_eq_nil_of_le g] at h; cases h
  rw [List.drop_eq_getElem_cons hi] at h
  injection h with h1 h2
  exact ⟨by rw [List.getElem?_eq_getElem hi, h1], hi, h2⟩
@[reducible] def toR (x : S53) : S62 := ⟨x.f0, x.f1, x.f2⟩
theorem rd_int {l : List Int} {i : Nat} {x : Int} (h : l[i]? = some x) : rd l (i : Int) = x := by
  unfold rd; rw [Int.toNat_natCast, List.getD_eq_getElem?_getD, h]; rfl
theorem rd_M {l : List S53} {i : Nat} {x : S53} (h : l[i]? = some x) : rd_T53 l (i : Int) = x := by
  unfold rd_T53; rw [Int.toNat_natCast, List.getD_eq_getElem?_getD, h]; rfl
theorem rd_R {l : List S53} {i : Nat} {x : S53} (h : l[i]? = some x) : rd_T62 (l.map toR) (i : Int) = toR x := by
  unfold rd_T62; rw [Int.toNat_natCast, List.getD_eq_getElem?_getD, List.getElem?_map, h]; rfl

theorem view_nodes_is (l : List S53) (hl : l.length ≤ 1000) : ∀ (r : List S53) (i k : Nat) (acc : List Int), l.drop i = r → i + r.length = l.length → acc.length = i → r.length < k → view_nodes.l0 k acc l (l.length : Int) (i : Int) = some (acc ++ r.map (·.f0)) := by
  intro r
  induction r with
  | nil =>
    intro i k acc hd hi ha hk
    obtain ⟨k, rfl⟩ : ∃ q, k = q + 1 := ⟨k - 1, by simp at hk; omega⟩
    simp only [view_nodes.l0]
    rw [if_neg (by simp at hi; omega)]
    simp
  | cons x r ih =>
    intro i k acc hd hi ha hk
    obtain ⟨k, rfl⟩ : ∃ q, k = q + 1 := ⟨k - 1, by simp at hk; omega⟩
    obtain ⟨hx, hlt, hd2⟩ := drop_parts hd
    simp only [view_nodes.l0]
    rw [if_pos (by omega), if_pos (by omega), if_pos (by omega), if_pos (by omega), rd_M hx, wrapn (by omega), ih (i + 1) k _ hd2 (by simp at hi; omega) (by simp; omega) (by simp at hk; omega)]
    simp
theorem view_nodes_f (l : List S53) (hl : l.length ≤ 1000) (k : Nat) (hk : l.length < k) : view_nodes.f k l = some (l.map (·.f0)) := by
  have h := view_nodes_is l hl l 0 k [] rfl (by omega) rfl hk
  simpa [view_nodes.f] using h

def nodeB (n : Int) : Bool := decide (1 ≤ n) && decide (n ≤ 15)
theorem ring_node_is (n : Int) : ring_node.f n = some (nodeB n) := by
  unfold ring_node.f nodeB
  by_cases h : n ≥ 1
  · rw [if_pos h, decide_eq_true (show 1 ≤ n from h), Bool.true_and]
  · rw [if_neg h, decide_eq_false (show ¬ 1 ≤ n from h), Bool.false_and]
/-- Nodes, rising, each beyond p. -/
def nodesF : Option Int → List Int → Bool
  | _, [] => true
  | p, n :: r => nodeB n && (p.all (fun q => decide (q < n))) && nodesF (some n) r
theorem ring_Nodes_is (l : List Int) (hl : l.length ≤ 1000) : ∀ (r : List Int) (i k : Nat) (p : Option Int), l.drop i = r → i + r.length = l.length → (i = 0 ∧ p = none ∨ 0 < i ∧ ∃ q, p = some q ∧ l[i - 1]? = some q) → r.length < k → ring_Nodes.l0 k l l (l.length : Int) (i : Int) = some (nodesF p r) := by
  intro r
  induction r with
  | nil =>
    intro i k p hd hi hp hk
    obtain ⟨k, rfl⟩ : ∃ q, k = q + 1 := ⟨k - 1, by simp at hk; omega⟩
    simp only [ring_Nodes.l0]
    rw [if_neg (by simp at hi; omega)]
    rfl
  | cons x r ih =>
    intro i k p hd hi hp hk
    obtain ⟨k, rfl⟩ : ∃ q, k = q + 1 := ⟨k - 1, by simp at hk; omega⟩
    obtain ⟨hx, hlt, hd2⟩ := drop_parts hd
    have ih' := ih (i + 1) k (some x) hd2 (by simp at hi; omega) (.inr ⟨by omega, x, rfl, by simpa using hx⟩) (by simp at hk; omega)
    simp only [ring_Nodes.l0]
    rw [if_pos (by omega), if_pos (by omega), if_pos (by omega), rd_int hx, ring_node_is, Option.bind_some, wrapn (by omega)]
    simp only [nodesF]
    by_cases hn : nodeB x = true
    · rw [if_pos hn, hn, Bool.true_and]
      rcases hp with ⟨rfl, rfl⟩ | ⟨h0, q, rfl, hq⟩
      · rw [if_neg (by omega), ih']
        rfl
      · rw [if_pos (by omega), wrapp (by omega) h0, if_pos (by omega), if_pos (by omega), rd_int hq]
        by_cases hlt2 : q < x
        · rw [if_neg (by omega), ih']
          simp [hlt2]
        · rw [if_pos (by omega)]
          simp [hlt2]
    · rw [if_neg hn]
      have hn' : nodeB x = false := by simpa using hn
      rw [hn']
      rfl
theorem ring_Nodes_f (l : List Int) (hl : l.length ≤ 1000) (k : Nat) (hk : l.length < k) : ring_Nodes.f k l = some (nodesF none l) :=
  ring_Nodes_is l hl l 0 k none rfl (by omega) (.inl ⟨rfl, rfl⟩) hk

def countB (n : Int) : Bool := decide (1 ≤ n) && decide (n ≤ 1099511627775)
/-- May a view be? -/
def chkF (e : Int) (l : List S53) : Bool := countB e && (decide (0 < l.length) && (nodesF none (l.map (·.f0)) && l.all (fun m => countB m.f1)))
theorem idxF_all (p : S53 → Bool) : ∀ (l : List S53) (i : Int), 0 ≤ i → (!(decide (0 ≤ idxF p l i))) = l.all (fun x => !p x) := by
  intro l
  induction l with
  | nil => intro i hi; rfl
  | cons x l ih =>
    intro i hi
    rw [List.all_cons]
    by_cases h : p x = true
    · have e : idxF p (x :: l) i = i := by unfold idxF; rw [if_pos h]
      rw [e, decide_eq_true hi, h]; rfl
    · have h' : p x = false := by simpa using h
      have e : idxF p (x :: l) i = idxF p l (i + 1) := by rw [idxF, if_neg h]
      rw [e, ih (i + 1) (by omega), h']
      rfl
theorem view_Check_f (e : Int) (l : List S53) (hl : l.length ≤ 1000) (k : Nat) (hk : l.length < k) : view_Check.f k e l = some (chkF e l) := by
  unfold view_Check.f chkF
  rw [view_count_is, Option.bind_some]
  show (if countB e = true then _ else _) = _
  by_cases h1 : countB e = true
  · rw [if_pos h1, h1, Bool.true_and]
    by_cases h2 : (l.length : Int) > 0
    · rw [if_pos h2, view_nodes_f l hl k hk, Option.bind_some, ring_Nodes_f _ (by simpa using hl) k (by simpa using hk), Option.bind_some, decide_eq_true (show 0 < l.length by omega), Bool.true_and]
      by_cases h3 : nodesF none (l.map (·.f0)) = true
      · rw [if_pos h3, h3, Bool.true_and, idxF_all _ _ _ (by omega)]
        congr 2
        funext m
        simp [lifeBad, countB]
      · rw [if_neg h3]
        have h3' : nodesF none (l.map (·.f0)) = false := by simpa using h3
        rw [h3']; rfl
    · rw [if_neg h2, decide_eq_false (show ¬ 0 < l.length by omega)]; rfl
  · rw [if_neg h1]
    have h1' : countB e = false := by simpa using h1
    rw [h1']; rfl

theorem ref_Check_is (e : Int) (l : List S53) (hl : l.length ≤ 1000) : ∀ (r : List S53) (i k : Nat) (p : Option Int), l.drop i = r → i + r.length = l.length → (i = 0 ∧ p = none ∨ 0 < i ∧ ∃ q, p = some q.f0 ∧ l[i - 1]? = some q) → r.length < k →
    caduceusref14_Check.l0 k (i : Int) e (l.map toR) = some (nodesF p (r.map (·.f0)) && (r.all (fun m => countB m.f1) && (decide (0 < l.length) && countB e))) := by
  intro r
  induction r with
  | nil =>
    intro i k p hd hi hp hk
    obtain ⟨k, rfl⟩ : ∃ q, k = q + 1 := ⟨k - 1, by simp at hk; omega⟩
    simp only [caduceusref14_Check.l0]
    rw [List.length_map, if_neg (by simp at hi; omega)]
    simp only [nodesF, List.map_nil, List.all_nil, Bool.true_and]
    by_cases h : 0 < l.length
    · rw [if_pos (by omega), decide_eq_true h, Bool.true_and]
      by_cases h1 : e ≥ 1
      · rw [if_pos h1, countB, decide_eq_true (show 1 ≤ e from h1), Bool.true_and]
      · rw [if_neg h1, countB, decide_eq_false (show ¬ 1 ≤ e from h1), Bool.false_and]
    · rw [if_neg (by omega), decide_eq_false h, Bool.false_and]
  | cons x r ih =>
    intro i k p hd hi hp hk
    obtain ⟨k, rfl⟩ : ∃ q, k = q + 1 := ⟨k - 1, by simp at hk; omega⟩
    obtain ⟨hx, hlt, hd2⟩ := drop_parts hd
    have ih' := ih (i + 1) k (some x.f0) hd2 (by simp at hi; omega) (.inr ⟨by omega, x, rfl, by simpa using hx⟩) (by simp at hk; omega)
    simp only [caduceusref14_Check.l0]
    rw [List.length_map, if_pos (by omega), if_pos (by omega), rd_R hx, wrapn (by omega), ih']
    simp only [nodesF, List.map_cons, List.all_cons, toR, nodeB]
    by_cases a1 : x.f0 < 1
    · rw [if_pos a1, decide_eq_false (show ¬ 1 ≤ x.f0 by omega)]; rfl
    rw [if_neg a1, decide_eq_true (show 1 ≤ x.f0 by omega), Bool.true_and]
    by_cases a2 : x.f0 > 15
    · rw [if_pos a2, decide_eq_false (show ¬ x.f0 ≤ 15 by omega)]; rfl
    rw [if_neg a2, decide_eq_true (show x.f0 ≤ 15 by omega), Bool.true_and]
    have hc : countB x.f1 = (decide (1 ≤ x.f1) && decide (x.f1 ≤ 1099511627775)) := rfl
    rcases hp with ⟨rfl, rfl⟩ | ⟨h0, q, rfl, hq⟩
    · rw [if_neg (by omega)]
      by_cases a3 : x.f1 < 1
      · rw [if_pos a3, hc, decide_eq_false (show ¬ 1 ≤ x.f1 by omega)]; simp
      rw [if_neg a3]
      by_cases a4 : x.f1 > 1099511627775
      · rw [if_pos a4, hc, decide_eq_false (show ¬ x.f1 ≤ 1099511627775 by omega)]; simp
      rw [if_neg a4, hc, decide_eq_true (show 1 ≤ x.f1 by omega), decide_eq_true (show x.f1 ≤ 1099511627775 by omega)]
      simp
    · rw [if_pos (by omega), wrapp (by omega) h0, if_pos (by omega), if_pos (by omega), rd_R hq]
      simp only [toR]
      by_cases a5 : x.f0 ≤ q.f0
      · rw [if_pos a5]; simp [show ¬ q.f0 < x.f0 by omega]
      rw [if_neg a5]
      by_cases a3 : x.f1 < 1
      · rw [if_pos a3, hc, decide_eq_false (show ¬ 1 ≤ x.f1 by omega)]; simp
      rw [if_neg a3]
      by_cases a4 : x.f1 > 1099511627775
      · rw [if_pos a4, hc, decide_eq_false (show ¬ x.f1 ≤ 1099511627775 by omega)]; simp
      rw [if_neg a4, hc, decide_eq_true (show 1 ≤ x.f1 by omega), decide_eq_true (show x.f1 ≤ 1099511627775 by omega)]
      simp [show q.f0 < x.f0 by omega]
theorem ref_Check_f (e : Int) (l : List S53) (hl : l.length ≤ 1000) (k : Nat) (hk : l.length < k) : caduceusref14_Check.f k e (l.map toR) = some (chkF e l) := by
  have h := ref_Check_is e l hl l 0 k none rfl (by omega) (.inl ⟨rfl, rfl⟩) hk
  unfold caduceusref14_Check.f
  rw [show ((0 : Nat) : Int) = 0 from rfl] at h
  rw [h]
  unfold chkF
  cases countB e <;> cases decide (0 < l.length) <;> cases nodesF none (l.map (·.f0)) <;> cases l.all (fun m => countB m.f1) <;> rfl
theorem law_Ref_is (e e2 : Int) (l : List S53) (hl : l.length ≤ 1000) : ∀ (r : List S53) (i k : Nat) (acc : List S62), l.drop i = r → i + r.length = l.length → acc.length = i → r.length < k → caduceuslaw14_Ref.l0 k (i : Int) e l e2 acc = some (e2, acc ++ r.map toR) := by
  intro r
  induction r with
  | nil =>
    intro i k acc hd hi ha hk
    obtain ⟨k, rfl⟩ : ∃ q, k = q + 1 := ⟨k - 1, by simp at hk; omega⟩
    simp only [caduceuslaw14_Ref.l0]
    rw [if_neg (by simp at hi; omega)]
    simp
  | cons x r ih =>
    intro i k acc hd hi ha hk
    obtain ⟨k, rfl⟩ : ∃ q, k = q + 1 := ⟨k - 1, by simp at hk; omega⟩
    obtain ⟨hx, hlt, hd2⟩ := drop_parts hd
    simp only [caduceuslaw14_Ref.l0]
    rw [if_pos (by omega), if_pos (by omega), if_pos (by omega), rd_M hx, wrapn (by omega), ih (i + 1) k _ hd2 (by simp at hi; omega) (by simp; omega) (by simp at hk; omega)]
    simp [toR]
theorem law_Ref_f (e : Int) (l : List S53) (hl : l.length ≤ 1000) (k : Nat) (hk : l.length < k) : caduceuslaw14_Ref.f k e l = some (e, l.map toR) := by
  have h := law_Ref_is e e l hl l 0 k [] rfl (by omega) rfl hk
  simpa [caduceuslaw14_Ref.f] using h
theorem ref_Same_is (e : Int) (l : List S53) (hl : l.length ≤ 1000) : ∀ (r : List S53) (i k : Nat), l.drop i = r → i + r.length = l.length → r.length < k → caduceusref14_Same.l0 k (i : Int) e (l.map toR) e (l.map toR) = some true := by
  intro r
  induction r with
  | nil =>
    intro i k hd hi hk
    obtain ⟨k, rfl⟩ : ∃ q, k = q + 1 := ⟨k - 1, by simp at hk; omega⟩
    simp only [caduceusref14_Same.l0]
    rw [List.length_map, if_neg (by simp at hi; omega)]
  | cons x r ih =>
    intro i k hd hi hk
    obtain ⟨k, rfl⟩ : ∃ q, k = q + 1 := ⟨k - 1, by simp at hk; omega⟩
    obtain ⟨hx, hlt, hd2⟩ := drop_parts hd
    simp only [caduceusref14_Same.l0]
    rw [List.length_map, if_pos (by omega), if_pos (by omega), rd_R hx, wrapn (by omega), ih (i + 1) k hd2 (by simp at hi; omega) (by simp at hk; omega), if_pos (by omega), if_neg (by simp)]
theorem ref_Same_f (e : Int) (l : List S53) (hl : l.length ≤ 1000) (k : Nat) (hk : l.length + 1 < k) : caduceusref14_Same.f k e (l.map toR) e (l.map toR) = some true := by
  obtain ⟨k, rfl⟩ : ∃ q, k = q + 1 := ⟨k - 1, by omega⟩
  unfold caduceusref14_Same.f
  rw [if_pos rfl]
  simp only [caduceusref14_Same.j0]
  rw [if_neg (by simp)]
  exact ref_Same_is e l hl l 0 k rfl (by omega) (by omega)
theorem nodes_beyond : ∀ (l : List Int) (q : Int), nodesF (some q) l = true → ∀ n ∈ l, q < n := by
  intro l
  induction l with
  | nil => intro q _ n hn; cases hn
  | cons x l ih =>
    intro q h n hn
    simp only [nodesF, Bool.and_eq_true] at h
    obtain ⟨⟨_, h2⟩, h3⟩ := h
    have hq : q < x := by simpa using h2
    rcases List.mem_cons.1 hn with rfl | hn
    · exact hq
    · have := ih x h3 n hn; omega
theorem nodes_apart : ∀ (xs : List Int) (p : Option Int) (n : Int) (ys : List Int), nodesF p (xs ++ n :: ys) = true → (∀ x ∈ xs, x < n) ∧ (∀ y ∈ ys, n < y) := by
  intro xs
  induction xs with
  | nil =>
    intro p n ys h
    simp only [List.nil_append, nodesF, Bool.and_eq_true] at h
    exact ⟨fun _ hx => (by cases hx), nodes_beyond ys n h.2⟩
  | cons x xs ih =>
    intro p n ys h
    simp only [List.cons_append, nodesF, Bool.and_eq_true] at h
    obtain ⟨_, h3⟩ := h
    have h4 := nodes_beyond _ _ h3
    obtain ⟨h5, h6⟩ := ih (some x) n ys h3
    refine ⟨fun y hy => ?_, h6⟩
    rcases List.mem_cons.1 hy with rfl | hy
    · exact h4 n (by simp)
    · exact h5 y hy
theorem idxF_split (p : S53 → Bool) : ∀ (l : List S53) (i : Int), ((∀ x ∈ l, p x = false) ∧ idxF p l i = -1) ∨ ∃ pre m post, l = pre ++ m :: post ∧ p m = true ∧ (∀ x ∈ pre, p x = false) ∧ idxF p l i = i + pre.length := by
  intro l
  induction l with
  | nil => intro i; exact .inl ⟨fun _ hx => (by cases hx), rfl⟩
  | cons x l ih =>
    intro i
    by_cases h : p x = true
    · exact .inr ⟨[], x, l, rfl, h, fun _ hx => (by cases hx), by unfold idxF; rw [if_pos h]; simp⟩
    · have h' : p x = false := by simpa using h
      have e : idxF p (x :: l) i = idxF p l (i + 1) := by rw [idxF, if_neg h]
      rw [e]
      rcases ih (i + 1) with ⟨h1, h2⟩ | ⟨pre, m, post, rfl, h2, h3, h4⟩
      · exact .inl ⟨fun y hy => by rcases List.mem_cons.1 hy with rfl | hy; exact h'; exact h1 y hy, h2⟩
      · exact .inr ⟨x :: pre, m, post, rfl, h2, fun y hy => by rcases List.mem_cons.1 hy with rfl | hy; exact h'; exact h3 y hy, by rw [h4, List.length_cons]; omega⟩
def turnF (e : Int) (pre post : List S53) (m : S53) (up : Bool) : Int × List S53 × Int :=
  if m.f2 = up then (0, [], if up then 5 else 12)
  else if e = 1099511627775 then (0, [], 13)
  else if up = true ∧ m.f1 = 1099511627775 then (0, [], 13)
  else (e + 1, pre ++ ⟨m.f0, if up then m.f1 + 1 else m.f1, up⟩ :: post, 0)
theorem chk_parts {e : Int} {l : List S53} (h : chkF e l = true) : (1 ≤ e ∧ e ≤ 1099511627775) ∧ 0 < l.length ∧ nodesF none (l.map (·.f0)) = true ∧ ∀ m ∈ l, 1 ≤ m.f1 ∧ m.f1 ≤ 1099511627775 := by
  simp only [chkF, countB, Bool.and_eq_true, decide_eq_true_eq, List.all_eq_true] at h
  exact ⟨h.1, h.2.1, h.2.2.1, h.2.2.2⟩
def outT (x : Int × List S53 × Int) : Int × List S62 × Int := (x.1, x.2.1.map toR, x.2.2)
theorem find_none {l : List S53} {node : Int} (hn : ∀ x ∈ l, x.f0 ≠ node) : idxF (fun x => decide (x.f0 = node)) l 0 = -1 := by
  rcases idxF_split (fun x => decide (x.f0 = node)) l 0 with ⟨_, h⟩ | ⟨pre, m, post, rfl, h, _⟩
  · exact h
  · exact absurd (by simpa using h) (hn m (by simp))
theorem find_at {pre post : List S53} {m : S53} (hn : ∀ x ∈ pre, x.f0 ≠ m.f0) : ∀ i : Int, idxF (fun x => decide (x.f0 = m.f0)) (pre ++ m :: post) i = i + pre.length := by
  induction pre with
  | nil => intro i; simp [idxF]
  | cons x pre ih =>
    intro i
    have h := hn x (by simp)
    rw [List.cons_append, idxF, if_neg (by simpa using h), ih (fun y hy => hn y (by simp [hy])), List.length_cons]
    omega
theorem step_at (e : Int) (pre post : List S53) (m : S53) (n l : Int) (u : Bool) (hl : (pre ++ m :: post).length ≤ 1000) (he : 1 ≤ e ∧ e < 1099511627775) :
    view_step.f e (pre ++ m :: post) (pre.length : Int) n l u = some (e + 1, pre ++ ⟨n, l, u⟩ :: post) := by
  have hlen : (pre ++ m :: post).length = pre.length + 1 + post.length := by simp; omega
  unfold view_step.f api_Member.f
  rw [if_pos (by omega), Option.bind_some, if_pos (by omega), if_pos (by omega), Int.toNat_natCast]
  have hw : wrap64 (e + 1) = e + 1 := by unfold wrap64; omega
  rw [hw]
  simp
theorem view_Down_found (e : Int) (pre post : List S53) (m : S53) (hl : (pre ++ m :: post).length ≤ 1000) (hc : chkF e (pre ++ m :: post) = true) (k : Nat) (hk : (pre ++ m :: post).length + 10 < k) :
    view_Down.f k e (pre ++ m :: post) m.f0 = some (turnF e pre post m false) := by
  obtain ⟨he, _, hn, hlife⟩ := chk_parts hc
  rw [List.map_append, List.map_cons] at hn
  obtain ⟨hpre, hpost⟩ := nodes_apart _ _ _ _ hn
  have hpre' : ∀ x ∈ pre, x.f0 ≠ m.f0 := fun x hx => by have := hpre x.f0 (List.mem_map_of_mem hx); omega
  have hm := hlife m (by simp)
  have hlen : (pre ++ m :: post).length = pre.length + 1 + post.length := by simp; omega
  have hx : (pre ++ m :: post)[pre.length]? = some m := by simp
  unfold view_Down.f view_find.f
  rw [Option.bind_some, find_at hpre', view_Check_f e _ hl k (by omega), Option.bind_some, if_pos hc, Int.zero_add, if_neg (by omega), if_pos (by omega), if_pos (by omega), rd_M hx]
  unfold turnF
  by_cases h1 : m.f2 = true
  · rw [if_pos h1, if_neg (show ¬ m.f2 = false by rw [h1]; decide)]
    by_cases h2 : e = 1099511627775
    · rw [if_pos (by omega), if_pos h2]
    · rw [if_neg (by omega), if_neg h2, step_at e pre post m _ _ _ hl (by omega), if_neg (fun h => by cases h.1)]
      rfl
  · rw [if_neg h1, if_pos (by simpa using h1)]
    rfl
theorem view_Up_found (e : Int) (pre post : List S53) (m : S53) (hl : (pre ++ m :: post).length ≤ 1000) (hc : chkF e (pre ++ m :: post) = true) (k : Nat) (hk : (pre ++ m :: post).length + 10 < k) :
    view_Up.f k e (pre ++ m :: post) m.f0 = some (turnF e pre post m true) := by
  obtain ⟨he, _, hn, hlife⟩ := chk_parts hc
  rw [List.map_append, List.map_cons] at hn
  obtain ⟨hpre, hpost⟩ := nodes_apart _ _ _ _ hn
  have hpre' : ∀ x ∈ pre, x.f0 ≠ m.f0 := fun x hx => by have := hpre x.f0 (List.mem_map_of_mem hx); omega
  have hm := hlife m (by simp)
  have hlen : (pre ++ m :: post).length = pre.length + 1 + post.length := by simp; omega
  have hx : (pre ++ m :: post)[pre.length]? = some m := by simp
  have hw : wrap64 (m.f1 + 1) = m.f1 + 1 := by unfold wrap64; omega
  unfold view_Up.f view_find.f
  rw [Option.bind_some, find_at hpre', view_Check_f e _ hl k (by omega), Option.bind_some, if_pos hc, Int.zero_add, if_neg (by omega), if_pos (by omega), if_pos (by omega), rd_M hx]
  unfold turnF
  by_cases h1 : m.f2 = true
  · rw [if_pos h1, if_pos h1]
    rfl
  · rw [if_neg h1, if_neg h1]
    by_cases h2 : e = 1099511627775
    · rw [if_pos (by omega), if_pos h2]
    · rw [if_neg (by omega), if_neg h2]
      by_cases h3 : m.f1 = 1099511627775
      · rw [if_pos (by omega), if_pos ⟨rfl, h3⟩]
      · rw [if_neg (by omega), if_neg (fun h => h3 h.2), hw, step_at e pre post m _ _ _ hl (by omega)]
        rfl
theorem view_Turn_none (e : Int) (l : List S53) (node : Int) (hl : l.length ≤ 1000) (hc : chkF e l = true) (hn : ∀ x ∈ l, x.f0 ≠ node) (k : Nat) (hk : l.length + 10 < k) :
    view_Down.f k e l node = some (0, [], 4) ∧ view_Up.f k e l node = some (0, [], 4) := by
  unfold view_Down.f view_Up.f view_find.f
  rw [Option.bind_some, find_none hn, view_Check_f e _ hl k (by omega), Option.bind_some, if_pos hc, if_pos (by omega)]
  rw [Option.bind_some, Option.bind_some, if_pos hc, if_pos (by omega)]
  exact ⟨rfl, rfl⟩
theorem view_Turn_bad (e : Int) (l : List S53) (node : Int) (hl : l.length ≤ 1000) (hc : chkF e l = false) (k : Nat) (hk : l.length + 10 < k) :
    view_Down.f k e l node = some (0, [], 1) ∧ view_Up.f k e l node = some (0, [], 1) := by
  unfold view_Down.f view_Up.f view_find.f
  rw [Option.bind_some, view_Check_f e _ hl k (by omega), Option.bind_some, if_neg (by rw [hc]; decide)]
  rw [Option.bind_some, Option.bind_some, if_neg (by rw [hc]; decide)]
  exact ⟨rfl, rfl⟩
theorem awake60 : caduceuslaw14_awake.f 60 = some true := by kernel_rfl
theorem awake_f (k : Nat) (hk : 60 ≤ k) : caduceuslaw14_awake.f k = some true := lift (f := fun k => caduceuslaw14_awake.f k) (fun k => caduceuslaw14_awake.mono k) hk awake60
theorem ref_Nodes_is (l : List Int) (hl : l.length ≤ 1000) : ∀ (r : List Int) (i k : Nat) (p : Option Int), l.drop i = r → i + r.length = l.length → (i = 0 ∧ p = none ∨ 0 < i ∧ ∃ q, p = some q ∧ l[i - 1]? = some q) → r.length < k → caduceusref10_Nodes.l0 k l (i : Int) = some (nodesF p r) := by
  intro r
  induction r with
  | nil =>
    intro i k p hd hi hp hk
    obtain ⟨k, rfl⟩ : ∃ q, k = q + 1 := ⟨k - 1, by simp at hk; omega⟩
    simp only [caduceusref10_Nodes.l0]
    rw [if_neg (by simp at hi; omega)]
    rfl
  | cons x r ih =>
    intro i k p hd hi hp hk
    obtain ⟨k, rfl⟩ : ∃ q, k = q + 1 := ⟨k - 1, by simp at hk; omega⟩
    obtain ⟨hx, hlt, hd2⟩ := drop_parts hd
    have ih' := ih (i + 1) k (some x) hd2 (by simp at hi; omega) (.inr ⟨by omega, x, rfl, by simpa using hx⟩) (by simp at hk; omega)
    simp only [caduceusref10_Nodes.l0]
    rw [if_pos (by omega), if_pos (by omega), rd_int hx, wrapn (by omega), ih']
    simp only [nodesF, nodeB]
    by_cases a1 : x < 1
    · rw [if_pos a1, decide_eq_false (show ¬ 1 ≤ x by omega)]; rfl
    rw [if_neg a1, decide_eq_true (show 1 ≤ x by omega), Bool.true_and]
    by_cases a2 : x > 15
    · rw [if_pos a2, decide_eq_false (show ¬ x ≤ 15 by omega)]; rfl
    rw [if_neg a2, decide_eq_true (show x ≤ 15 by omega), Bool.true_and]
    rcases hp with ⟨rfl, rfl⟩ | ⟨h0, q, rfl, hq⟩
    · rw [if_neg (by omega)]
      rfl
    · rw [if_pos (by omega), wrapp (by omega) h0, if_pos (by omega), if_pos (by omega), rd_int hq]
      by_cases a5 : x ≤ q
      · rw [if_pos a5]; simp [show ¬ q < x by omega]
      · rw [if_neg a5]; simp [show q < x by omega]
theorem ref_Nodes_f (l : List Int) (hl : l.length ≤ 1000) (k : Nat) (hk : l.length < k) : caduceusref10_Nodes.f k l = some (nodesF none l) :=
  ref_Nodes_is l hl l 0 k none rfl (by omega) (.inl ⟨rfl, rfl⟩) hk
def newM (n : Int) : S53 := ⟨n, 1, true⟩
theorem view_First_l0 (l : List Int) (hl : l.length ≤ 1000) (e : Int) : ∀ (r : List Int) (i k : Nat) (acc : List S53), l.drop i = r → i + r.length = l.length → acc.length = i → r.length < k → view_First.l0 k l (l.length : Int) (i : Int) e acc = some (e, acc ++ r.map newM, 0) := by
  intro r
  induction r with
  | nil =>
    intro i k acc hd hi ha hk
    obtain ⟨k, rfl⟩ : ∃ q, k = q + 1 := ⟨k - 1, by simp at hk; omega⟩
    simp only [view_First.l0]
    rw [if_neg (by simp at hi; omega)]
    simp
  | cons x r ih =>
    intro i k acc hd hi ha hk
    obtain ⟨k, rfl⟩ : ∃ q, k = q + 1 := ⟨k - 1, by simp at hk; omega⟩
    obtain ⟨hx, hlt, hd2⟩ := drop_parts hd
    simp only [view_First.l0]
    rw [if_pos (by omega), if_pos (by omega), if_pos (by omega), if_pos (by omega), rd_int hx, wrapn (by omega), ih (i + 1) k _ hd2 (by simp at hi; omega) (by simp; omega) (by simp at hk; omega)]
    simp [newM]
theorem ref_First_l0 (l : List Int) (hl : l.length ≤ 1000) (e : Int) : ∀ (r : List Int) (i k : Nat) (acc : List S62), l.drop i = r → i + r.length = l.length → acc.length = i → r.length < k → caduceusref14_First.l0 k l (i : Int) e acc = some (e, acc ++ (r.map newM).map toR, 0) := by
  intro r
  induction r with
  | nil =>
    intro i k acc hd hi ha hk
    obtain ⟨k, rfl⟩ : ∃ q, k = q + 1 := ⟨k - 1, by simp at hk; omega⟩
    simp only [caduceusref14_First.l0]
    rw [if_neg (by simp at hi; omega)]
    simp
  | cons x r ih =>
    intro i k acc hd hi ha hk
    obtain ⟨k, rfl⟩ : ∃ q, k = q + 1 := ⟨k - 1, by simp at hk; omega⟩
    obtain ⟨hx, hlt, hd2⟩ := drop_parts hd
    simp only [caduceusref14_First.l0]
    rw [if_pos (by omega), if_pos (by omega), if_pos (by omega), rd_int hx, wrapn (by omega), ih (i + 1) k _ hd2 (by simp at hi; omega) (by simp; omega) (by simp at hk; omega)]
    simp [newM, toR]
def firstF (l : List Int) : Int × List S53 × Int := if l.length = 0 then (0, [], 1) else if nodesF none l then (1, l.map newM, 0) else (0, [], 1)
theorem view_First_f (l : List Int) (hl : l.length ≤ 1000) (k : Nat) (hk : l.length + 2 < k) : view_First.f k l = some (firstF l) := by
  obtain ⟨k, rfl⟩ : ∃ q, k = q + 1 := ⟨k - 1, by omega⟩
  unfold view_First.f firstF
  by_cases h : l.length = 0
  · rw [if_pos (by omega), if_pos h, view_First.j0, if_pos rfl]
  · rw [if_neg (by omega), if_neg h, ring_Nodes_f l hl _ (by omega), Option.bind_some, view_First.j0]
    by_cases h2 : nodesF none l = true
    · rw [if_neg (by rw [h2]; decide), if_pos h2]
      have h3 := view_First_l0 l hl 1 l 0 k [] rfl (by omega) rfl (by omega)
      rw [show ((0 : Nat) : Int) = 0 from rfl] at h3
      rw [h3, List.nil_append]
    · have h2' : nodesF none l = false := by simpa using h2
      rw [if_pos (by rw [h2']; rfl), if_neg h2]
theorem ref_First_f (l : List Int) (hl : l.length ≤ 1000) (k : Nat) (hk : l.length + 2 < k) : caduceusref14_First.f k l = some (outT (firstF l)) := by
  obtain ⟨k, rfl⟩ : ∃ q, k = q + 1 := ⟨k - 1, by omega⟩
  unfold caduceusref14_First.f firstF
  by_cases h : l.length = 0
  · rw [if_pos (by omega), if_pos h, caduceusref14_First.j0, if_pos rfl]; rfl
  · rw [if_neg (by omega), if_neg h, ref_Nodes_f l hl _ (by omega), Option.bind_some, caduceusref14_First.j0]
    by_cases h2 : nodesF none l = true
    · rw [if_neg (by rw [h2]; decide), if_pos h2]
      have h3 := ref_First_l0 l hl 1 l 0 k [] rfl (by omega) rfl (by omega)
      rw [show ((0 : Nat) : Int) = 0 from rfl] at h3
      rw [h3, List.nil_append]
      rfl
    · have h2' : nodesF none l = false := by simpa using h2
      rw [if_pos (by rw [h2']; rfl), if_neg h2]
      rfl
theorem firstF_len (l : List Int) : (firstF l).2.1.length ≤ l.length := by
  unfold firstF
  repeat' split
  all_goals simp
theorem ref_Live_is (e : Int) (l : List S53) (hl : l.length ≤ 400) (hc : chkF e l = true) : ∀ (r : List S53) (i k : Nat) (acc : List Int), l.drop i = r → i + r.length = l.length → acc.length ≤ i → 2 * r.length + l.length + 2 < k → caduceusref14_Live.l0 k acc (i : Int) e (l.map toR) = some (acc ++ numsOf r) := by
  intro r
  induction r with
  | nil =>
    intro i k acc hd hi ha hk
    obtain ⟨k, rfl⟩ : ∃ q, k = q + 2 := ⟨k - 2, by omega⟩
    rw [caduceusref14_Live.l0, List.length_map, if_neg (by simp at hi; omega), caduceusref14_Live.j1, if_neg (by decide)]
    simp [numsOf]
  | cons x r ih =>
    intro i k acc hd hi ha hk
    simp at hk hi
    obtain ⟨k, rfl⟩ : ∃ q, k = q + 2 := ⟨k - 2, by omega⟩
    obtain ⟨hx, hlt, hd2⟩ := drop_parts hd
    rw [caduceusref14_Live.l0, List.length_map, if_pos (by omega), ref_Check_f e l (by omega) _ (by omega), Option.bind_some, hc, caduceusref14_Live.j1, if_pos rfl, List.length_map, if_pos (by omega), if_pos (by omega), rd_R hx, wrapn (by omega)]
    by_cases h : x.f2 = true
    · rw [if_pos h, if_pos (by omega), ih (i + 1) k _ hd2 (by omega) (by simp; omega) (by omega)]
      simp [numsOf, h]
    · rw [if_neg h, ih (i + 1) k _ hd2 (by omega) (by omega) (by omega)]
      simp [numsOf, h]
def liveF (e : Int) (l : List S53) : List Int := if chkF e l then numsOf l else []
theorem numsOf_len (l : List S53) : (numsOf l).length ≤ l.length := by unfold numsOf; rw [List.length_map]; exact List.length_filter_le _ _
theorem liveF_len (e : Int) (l : List S53) : (liveF e l).length ≤ l.length := by unfold liveF; split; exact numsOf_len l; simp
theorem ref_Live_f (e : Int) (l : List S53) (hl : l.length ≤ 300) (k : Nat) (hk : 1000 ≤ k) : caduceusref14_Live.f k e (l.map toR) = some (liveF e l) := by
  unfold caduceusref14_Live.f liveF
  by_cases hc : chkF e l = true
  · have h := ref_Live_is e l (by omega) hc l 0 k [] rfl (by omega) (by simp) (by omega)
    rw [show ((0 : Nat) : Int) = 0 from rfl] at h
    rw [h, if_pos hc, List.nil_append]
  · rw [if_neg hc]
    obtain ⟨k, rfl⟩ : ∃ q, k = q + 2 := ⟨k - 2, by omega⟩
    have hc' : chkF e l = false := by simpa using hc
    rw [caduceusref14_Live.l0, List.length_map]
    by_cases h : (0 : Int) < l.length
    · rw [if_pos h, ref_Check_f e l (by omega) _ (by omega), Option.bind_some, hc', caduceusref14_Live.j1, if_neg (by decide)]
    · rw [if_neg h, caduceusref14_Live.j1, if_neg (by decide)]
theorem view_Live_f (e : Int) (l : List S53) (hl : l.length ≤ 300) (k : Nat) (hk : 1000 ≤ k) : view_Live.f k e l = some (liveF e l) := by
  unfold view_Live.f liveF
  rw [view_Check_f e l (by omega) _ (by omega), Option.bind_some]
  by_cases hc : chkF e l = true
  · rw [if_pos hc, if_pos hc, if_pos (by omega)]
  · rw [if_neg hc, if_neg hc]
theorem ref_Life_is (e : Int) (l : List S53) (node : Int) (hl : l.length ≤ 400) (hc : chkF e l = true) : ∀ (r : List S53) (i k : Nat), l.drop i = r → i + r.length = l.length → 2 * r.length + l.length + 2 < k → caduceusref14_Life.l0 k node (i : Int) e (l.map toR) = some (match r.find? (fun x => decide (x.f0 = node)) with | some m => m.f1 | none => 0) := by
  intro r
  induction r with
  | nil =>
    intro i k hd hi hk
    obtain ⟨k, rfl⟩ : ∃ q, k = q + 2 := ⟨k - 2, by omega⟩
    rw [caduceusref14_Life.l0, List.length_map, if_neg (by simp at hi; omega), caduceusref14_Life.j1, if_neg (by decide)]
    rfl
  | cons x r ih =>
    intro i k hd hi hk
    simp at hk hi
    obtain ⟨k, rfl⟩ : ∃ q, k = q + 2 := ⟨k - 2, by omega⟩
    obtain ⟨hx, hlt, hd2⟩ := drop_parts hd
    rw [caduceusref14_Life.l0, List.length_map, if_pos (by omega), ref_Check_f e l (by omega) _ (by omega), Option.bind_some, hc, caduceusref14_Life.j1, if_pos rfl, List.length_map, if_pos (by omega), if_pos (by omega), rd_R hx, wrapn (by omega)]
    by_cases h : x.f0 = node
    · rw [if_pos h, List.find?_cons_of_pos (by simpa using h)]
    · rw [if_neg h, ih (i + 1) k hd2 (by omega) (by omega), List.find?_cons_of_neg (by simpa using h)]
theorem find_life (l : List S53) (node : Int) : ∀ i : Int, 0 ≤ i → (match l.find? (fun x => decide (x.f0 = node)) with | some m => idxF (fun x => decide (x.f0 = node)) l i ≥ i ∧ idxF (fun x => decide (x.f0 = node)) l i < i + l.length ∧ l[(idxF (fun x => decide (x.f0 = node)) l i - i).toNat]? = some m | none => idxF (fun x => decide (x.f0 = node)) l i = -1) := by
  induction l with
  | nil => intro i hi; rfl
  | cons x l ih =>
    intro i hi
    by_cases h : x.f0 = node
    · have e : idxF (fun x => decide (x.f0 = node)) (x :: l) i = i := by rw [idxF, if_pos (by simpa using h)]
      rw [List.find?_cons_of_pos (by simpa using h), e]
      refine ⟨by omega, by rw [List.length_cons]; omega, ?_⟩
      rw [show i - i = 0 by omega]
      rfl
    · have e : idxF (fun x => decide (x.f0 = node)) (x :: l) i = idxF (fun x => decide (x.f0 = node)) l (i + 1) := by rw [idxF, if_neg (by simpa using h)]
      rw [List.find?_cons_of_neg (by simpa using h), e]
      have h2 := ih (i + 1) (by omega)
      cases hf : l.find? (fun x => decide (x.f0 = node)) with
      | none => rw [hf] at h2; exact h2
      | some m =>
        rw [hf] at h2
        obtain ⟨h3, h4, h5⟩ := h2
        refine ⟨by omega, by rw [List.length_cons]; omega, ?_⟩
        rw [show (idxF (fun x => decide (x.f0 = node)) l (i + 1) - i).toNat = (idxF (fun x => decide (x.f0 = node)) l (i + 1) - (i + 1)).toNat + 1 by omega]
        simpa using h5
def lifeF (e : Int) (l : List S53) (node : Int) : Int := if chkF e l then (match l.find? (fun x => decide (x.f0 = node)) with | some m => m.f1 | none => 0) else 0
theorem view_Life_f (e : Int) (l : List S53) (node : Int) (hl : l.length ≤ 300) (k : Nat) (hk : 1000 ≤ k) : view_Life.f k e l node = some (lifeF e l node) := by
  unfold view_Life.f view_find.f lifeF
  rw [Option.bind_some, view_Check_f e l (by omega) _ (by omega), Option.bind_some]
  by_cases hc : chkF e l = true
  · rw [if_pos hc, if_pos hc]
    have h := find_life l node 0 (by omega)
    cases hf : l.find? (fun x => decide (x.f0 = node)) with
    | none => rw [hf] at h; rw [if_neg (by have := h; omega)]
    | some m =>
      rw [hf] at h
      obtain ⟨h1, h2, h3⟩ := h
      obtain ⟨j, hj⟩ : ∃ j : Nat, idxF (fun x => decide (x.f0 = node)) l 0 = j := ⟨(idxF (fun x => decide (x.f0 = node)) l 0).toNat, by omega⟩
      rw [hj] at h1 h2 h3 ⊢
      rw [if_pos (by omega), if_pos (by omega), if_pos (by omega), rd_M (by simpa using h3)]
  · rw [if_neg hc, if_neg hc]
theorem ref_Life_f (e : Int) (l : List S53) (node : Int) (hl : l.length ≤ 300) (k : Nat) (hk : 1000 ≤ k) : caduceusref14_Life.f k e (l.map toR) node = some (lifeF e l node) := by
  unfold caduceusref14_Life.f lifeF
  by_cases hc : chkF e l = true
  · have h := ref_Life_is e l node (by omega) hc l 0 k rfl (by omega) (by omega)
    rw [show ((0 : Nat) : Int) = 0 from rfl] at h
    rw [h, if_pos hc]
  · rw [if_neg hc]
    obtain ⟨k, rfl⟩ : ∃ q, k = q + 2 := ⟨k - 2, by omega⟩
    have hc' : chkF e l = false := by simpa using hc
    rw [caduceusref14_Life.l0, List.length_map]
    by_cases h : (0 : Int) < l.length
    · rw [if_pos h, ref_Check_f e l (by omega) _ (by omega), Option.bind_some, hc', caduceusref14_Life.j1, if_neg (by decide)]
    · rw [if_neg h, caduceusref14_Life.j1, if_neg (by decide)]
theorem idxI_is (l : List Int) (a : Int) (hl : l.length ≤ 1000) : ∀ (r : List Int) (i k : Nat), l.drop i = r → i + r.length = l.length → r.length < k → ∃ v, slices_Index_int_int.l0 k l a (l.length : Int) (i : Int) = some v ∧ decide (v ≥ 0) = r.any (fun x => decide (x = a)) := by
  intro r
  induction r with
  | nil =>
    intro i k hd hi hk
    obtain ⟨k, rfl⟩ : ∃ q, k = q + 1 := ⟨k - 1, by omega⟩
    refine ⟨-1, ?_, rfl⟩
    rw [slices_Index_int_int.l0, if_neg (by simp at hi; omega)]
  | cons x r ih =>
    intro i k hd hi hk
    simp at hk hi
    obtain ⟨k, rfl⟩ : ∃ q, k = q + 1 := ⟨k - 1, by omega⟩
    obtain ⟨hx, hlt, hd2⟩ := drop_parts hd
    rw [slices_Index_int_int.l0, if_pos (by omega), if_pos (by omega), if_pos (by omega), rd_int hx, wrapn (by omega)]
    by_cases h : a = x
    · rw [if_pos h]
      exact ⟨i, rfl, by simp [h]⟩
    · rw [if_neg h]
      obtain ⟨v, h1, h2⟩ := ih (i + 1) k hd2 (by omega) (by omega)
      exact ⟨v, h1, by rw [h2, List.any_cons, decide_eq_false (show ¬ x = a from fun h' => h h'.symm), Bool.false_or]⟩
theorem containsI_f (l : List Int) (a : Int) (hl : l.length ≤ 1000) (k : Nat) (hk : l.length < k) : slices_Contains_int_int.f k l a = some (l.any (fun x => decide (x = a))) := by
  unfold slices_Contains_int_int.f slices_Index_int_int.f
  obtain ⟨v, h1, h2⟩ := idxI_is l a hl l 0 k rfl (by omega) hk
  rw [show ((0 : Nat) : Int) = 0 from rfl] at h1
  rw [h1, Option.bind_some, h2]
theorem ref_Has_is (l : List Int) (a : Int) (hl : l.length ≤ 1000) : ∀ (r : List Int) (i k : Nat), l.drop i = r → i + r.length = l.length → r.length < k → caduceusref10_Has.l0 k l a (i : Int) = some (r.any (fun x => decide (x = a))) := by
  intro r
  induction r with
  | nil =>
    intro i k hd hi hk
    obtain ⟨k, rfl⟩ : ∃ q, k = q + 1 := ⟨k - 1, by omega⟩
    rw [caduceusref10_Has.l0, if_neg (by simp at hi; omega)]
    rfl
  | cons x r ih =>
    intro i k hd hi hk
    simp at hk hi
    obtain ⟨k, rfl⟩ : ∃ q, k = q + 1 := ⟨k - 1, by omega⟩
    obtain ⟨hx, hlt, hd2⟩ := drop_parts hd
    rw [caduceusref10_Has.l0, if_pos (by omega), if_pos (by omega), rd_int hx, wrapn (by omega)]
    by_cases h : x = a
    · rw [if_pos h]
      simp [h]
    · rw [if_neg h, ih (i + 1) k hd2 (by omega) (by omega), List.any_cons, decide_eq_false h, Bool.false_or]
theorem ref_Has_f (l : List Int) (a : Int) (hl : l.length ≤ 1000) (k : Nat) (hk : l.length < k) : caduceusref10_Has.f k l a = some (l.any (fun x => decide (x = a))) :=
  ref_Has_is l a hl l 0 k rfl (by omega) hk
theorem ref10_Same_is (l : List Int) (hl : l.length ≤ 1000) : ∀ (r : List Int) (i k : Nat), l.drop i = r → i + r.length = l.length → r.length < k → caduceusref10_Same.l0 k l l (i : Int) = some true := by
  intro r
  induction r with
  | nil =>
    intro i k hd hi hk
    obtain ⟨k, rfl⟩ : ∃ q, k = q + 1 := ⟨k - 1, by omega⟩
    rw [caduceusref10_Same.l0, if_neg (by simp at hi; omega)]
  | cons x r ih =>
    intro i k hd hi hk
    simp at hk hi
    obtain ⟨k, rfl⟩ : ∃ q, k = q + 1 := ⟨k - 1, by omega⟩
    obtain ⟨hx, hlt, hd2⟩ := drop_parts hd
    rw [caduceusref10_Same.l0, if_pos (by omega), if_pos (by omega), if_pos (by omega), if_pos rfl, wrapn (by omega), ih (i + 1) k hd2 (by omega) (by omega)]
theorem ref10_Same_f (l : List Int) (hl : l.length ≤ 1000) (k : Nat) (hk : l.length < k) : caduceusref10_Same.f k l l = some true := by
  unfold caduceusref10_Same.f
  rw [if_pos rfl]
  exact ref10_Same_is l hl l 0 k rfl (by omega) hk

end ViewChecksC
open ViewChecksC

theorem ViewChecks : caduceuslaw14_ViewChecks.Pure := by
  intro a0 l1 a2 _ _ _ _
  obtain ⟨e, l⟩ := a0
  refine ⟨1102, ?_⟩
  show caduceuslaw14_ViewChecks.f 1102 e l l1 a2 = some true
  unfold caduceuslaw14_ViewChecks.f caduceuslaw14_few.f
  rw [Option.bind_some]
  by_cases hl : (l.length : Int) ≤ 40
  · rw [if_pos (by simpa using hl), caduceuslaw14_ViewChecks.j0]
    by_cases hl1 : (l1.length : Int) > 40
    · rw [if_pos (by simpa using hl1), awake_f _ (by omega)]
      rfl
    · have hlen := firstF_len l1
      have hlv := liveF_len e l
      rw [if_neg (by simpa using hl1), law_Ref_f e l (by omega) _ (by omega), Option.bind_some, view_First_f l1 (by omega) _ (by omega), Option.bind_some, ref_First_f l1 (by omega) _ (by omega), Option.bind_some, ref_Live_f e l (by omega) _ (by omega), Option.bind_some, awake_f _ (by omega), Option.bind_some, if_pos rfl, view_Check_f e l (by omega) _ (by omega), Option.bind_some, ref_Check_f e l (by omega) _ (by omega), Option.bind_some, if_pos (by simp), law_Ref_f _ _ (by omega) _ (by omega), Option.bind_some]
      show Option.bind (caduceusref14_Same.f 1101 (firstF l1).1 ((firstF l1).2.1.map toR) (firstF l1).1 ((firstF l1).2.1.map toR)) _ = _
      rw [ref_Same_f _ _ (by omega) _ (by omega), Option.bind_some, if_pos rfl, if_pos (show (firstF l1).2.2 = (outT (firstF l1)).2.2 from rfl), view_Live_f e l (by omega) _ (by omega), Option.bind_some, ref10_Same_f _ (by omega) _ (by omega), Option.bind_some, if_pos rfl, view_Life_f e l a2 (by omega) _ (by omega), Option.bind_some, ref_Life_f e l a2 (by omega) _ (by omega), Option.bind_some, if_pos rfl]
      unfold view_IsUp.f
      rw [view_Live_f e l (by omega) _ (by omega), Option.bind_some, containsI_f _ a2 (by omega) _ (by omega), Option.bind_some, Option.bind_some, ref_Has_f _ a2 (by omega) _ (by omega), Option.bind_some]
      simp
  · rw [if_neg (by simpa using hl), caduceuslaw14_ViewChecks.j0, if_pos rfl, awake_f _ (by omega)]
    rfl

end Go.Proofs.Ytpdalofhekmbeaa.Pure
