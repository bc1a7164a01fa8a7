/- QueueCounts, plain: what was offered, taken, is there. By hand. -/
import Derived.Test.YtmcochnofkjhaaaDoorQx
namespace Go.Proofs.YtmcochnofkjhaaaDoor.QU
open Go.RowKit Go.Proofs.YtmcochnofkjhaaaDoorW.PrintWords Go.Proofs.YtmcochnofkjhaaaDoorW.PrintLast Go.Proofs.YtmcochnofkjhaaaDoorW.PrintMore Go.Proofs.YtmcochnofkjhaaaDoor.PAll
set_option linter.unusedVariables false
set_option linter.unusedSimpArgs false
/-- The law's world: a queue, two arrays. -/
structure CS (w0 w : World) (g m : Nat) (q : Qu) (v : Value) (ga gb : Nat) (T U : Nat → Int) : Prop where
  qs : QS w0 w g m q v
  a : w.heap[ga]? = some (.cells (arr T) 26 (0, 0))
  b : w.heap[gb]? = some (.cells (arr U) 26 (0, 0))
  la : w0.heap.size ≤ ga
  lb : w0.heap.size ≤ gb
  ne : ga ≠ gb
section
variable {w0 w w' : World} {g m ga gb : Nat} {q q' : Qu} {v v' : Value} {T U : Nat → Int}
theorem CS.below (h : CS w0 w g m q v ga gb T U) (hb : Below w.heap.size w w') : CS w0 w' g m q v ga gb T U := ⟨h.qs.below hb, keepB h.a hb, keepB h.b hb, h.la, h.lb, h.ne⟩
theorem CS.step (h : CS w0 w g m q v ga gb T U) (s : QStep w g v m q' v' w') : CS w0 w' g m q' v' ga gb T U := ⟨h.qs.step s, s.keep h.qs.qu h.a (by decide) (by decide), s.keep h.qs.qu h.b (by decide) (by decide), h.la, h.lb, h.ne⟩
theorem CS.seta (h : CS w0 w g m q v ga gb T U) {j : Nat} (hj : j < 5) (x : Int) : CS w0 (w.setCell ⟨ga, j, none⟩ (.int .i64 x)) g m q v ga gb (upd T j x) U :=
  ⟨h.qs.beside h.a h.la (by decide) (by decide) (by decide) j _, arr_put h.a hj x, (Below.heap_setCell w ⟨ga, j, none⟩ _ gb (fun e => h.ne e.symm)).trans h.b, h.la, h.lb, h.ne⟩
theorem CS.setb (h : CS w0 w g m q v ga gb T U) {j : Nat} (hj : j < 5) (x : Int) : CS w0 (w.setCell ⟨gb, j, none⟩ (.int .i64 x)) g m q v ga gb T (upd U j x) :=
  ⟨h.qs.beside h.b h.lb (by decide) (by decide) (by decide) j _, (Below.heap_setCell w ⟨gb, j, none⟩ _ ga h.ne).trans h.a, arr_put h.b hj x, h.la, h.lb, h.ne⟩
theorem CS.rowb (h : CS w0 w g m q v ga gb T U) {o : Value} {p : List S36} (hr : k36.R 36 w 0 (fun _ => True) o p) (j : Nat) (x : Value) : k36.R 36 (w.setCell ⟨gb, j, none⟩ x) 0 (fun _ => True) o p :=
  Kd.R_set hr h.b (k36_types (by decide) (by decide)) j x
/-- An Offer beside the arrays. -/
theorem offerC (h : CS w0 w g m q v ga gb T U) {k : Nat} (hq : Bq q k) (hk : k < 1000000) (hT : NC.TabW w0) {s n : Int} (h1 : 1 ≤ s) (h2 : s ≤ 4) (h3 : 1 ≤ n) (h4 : n ≤ 100) {A : Option Addr} {c : Nat} (hC : k87.C w A 0 []) :
    Calls Tryd.prog 9 #[.pointer (some ⟨g, 0, none⟩), .agg #[.int .i64 s, .string ⟨#[116]⟩, .int .i64 1, .int .i64 1, .int .i64 n, .string ⟨#[116]⟩, .slice A 0 c]] w fun e w' => ∃ x, e = .returned (.int .i64 x) ∧ ∃ v', CS w0 w' g m (offN q s n) v' ga gb T U :=
  (offer_is h.qs.qu hq hk (hT.below h.qs.bel) (gn s n) hC (Nat.zero_le _) (Nat.zero_le _) (WalkArith.wf_i64 ⟨by show (_ : Int) ≤ s; omega, by show s ≤ (_ : Int); omega⟩) nm_t (ev_n n h3 h4)).mono (fun e w' ⟨he, v', hs⟩ => ⟨_, he, v', h.step (offN_is q h1 ▸ hs)⟩)
theorem pollC (h : CS w0 w g m q v ga gb T U) {k : Nat} (hq : Bq q k) (most : Int) :
    Calls Tryd.prog 11 #[.pointer (some ⟨g, 0, none⟩), .int .i64 most] w fun e w' => ∃ o v', e = .returned o ∧ k36.R 36 w' 0 (fun _ => True) o (q.l.take (pollN q most)) ∧ CS w0 w' g m { q with l := q.l.drop (pollN q most) } v' ga gb T U :=
  (poll_is h.qs.qu hq most).mono (fun e w' ⟨o, v', he, hr, hs⟩ => ⟨o, v', he, hr, h.step hs⟩)
end
/-- How many of a subscription. -/
def ct (s : Nat) (p : List S36) : Int := ((p.map (·.f0)).count (s : Int) : Nat)
theorem ct_nil (s : Nat) : ct s [] = 0 := rfl
theorem ct_nonneg (s : Nat) (p : List S36) : 0 ≤ ct s p := by unfold ct; omega
theorem ct_cons (s : Nat) (G : S36) (p : List S36) : ct s (G :: p) = ct s p + (if G.f0 = (s : Int) then 1 else 0) := by
  unfold ct
  rw [List.map_cons, List.count_cons]
  by_cases h : G.f0 = (s : Int)
  · rw [if_pos h, if_pos (by simpa using h)]; simp
  · rw [if_neg h, if_neg (by simpa using h)]; simp
theorem ct_snoc (s : Nat) (p : List S36) (G : S36) : ct s (p ++ [G]) = ct s p + (if G.f0 = (s : Int) then 1 else 0) := by
  unfold ct
  rw [List.map_append, List.count_append, List.map_cons, List.map_nil, List.count_cons, List.count_nil]
  by_cases h : G.f0 = (s : Int)
  · rw [if_pos h, if_pos (by simpa using h)]; simp
  · rw [if_neg h, if_neg (by simpa using h)]; simp
/-- What was offered was taken, waits, or did not come in. -/
def Tal (T U : Nat → Int) (p : List S36) (os : List Int) : Prop := ∀ s : Nat, 1 ≤ s → s ≤ 4 → T s = U s + ct s p + (os.count (s : Int) : Nat)
def Asc : Int → List S36 → Prop
  | _, [] => True
  | last, G :: r => last < G.f2.f0.f2 ∧ 1 ≤ G.f0 ∧ G.f0 ≤ 4 ∧ Asc G.f2.f0.f2 r
def Ub (n last : Int) (l : List S36) : Prop := last ≤ n ∧ ∀ G ∈ l, G.f2.f0.f2 ≤ n
theorem Asc.snoc {n m s : Int} (hs : 1 ≤ s ∧ s ≤ 4) (hm : n < m) : ∀ {last : Int} {l : List S36}, Asc last l → Ub n last l → Asc last (l ++ [gn s m])
  | last, [], _, hu => ⟨by have h1 := hu.1; show last < m; omega, hs.1, hs.2, trivial⟩
  | last, G :: r, h, hu => ⟨h.1, h.2.1, h.2.2.1, Asc.snoc hs hm h.2.2.2 ⟨hu.2 G (List.mem_cons_self ..), fun x hx => hu.2 x (List.mem_cons_of_mem _ hx)⟩⟩
/-- The numbers' bounds. -/
def Bd (T U : Nat → Int) (n : Int) : Prop := ∀ s : Nat, 1 ≤ s → s ≤ 4 → T s ≤ n ∧ 0 ≤ U s
/-- The law's state: what waits is p. -/
structure Cnt (T U : Nat → Int) (last n : Int) (p : List S36) (os : List Int) : Prop where
  tal : Tal T U p os
  asc : Asc last p
  ub : Ub n last p
  bd : Bd T U n
theorem Cnt.le {T U : Nat → Int} {last n : Int} {p : List S36} {os : List Int} (h : Cnt T U last n p os) {s : Nat} (h1 : 1 ≤ s) (h2 : s ≤ 4) : 0 ≤ T s ∧ T s ≤ n ∧ 0 ≤ U s ∧ U s ≤ n := by
  have a := h.tal s h1 h2
  have b := h.bd s h1 h2
  have c := ct_nonneg s p
  omega
theorem Cnt.offer {T U : Nat → Int} {last n s : Int} {q : Qu} (h : Cnt T U last n q.l q.os) {j : Nat} (hj : s = (j : Int)) (h1 : 1 ≤ j) (h2 : j ≤ 4) : Cnt (upd T j (T j + 1)) U last (n + 1) (offN q s (n + 1)).l (offN q s (n + 1)).os := by
  obtain ⟨ht, ha, hu, hb⟩ := h
  subst hj
  have bd : Bd (upd T j (T j + 1)) U (n + 1) := fun t a b => by
    have hbt := hb t a b
    refine ⟨?_, hbt.2⟩
    unfold upd
    by_cases e : t = j
    · rw [if_pos e, ← e]; omega
    · rw [if_neg e]; omega
  unfold offN
  by_cases hf : q.room ≤ q.l.length
  · rw [if_pos hf]
    refine ⟨fun t a b => ?_, ha, ⟨by have := hu.1; omega, fun G hG => by have := hu.2 G hG; omega⟩, bd⟩
    have h3 := ht t a b
    show upd T j (T j + 1) t = U t + ct t q.l + ((q.os ++ [(j : Int)]).count (t : Int) : Nat)
    rw [List.count_append]
    unfold upd
    by_cases e : t = j
    · rw [if_pos e, e, List.count_singleton_self, ← e, h3]; push_cast; omega
    · rw [if_neg e, show List.count (t : Int) [(j : Int)] = 0 from List.count_eq_zero.2 (by simp; omega), h3]; simp
  · rw [if_neg hf]
    refine ⟨fun t a b => ?_, Asc.snoc ⟨by omega, by omega⟩ (by omega) ha hu, ⟨by have := hu.1; omega, fun G hG => ?_⟩, bd⟩
    · have h3 := ht t a b
      show upd T j (T j + 1) t = U t + ct t (q.l ++ [gn (j : Int) (n + 1)]) + (q.os.count (t : Int) : Nat)
      rw [ct_snoc]
      unfold upd
      by_cases e : t = j
      · rw [if_pos e, if_pos (show (gn (j : Int) (n + 1)).f0 = (t : Int) by rw [e]; rfl), ← e, h3]; omega
      · rw [if_neg e, if_neg (show ¬ (gn (j : Int) (n + 1)).f0 = (t : Int) from fun h => e (by have : (j : Int) = t := h; omega)), h3]; omega
    · rcases List.mem_append.1 hG with h1 | h1
      · have := hu.2 G h1; omega
      · rw [List.mem_singleton.1 h1]; exact Int.le_refl _
theorem Cnt.took {T U : Nat → Int} {last n : Int} {G : S36} {p : List S36} {os : List Int} (h : Cnt T U last n (G :: p) os) {j : Nat} (hj : G.f0 = (j : Int)) : Cnt T (upd U j (U j + 1)) G.f2.f0.f2 n p os := by
  obtain ⟨ht, ha, hu, hb⟩ := h
  obtain ⟨a1, a2, a3, a4⟩ := ha
  refine ⟨fun t a b => ?_, a4, ⟨hu.2 G (List.mem_cons_self ..), fun x hx => hu.2 x (List.mem_cons_of_mem _ hx)⟩, fun t a b => ?_⟩
  · have h3 := ht t a b
    rw [ct_cons] at h3
    rw [h3]
    unfold upd
    by_cases e : t = j
    · rw [if_pos e, if_pos (by rw [hj, e]), ← e]; omega
    · rw [if_neg e, if_neg (by rw [hj]; omega)]; omega
  · have hbt := hb t a b
    refine ⟨hbt.1, ?_⟩
    unfold upd
    by_cases e : t = j
    · rw [if_pos e, ← e]; omega
    · rw [if_neg e]; exact hbt.2
theorem Cnt.start (n : Int) (h : 0 ≤ n) : Cnt (fun _ => 0) (fun _ => 0) 0 n [] [] := ⟨fun s _ _ => by rw [ct_nil]; rfl, trivial, ⟨h, fun G hG => by cases hG⟩, fun s _ _ => ⟨h, Int.le_refl _⟩⟩
theorem nextG (tk rest : List S36) {k : Nat} (h : k < tk.length) : tk.drop k ++ rest = rd_T36 tk (k : Int) :: (tk.drop (k + 1) ++ rest) := by
  rw [List.drop_eq_getElem_cons h, List.cons_append]
  congr 1
  unfold rd_T36
  rw [Int.toNat_natCast, List.getD_eq_getElem?_getD, List.getElem?_eq_getElem h]
  rfl
end Go.Proofs.YtmcochnofkjhaaaDoor.QU
