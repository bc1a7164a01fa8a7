/- The laws' queue: what is offered, its bounds; arrays of five numbers beside it. By hand. -/
import Derived.Test.YtmcochnofkjhaaaDoorQw
import Derived.Test.YtmcochnofkjhaaaDoorQh
namespace Go.Proofs.YtmcochnofkjhaaaDoor.QU
open Go.RowKit Go.Proofs.YtmcochnofkjhaaaDoorW.PrintWords Go.Proofs.YtmcochnofkjhaaaDoorW.PrintLast Go.Proofs.YtmcochnofkjhaaaDoorW.PrintMore Go.Proofs.YtmcochnofkjhaaaDoor.PAll
set_option linter.unusedVariables false
set_option linter.unusedSimpArgs false
set_option maxRecDepth 100000
/-- What the laws offer. -/
def gn (s : Int) (n : Int) : S36 := ⟨s, ⟨#[116]⟩, ⟨⟨1, 1, n⟩, ⟨#[116]⟩, []⟩⟩
theorem ev_all : (List.range 100).all (fun i => event_Check.f 3 1 1 ((i : Int) + 1) ⟨#[116]⟩ [] == some true) = true := by kernel_rfl
theorem ev_n (n : Int) (h1 : 1 ≤ n) (h2 : n ≤ 100) : event_Check.f 3 1 1 n ⟨#[116]⟩ [] = some true := by
  have h := List.all_eq_true.1 ev_all (n - 1).toNat (List.mem_range.2 (by omega))
  have e : (((n - 1).toNat : Nat) : Int) + 1 = n := by omega
  rw [e] at h
  exact beq_iff_eq.1 h
def offN (q : Qu) (s n : Int) : Qu := if q.room ≤ q.l.length then { q with os := q.os ++ [s], n := q.n + 1 } else { q with l := q.l ++ [gn s n] }
theorem offN_is (q : Qu) {s n : Int} (h1 : 1 ≤ s) : offQ q (gn s n) 0 true = offN q s n := by
  unfold offQ offN
  rw [if_neg]
  · rfl
  · rintro (h | h | h)
    · have : s < 1 := h
      omega
    · exact h rfl
    · cases h
theorem Bq.offN {q : Qu} {k : Nat} (h : Bq q k) (s n : Int) : Bq (offN q s n) (k + 1) := by
  obtain ⟨r1, r, l, o, hn⟩ := h
  unfold QU.offN
  by_cases hf : q.room ≤ q.l.length
  · rw [if_pos hf]
    exact ⟨r1, r, l, by rw [List.length_append]; show _ + 1 ≤ _; dsimp only; omega, by dsimp only; omega⟩
  · rw [if_neg hf]
    exact ⟨r1, r, by rw [List.length_append]; show _ + 1 ≤ _; dsimp only; omega, o, by dsimp only; omega⟩
theorem Bq.mono {q : Qu} {k k' : Nat} (h : Bq q k) (hk : k ≤ k') : Bq q k' := ⟨h.r1, h.r, h.l, h.o, Nat.le_trans h.n hk⟩
theorem Bq.cut {q : Qu} {k : Nat} (h : Bq q k) (l : List S36) (hl : l.length ≤ q.l.length) : Bq { q with l := l } k := ⟨h.r1, h.r, Nat.le_trans hl h.l, h.o, h.n⟩
theorem offerN {w0 w : World} {g m : Nat} {q : Qu} {v : Value} (h : QS w0 w g m q v) {k : Nat} (hq : Bq q k) (hk : k < 1000000) (hT : NC.TabW w0) {s n : Int} (h1 : 1 ≤ s) (h2 : s ≤ 4) (h3 : 1 ≤ n) (h4 : n ≤ 100) {A : Option Addr} {c : Nat} (hC : k87.C w A 0 []) :
    Calls Tryd.prog 9 #[.pointer (some ⟨g, 0, none⟩), .agg #[.int .i64 s, .string ⟨#[116]⟩, .int .i64 1, .int .i64 1, .int .i64 n, .string ⟨#[116]⟩, .slice A 0 c]] w fun e w' => ∃ x, e = .returned (.int .i64 x) ∧ ∃ v', QS w0 w' g m (offN q s n) v' :=
  (offerS h hq hk hT (gn s n) hC (Nat.zero_le _) (Nat.zero_le _) (WalkArith.wf_i64 ⟨by show (_ : Int) ≤ s; omega, by show s ≤ (_ : Int); omega⟩) nm_t (ev_n n h3 h4)).mono (fun e w' ⟨he, v', hs⟩ => ⟨_, he, v', offN_is q h1 ▸ hs⟩)
section
variable {w0 w w' : World} {g m : Nat} {q q' : Qu} {v v' : Value}
theorem QAt.foreign (h : QAt w g q v m) {ga t : Nat} {cs : Array Value} (ha : w.heap[ga]? = some (.cells cs t (0, 0))) (h1 : t ≠ 68) (h2 : t ≠ 36) : ¬ lf g v m ga := by
  rintro (e | e | e)
  · rw [e, h.blk] at ha
    injection ha with ha
    injection ha with _ ha
    exact h1 ha.symm
  · obtain ⟨es, c, hm⟩ := h.ov.form
    rw [e, hm] at ha
    injection ha with ha
    cases ha
  · obtain ⟨c, hc⟩ := h.own e
    rw [hc] at ha
    injection ha with ha
    injection ha with _ ha
    exact h2 ha.symm
theorem QStep.keep (s : QStep w g v m q' v' w') (h : QAt w g q v m) {ga t : Nat} {cs : Array Value} (ha : w.heap[ga]? = some (.cells cs t (0, 0))) (h1 : t ≠ 68) (h2 : t ≠ 36) : w'.heap[ga]? = some (.cells cs t (0, 0)) :=
  (s.mods.block ga (blk_lt ha) (h.foreign ha h1 h2)).trans ha
/-- A cell of another box is written. -/
theorem QAt.beside (h : QAt w g q v m) {ga t : Nat} {cs : Array Value} (ha : w.heap[ga]? = some (.cells cs t (0, 0))) (h1 : t ≠ 68) (h2 : 36 ≠ t) (h3 : 87 ≠ t) (j : Nat) (x : Value) : QAt (w.setCell ⟨ga, j, none⟩ x) g q v m := by
  have hn := h.foreign ha h1 (fun e => h2 e.symm)
  refine ⟨?_, Kd.R_set h.row ha (k36_types h2 h3) j x, h.ov.other ?_⟩
  · exact (Below.heap_setCell w ⟨ga, j, none⟩ x g (fun e => hn (.inl e.symm))).trans h.blk
  · exact Below.heap_setCell w ⟨ga, j, none⟩ x m (fun e => hn (.inr (.inl e.symm)))
theorem QS.beside (h : QS w0 w g m q v) {ga t : Nat} {cs : Array Value} (ha : w.heap[ga]? = some (.cells cs t (0, 0))) (hlo : w0.heap.size ≤ ga) (h1 : t ≠ 68) (h2 : 36 ≠ t) (h3 : 87 ≠ t) (j : Nat) (x : Value) : QS w0 (w.setCell ⟨ga, j, none⟩ x) g m q v :=
  ⟨h.qu.beside ha h1 h2 h3 j x, below_cell h.bel hlo x, h.low⟩
end
/-- Five numbers. -/
def arr (T : Nat → Int) : Array Value := #[.int .i64 (T 0), .int .i64 (T 1), .int .i64 (T 2), .int .i64 (T 3), .int .i64 (T 4)]
def upd (T : Nat → Int) (j : Nat) (x : Int) : Nat → Int := fun i => if i = j then x else T i
theorem arr_get (T : Nat → Int) {j : Nat} (h : j < 5) : (arr T)[j]? = some (.int .i64 (T j)) := by
  rcases j with _ | _ | _ | _ | _ | j
  all_goals first | rfl | omega
theorem arr_set (T : Nat → Int) {j : Nat} (h : j < 5) (x : Int) : (arr T).setIfInBounds j (.int .i64 x) = arr (upd T j x) := by
  rcases j with _ | _ | _ | _ | _ | j
  all_goals first | rfl | omega
theorem arr_cell {w : World} {ga : Nat} {T : Nat → Int} (h : w.heap[ga]? = some (.cells (arr T) 26 (0, 0))) {j : Nat} (hj : j < 5) : w.cell? ⟨ga, j, none⟩ = some (.int .i64 (T j)) := (blk_cell h j).trans (arr_get T hj)
theorem arr_put {w : World} {ga : Nat} {T : Nat → Int} (h : w.heap[ga]? = some (.cells (arr T) 26 (0, 0))) {j : Nat} (hj : j < 5) (x : Int) : (w.setCell ⟨ga, j, none⟩ (.int .i64 x)).heap[ga]? = some (.cells (arr (upd T j x)) 26 (0, 0)) := by
  rw [blk_set h j, arr_set T hj]
/-- A room of 1 to 100. -/
theorem room_ok (x : Int) : 0 ≤ ((x.tmod 100 + 100).tmod 100) ∧ ((x.tmod 100 + 100).tmod 100) ≤ 99 := by
  have h1 := Int.tmod_lt_of_pos x (show (0 : Int) < 100 by decide)
  have h2 : -100 < x.tmod 100 := by
    have := Int.lt_tmod_of_pos x (show (0 : Int) < 100 by decide)
    omega
  have h3 : 0 ≤ x.tmod 100 + 100 := by omega
  have h4 := Int.tmod_lt_of_pos (x.tmod 100 + 100) (show (0 : Int) < 100 by decide)
  have h5 := Int.tmod_nonneg 100 h3
  omega
theorem room_nat (x : Int) : ∃ r : Nat, wrap64 (1 + (wrap64 (x.tmod 100 + 100)).tmod 100) = (r : Int) ∧ 1 ≤ r ∧ r ≤ 100 := by
  have h := room_ok x
  have h1 := Int.tmod_lt_of_pos x (show (0 : Int) < 100 by decide)
  have h2 := Int.lt_tmod_of_pos x (show (0 : Int) < 100 by decide)
  rw [wrapId (x := x.tmod 100 + 100) (by omega) (by omega), wrapId (by omega) (by omega)]
  exact ⟨(1 + (x.tmod 100 + 100).tmod 100).toNat, by omega, by omega, by omega⟩
theorem over_same {w : World} {g m : Nat} {q : Qu} {v : Value} (h : QAt w g q v m) (k : Int) (hk : (Lit.int .i64 k).wf = true) : Calls Tryd.prog 13 #[.pointer (some ⟨g, 0, none⟩), .int .i64 k] w fun e w' => e = .returned (.int .i64 (q.os.count k)) ∧ w' = w := by
  have c2 := (blk_cell h.blk 2).trans (show (qc q v m)[2]? = some (.map (some m)) from rfl)
  have hl := h.ov.look (mt := 66) Tryd.underlying3 Tryd.underlying3 Tryd.underlying66 (zero3 w) hk
  clear h
  go_enter Tryd.func13, Tryd.ntmps13
  go_wp2
  go_ret
  exact ⟨rfl, rfl⟩
/-- A queue's elements are small. -/
def Sm (q : Qu) : Prop := ∀ G ∈ q.l, G.f2.f2.length ≤ 1000000
theorem Sm.offN {q : Qu} (h : Sm q) (s n : Int) : Sm (offN q s n) := by
  unfold QU.offN
  by_cases hf : q.room ≤ q.l.length
  · rw [if_pos hf]; exact h
  · rw [if_neg hf]
    intro G hG
    rcases List.mem_append.1 hG with h1 | h1
    · exact h G h1
    · rw [List.mem_singleton.1 h1]; exact Nat.zero_le _
theorem Bq.fg {q : Qu} {k : Nat} (h : Bq q k) (sub : Int) : Bq (fgQ q sub) k := ⟨h.r1, h.r, Nat.le_trans (fl_le q sub) h.l, Nat.le_trans (List.length_filter_le _ _) h.o, h.n⟩
theorem Sm.fg {q : Qu} (h : Sm q) (sub : Int) : Sm (fgQ q sub) := fun G hG => h G (List.mem_filter.1 hG).1
/-- A number out of a row of bytes, as the laws turn it into a subscription. -/
theorem sub_ok {l : List Int} (hg : ∀ y ∈ l, (Lit.int .u8 y).wf = true) {i : Nat} (hi : i < l.length) : 0 ≤ rd l (i : Int) ∧ rd l (i : Int) < 256 := by
  have h := hg (rd l (i : Int)) (by unfold rd; rw [Int.toNat_natCast, List.getD_eq_getElem?_getD, List.getElem?_eq_getElem hi]; exact List.getElem_mem hi)
  simp [Lit.wf] at h
  have e1 : IntKind.min .u8 = 0 := by kernel_rfl
  have e2 : IntKind.max .u8 = 255 := by kernel_rfl
  rw [e1, e2] at h
  omega
theorem sub4 {u : Int} (h : 0 ≤ u) : 1 ≤ wrap64 (1 + wrap64 (u.tmod 4)) ∧ wrap64 (1 + wrap64 (u.tmod 4)) ≤ 4 := by
  have h1 := Int.tmod_lt_of_pos u (show (0 : Int) < 4 by decide)
  have h2 := Int.tmod_nonneg 4 h
  rw [wrapId (x := u.tmod 4) (by omega) (by omega), wrapId (by omega) (by omega)]
  omega
/-- Which of the kept ones an element is. -/
theorem filt_at {p : S36 → Bool} {l : List S36} {i : Nat} (hi : i < l.length) (hp : p l[i] = true) : ((l.take i).filter p).length < (l.filter p).length ∧ rd_T36 (l.filter p) ((((l.take i).filter p).length : Nat) : Int) = l[i] ∧ ((l.take (i + 1)).filter p).length = ((l.take i).filter p).length + 1 := by
  have e : l.filter p = (l.take i).filter p ++ l[i] :: (l.drop (i + 1)).filter p := by
    rw [← List.filter_cons_of_pos hp, ← List.filter_append, ← List.drop_eq_getElem_cons hi, List.take_append_drop]
  refine ⟨by rw [e, List.length_append, List.length_cons]; omega, ?_, ?_⟩
  · unfold rd_T36
    rw [Int.toNat_natCast, e, List.getD_eq_getElem?_getD, List.getElem?_append_right (Nat.le_refl _), Nat.sub_self]
    rfl
  · rw [List.take_add_one, List.filter_append, List.getElem?_eq_getElem hi]
    simp [hp]
theorem filt_skip {p : S36 → Bool} {l : List S36} {i : Nat} (hi : i < l.length) (hp : p l[i] = false) : ((l.take (i + 1)).filter p).length = ((l.take i).filter p).length := by
  rw [List.take_add_one, List.filter_append, List.getElem?_eq_getElem hi]
  simp [hp]
theorem count_drop (os : List Int) (sub s : Int) (h : s ≠ sub) : (os.filter (· != sub)).count s = os.count s := by
  rw [List.count_filter (by simpa using h)]
theorem count_gone (os : List Int) (sub : Int) : (os.filter (· != sub)).count sub = 0 := List.count_eq_zero.2 (by simp)
end Go.Proofs.YtmcochnofkjhaaaDoor.QU
