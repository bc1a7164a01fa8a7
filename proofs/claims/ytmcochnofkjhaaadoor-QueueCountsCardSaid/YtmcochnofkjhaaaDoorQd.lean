/- A queue in memory: New, Len, Room, Over; a nil queue. By hand. -/
import Derived.Test.YtmcochnofkjhaaaDoorQc
import Derived.Carry
namespace Go.Proofs.YtmcochnofkjhaaaDoor.QU
open Go.RowKit Go.Proofs.YtmcochnofkjhaaaDoorW.PrintWords Go.Proofs.YtmcochnofkjhaaaDoorW.PrintLast Go.Proofs.YtmcochnofkjhaaaDoorW.PrintMore Go.Proofs.YtmcochnofkjhaaaDoor.PAll
set_option linter.unusedVariables false
set_option linter.unusedSimpArgs false
set_option maxRecDepth 100000
/-- A queue: its room, what is there, what did not come in; how many turns its map has had. -/
structure Qu where
  room : Nat
  l : List S36
  os : List Int
  n : Nat
def qc (q : Qu) (v : Value) (m : Nat) : Array Value := #[.int .i64 q.room, v, .map (some m)]
/-- A queue in block g: its row's slice v, its map's block m. -/
structure QAt (w : World) (g : Nat) (q : Qu) (v : Value) (m : Nat) : Prop where
  blk : w.heap[g]? = some (.cells (qc q v m) 68 (0, 0))
  row : k36.R 36 w 0 (fun _ => True) v q.l
  ov : OvAt Tryd.prog 3 3 w m q.n q.os
/-- The bounds within which a queue stays, k turns on. -/
structure Bq (q : Qu) (k : Nat) : Prop where
  r1 : 1 ≤ q.room
  r : q.room ≤ 100
  l : q.l.length ≤ q.room
  o : q.os.length ≤ q.n
  n : q.n ≤ k
/-- The blocks of a queue that its acts turn. -/
def lf (g : Nat) (v : Value) (m : Nat) : Nat → Prop := fun k => k = g ∨ k = m ∨ v.ownBlock = some k
section
variable {w w' : World} {g m : Nat} {q : Qu} {v : Value}
theorem QAt.lt (h : QAt w g q v m) : g < w.heap.size := blk_lt h.blk
theorem QAt.own (h : QAt w g q v m) {k : Nat} (hk : v.ownBlock = some k) : ∃ cells, w.heap[k]? = some (.cells cells 36 (0, 0)) := by
  obtain ⟨inner, ho⟩ := Kd.R_own h.row
  exact own_typed ho k hk
theorem QAt.foot_lt (h : QAt w g q v m) {k : Nat} (hk : lf g v m k) : k < w.heap.size := by
  rcases hk with rfl | rfl | hk
  · exact h.lt
  · exact h.ov.lt
  · obtain ⟨c, hc⟩ := h.own hk; exact blk_lt hc
theorem QAt.ne_row (h : QAt w g q v m) : v.ownBlock ≠ some g := by
  intro e
  obtain ⟨c, hc⟩ := h.own e
  rw [h.blk] at hc
  injection hc with hc
  injection hc with _ hc
  cases hc
theorem QAt.ne_map (h : QAt w g q v m) : m ≠ g := by
  intro e
  obtain ⟨es, c, hc⟩ := h.ov.form
  rw [e, h.blk] at hc
  injection hc with hc
  cases hc
theorem QAt.row_map (h : QAt w g q v m) : v.ownBlock ≠ some m := by
  intro e
  obtain ⟨c, hc⟩ := h.own e
  obtain ⟨es, c2, hc2⟩ := h.ov.form
  rw [hc] at hc2
  injection hc2 with hc2
  cases hc2
theorem QAt.below (h : QAt w g q v m) (hb : Below w.heap.size w w') : QAt w' g q v m :=
  ⟨keepB h.blk hb, Kd.R_below h.row hb, h.ov.other (hb.block m h.ov.lt)⟩
/-- The row lies apart from the box and the map. -/
theorem QAt.apart (h : QAt w g q v m) : k36.R 36 w 0 (fun k => k ≠ g ∧ k ≠ m) v q.l :=
  Kd.R_mono (Kd.R_bound (Kd.R_types h.row h.blk (k36_types (by decide) (by decide)))) (fun k hk => ⟨hk.1.2, fun e => by
    obtain ⟨_, _, _, t, _, cells, hc⟩ := hk
    obtain ⟨es, c2, hc2⟩ := h.ov.form
    rw [e, hc2] at hc
    injection hc with hc
    cases hc⟩)
/-- The map alone has turned. -/
theorem QAt.map (h : QAt w g q v m) {os : List Int} {n : Nat} (hg : w.grownBy w' (some m)) (ho : OvAt Tryd.prog 3 3 w' m n os) : QAt w' g { q with os := os, n := n } v m :=
  ⟨(hg.block g h.lt (fun e => h.ne_map (Option.some.inj e).symm)).trans h.blk, Kd.R_mono (Kd.R_grown h.apart hg (fun k hk e => hk.2 (Option.some.inj e))) (fun _ _ => trivial), ho⟩
/-- What an act of a queue leaves. -/
structure QStep (w : World) (g : Nat) (v : Value) (m : Nat) (q' : Qu) (v' : Value) (w' : World) : Prop where
  qu : QAt w' g q' v' m
  own : ∀ k, v'.ownBlock = some k → v.ownBlock = some k ∨ w.heap.size ≤ k
  mods : Mods (lf g v m) w w'
theorem qstep_refl (h : QAt w g q v m) (hb : Below w.heap.size w w') : QStep w g v m q v w' := ⟨h.below hb, fun _ hk => .inl hk, Mods.of_below hb⟩
theorem len_is (h : QAt w g q v m) : Calls Tryd.prog 14 #[.pointer (some ⟨g, 0, none⟩)] w fun e w' => e = .returned (.int .i64 q.l.length) ∧ Below w.heap.size w w' := by
  obtain ⟨A, c, rfl, hcl, hC⟩ := Kd.R_reads h.row
  have c1 := (blk_cell h.blk 1).trans (show (qc q (.slice A q.l.length c) m)[1]? = some (.slice A q.l.length c) from rfl)
  clear h hC
  go_enter Tryd.func14, Tryd.ntmps14
  go_wp2
  go_ret
  exact ⟨rfl, Below.refl _ _⟩
theorem room_is (h : QAt w g q v m) : Calls Tryd.prog 15 #[.pointer (some ⟨g, 0, none⟩)] w fun e w' => e = .returned (.int .i64 q.room) ∧ Below w.heap.size w w' := by
  have c0 := (blk_cell h.blk 0).trans (show (qc q v m)[0]? = some (.int .i64 q.room) from rfl)
  clear h
  go_enter Tryd.func15, Tryd.ntmps15
  go_wp2
  go_ret
  exact ⟨rfl, Below.refl _ _⟩
theorem zero3 (w : World) : (zeroValue 3).run Tryd.prog w = .ok (.int .i64 0) w := by
  with_unfolding_all rfl
theorem over_is (h : QAt w g q v m) (k : Int) (hk : (Lit.int .i64 k).wf = true) : Calls Tryd.prog 13 #[.pointer (some ⟨g, 0, none⟩), .int .i64 k] w fun e w' => e = .returned (.int .i64 (q.os.count k)) ∧ Below w.heap.size w w' := by
  have c2 := (blk_cell h.blk 2).trans (show (qc q v m)[2]? = some (.map (some m)) from rfl)
  have hl := h.ov.look (mt := 66) Tryd.underlying3 Tryd.underlying3 Tryd.underlying66 (zero3 w) hk
  clear h
  go_enter Tryd.func13, Tryd.ntmps13
  go_wp2
  go_ret
  exact ⟨rfl, Below.refl _ _⟩
end
section
variable (w : World)
theorem len_nil : Calls Tryd.prog 14 #[.pointer none] w fun e w' => e = .returned (.int .i64 0) ∧ Below w.heap.size w w' := by
  go_enter Tryd.func14, Tryd.ntmps14
  go_wp2
  go_ret
  exact ⟨rfl, Below.refl _ _⟩
theorem room_nil : Calls Tryd.prog 15 #[.pointer none] w fun e w' => e = .returned (.int .i64 0) ∧ Below w.heap.size w w' := by
  go_enter Tryd.func15, Tryd.ntmps15
  go_wp2
  go_ret
  exact ⟨rfl, Below.refl _ _⟩
theorem over_nil (k : Int) : Calls Tryd.prog 13 #[.pointer none, .int .i64 k] w fun e w' => e = .returned (.int .i64 0) ∧ Below w.heap.size w w' := by
  go_enter Tryd.func13, Tryd.ntmps13
  go_wp2
  go_ret
  exact ⟨rfl, Below.refl _ _⟩
theorem peek_nil : Calls Tryd.prog 12 #[.pointer none] w fun e w' => e = .returned (.slice none 0 0) ∧ Below w.heap.size w w' := by
  go_enter Tryd.func12, Tryd.ntmps12
  go_wp2
  go_ret
  exact ⟨rfl, Below.refl _ _⟩
theorem forget_nil (k : Int) : Calls Tryd.prog 16 #[.pointer none, .int .i64 k] w fun e w' => e = .returned (.int .i64 0) ∧ Below w.heap.size w w' := by
  have HB := Aside0.mk (below_alloc (Below.refl w.heap.size w) (.cells #[.int .i64 k] 3))
  go_enter Tryd.func16, Tryd.ntmps16
  go_wp2
  go_ret
  exact ⟨rfl, HB.out⟩
theorem poll_nil (k : Int) : Calls Tryd.prog 11 #[.pointer none, .int .i64 k] w fun e w' => e = .returned (.slice none 0 0) ∧ Below w.heap.size w w' := by
  have HL := Aside0.mk (fun W => len_nil W)
  have d1 : (min (max k 0) 0 == 0) = true := by rw [beq_iff_eq]; omega
  go_enter Tryd.func11, Tryd.ntmps11
  go_wp2_with (((with_reducible refine gate_dst (N := 10) rfl ?_); refine goesL_ (some 10) rfl rfl Tryd.func14 (by kernel_rfl) rfl #[.pointer none] rfl (by first | (simp only [List.map_toArray, List.map_cons, List.map_nil]; rfl) | rfl) ?_; refine (HL.out _).mono ?_; rintro e w1 ⟨rfl, hb⟩; have HB := Aside0.mk hb; clear hb; refine ⟨_, rfl, ?_⟩))
  go_ret
  exact ⟨rfl, HB.out⟩
end
theorem new_no (w : World) (x : Int) (h : x < 1 ∨ 100 < x) : Calls Tryd.prog 7 #[.int .i64 x] w fun e w' => e = .returned (.pointer none) ∧ Below w.heap.size w w' := by
  by_cases h1 : x < 1
  · have d1 : decide (x < 1) = true := decide_eq_true h1
    go_enter Tryd.func7, Tryd.ntmps7
    go_wp2
    go_ret
    exact ⟨rfl, Below.refl _ _⟩
  · have d1 : decide (x < 1) = false := decide_eq_false h1
    have d2 : decide (100 < x) = true := decide_eq_true (by omega)
    go_enter Tryd.func7, Tryd.ntmps7
    go_wp2
    go_ret
    exact ⟨rfl, Below.refl _ _⟩
theorem new_yes (w : World) (x : Nat) (h1 : 1 ≤ x) (h2 : x ≤ 100) : Calls Tryd.prog 7 #[.int .i64 x] w fun e w' => ∃ g m, e = .returned (.pointer (some ⟨g, 0, none⟩)) ∧ QAt w' g ⟨x, [], [], 0⟩ (.slice none 0 0) m ∧ w.heap.size ≤ g ∧ w.heap.size ≤ m ∧ Below w.heap.size w w' := by
  have hu68 := Tryd.underlying68
  have d1 : decide ((x : Int) < 1) = false := decide_eq_false (by omega)
  have d2 : decide (100 < (x : Int)) = false := decide_eq_false (by omega)
  have hmm := @run_makeMap Tryd.prog
  go_enter Tryd.func7, Tryd.ntmps7
  go_wp2
  go_ret
  have s1 : (w.alloc (.map #[] 0)).heap.size = w.heap.size + 1 := by simp
  have hn := blk_new (w.alloc (.map #[] 0)) (.cells #[.int .i64 x, .slice none 0 0, .map (some w.heap.size)] 68)
  rw [s1] at hn
  have he := ov_new Tryd.prog 3 3 w
  exact ⟨w.heap.size + 1, w.heap.size, rfl, ⟨hn, Kd.R_nil _ _ _ _ _, he.other ((below_alloc (Below.refl _ _) _).block _ he.lt)⟩, by omega, by omega, below_alloc (below_alloc (Below.refl _ _) _) _⟩
end Go.Proofs.YtmcochnofkjhaaaDoor.QU
