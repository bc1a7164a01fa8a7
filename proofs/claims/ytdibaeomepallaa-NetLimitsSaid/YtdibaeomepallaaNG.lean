/- The net, by hand: Lose, Twice, Take. -/
import Derived.Test.YtdibaeomepallaaNF
namespace Go.Proofs.Ytdibaeomepallaa.NW
open Go.RowKit Go.Proofs.YtdibaeomepallaaW.PrintWords Go.Proofs.YtdibaeomepallaaW.PrintLast Go.Proofs.YtdibaeomepallaaW.PrintMore Go.Proofs.Ytdibaeomepallaa.PAll
set_option linter.unusedVariables false
set_option linter.unusedSimpArgs false
set_option maxRecDepth 100000
theorem info32s : (Try.prog.info? 32).map (·.size) = some 2 := by kernel_rfl
theorem lose_ok {w : World} {F : Nat → Prop} {g : Nat} {q : List (List Pk)} {ap : List Bool} (h : NetW w F g q ap) (a b : Int) (i : Nat) {row : List Pk} {p : Pk} (ha : 1 ≤ a) (ha2 : a ≤ 15) (hb : 1 ≤ b) (hb2 : b ≤ 15) (hne : a ≠ b) (hrow : q[a.toNat * 16 + b.toNat]? = some row) (hp : row[i]? = some p) (hlen : row.length ≤ 1000) :
    Calls Try.prog 31 #[.pointer (some ⟨g, 0, none⟩), .agg #[.int .i64 a, .int .i64 b], .int .i64 i] w fun e w' => e = .returned (.int .i64 0) ∧ NetW w' (grow F w w') g (q.set (a.toNat * 16 + b.toNat) (row.eraseIdx i)) ap ∧ Mods (fun k => k = g) w w' := by
  have hth := fun w1 (h1 : NetW w1 F g q ap) => there_yes h1 a b i ha ha2 hb hb2 hne hrow
  have hil := (List.getElem?_eq_some_iff.1 hp).1
  have h0 : (if (i : Int) < 0 ∨ (row.length : Int) ≤ (i : Int) then (4 : Int) else 0) = 0 := if_neg (by omega)
  rw [h0] at hth
  obtain ⟨vs, h, hin⟩ := h
  have hu32 := Try.underlying32
  have hB := below_alloc (Below.refl w.heap.size w) (Obj.cells #[Value.int IntKind.i64 a, Value.int IntKind.i64 b] 32)
  have hbox := blk_new w (Obj.cells #[Value.int IntKind.i64 a, Value.int IntKind.i64 b] 32)
  go_enter Try.func31, Try.ntmps31
  go_wp2_with (first | ((with_reducible refine gate_callee (f := 60) rfl ?_); refine goesL_ (some 11) rfl rfl Try.func60 (by kernel_rfl) rfl #[.pointer (some ⟨g, 0, none⟩), .agg #[.int .i64 a, .int .i64 b], .int .i64 i] rfl (by (try simp only [List.map_toArray, List.map_cons, List.map_nil]); rfl) ?_; refine (hth _ ⟨vs, h.below hB, hin⟩).mono ?_; rintro e w11 ⟨rfl, hb11⟩; refine ⟨_, rfl, ?_⟩) | ((with_reducible refine gate_dst (N := 15) rfl ?_); refine wpList_load_row rfl 32 (.tmp 4) rfl w.heap.size rfl 32 _ (0, 0) _ ((hb11.block w.heap.size (by simp)).trans hbox) hu32 rfl info32s ?_) | ((with_reducible refine gate_callee (f := 69) rfl ?_); refine goesL_ (some 17) rfl rfl Try.func69 (by kernel_rfl) rfl #[.pointer (some ⟨g, 0, none⟩), .agg #[.int .i64 a, .int .i64 b], .int .i64 i] rfl (by (try simp only [List.map_toArray, List.map_cons, List.map_nil]); rfl) ?_; refine (out_ok (w := w11) (F := F) ⟨vs, (h.below hB).below hb11, hin⟩ a b i ha ha2 hb hb2 hrow hp hlen).mono ?_; rintro e w17 ⟨rfl, hn17, hb17⟩; refine ⟨_, rfl, ?_⟩))
  go_ret
  have hB2 := hB.trans (hb11.mono hB.size)
  exact ⟨rfl, hn17.mono (fun k _ hk => hk.elim .inl (fun e => .inr ⟨Nat.le_trans hB2.size e.1, e.2⟩)), Mods.after_below hB2 hb17⟩
theorem lose_err {w : World} {F : Nat → Prop} {g : Nat} (a b : Int) (i e0 : Int) (he : e0 ≠ 0) (hth : ∀ w1, Below w.heap.size w w1 → Calls Try.prog 60 #[.pointer (some ⟨g, 0, none⟩), .agg #[.int .i64 a, .int .i64 b], .int .i64 i] w1 fun e w' => e = .returned (.int .i64 e0) ∧ Below w1.heap.size w1 w') :
    Calls Try.prog 31 #[.pointer (some ⟨g, 0, none⟩), .agg #[.int .i64 a, .int .i64 b], .int .i64 i] w fun e w' => e = .returned (.int .i64 e0) ∧ Below w.heap.size w w' := by
  have hu32 := Try.underlying32
  have hB := below_alloc (Below.refl w.heap.size w) (Obj.cells #[Value.int IntKind.i64 a, Value.int IntKind.i64 b] 32)
  have hd : (e0 == 0) = false := beq_eq_false_iff_ne.mpr he
  go_enter Try.func31, Try.ntmps31
  go_wp2_with ((with_reducible refine gate_callee (f := 60) rfl ?_); refine goesL_ (some 11) rfl rfl Try.func60 (by kernel_rfl) rfl #[.pointer (some ⟨g, 0, none⟩), .agg #[.int .i64 a, .int .i64 b], .int .i64 i] rfl (by (try simp only [List.map_toArray, List.map_cons, List.map_nil]); rfl) ?_; refine (hth _ hB).mono ?_; rintro e w11 ⟨rfl, hb11⟩; refine ⟨_, rfl, ?_⟩)
  go_ret
  exact ⟨rfl, hB.trans (hb11.mono hB.size)⟩
theorem twice_err {w : World} {F : Nat → Prop} {g : Nat} (a b : Int) (i e0 : Int) (he : e0 ≠ 0) (hth : ∀ w1, Below w.heap.size w w1 → Calls Try.prog 60 #[.pointer (some ⟨g, 0, none⟩), .agg #[.int .i64 a, .int .i64 b], .int .i64 i] w1 fun e w' => e = .returned (.int .i64 e0) ∧ Below w1.heap.size w1 w') :
    Calls Try.prog 19 #[.pointer (some ⟨g, 0, none⟩), .agg #[.int .i64 a, .int .i64 b], .int .i64 i] w fun e w' => e = .returned (.int .i64 e0) ∧ Below w.heap.size w w' := by
  have hu32 := Try.underlying32
  have hB := below_alloc (Below.refl w.heap.size w) (Obj.cells #[Value.int IntKind.i64 a, Value.int IntKind.i64 b] 32)
  have hd : (e0 != 0) = true := bne_iff_ne.mpr he
  go_enter Try.func19, Try.ntmps19
  go_wp2_with ((with_reducible refine gate_callee (f := 60) rfl ?_); refine goesL_ (some 11) rfl rfl Try.func60 (by kernel_rfl) rfl #[.pointer (some ⟨g, 0, none⟩), .agg #[.int .i64 a, .int .i64 b], .int .i64 i] rfl (by (try simp only [List.map_toArray, List.map_cons, List.map_nil]); rfl) ?_; refine (hth _ hB).mono ?_; rintro e w11 ⟨rfl, hb11⟩; refine ⟨_, rfl, ?_⟩)
  go_ret
  exact ⟨rfl, hB.trans (hb11.mono hB.size)⟩
theorem take_err {w : World} {F : Nat → Prop} {g : Nat} (a b : Int) (i e0 : Int) (he : e0 ≠ 0) (hth : ∀ w1, Below w.heap.size w w1 → Calls Try.prog 60 #[.pointer (some ⟨g, 0, none⟩), .agg #[.int .i64 a, .int .i64 b], .int .i64 i] w1 fun e w' => e = .returned (.int .i64 e0) ∧ Below w1.heap.size w1 w') :
    Calls Try.prog 24 #[.pointer (some ⟨g, 0, none⟩), .agg #[.int .i64 a, .int .i64 b], .int .i64 i] w fun e w' => e = .returned (.tuple #[.agg (pk pk0).toArray, .int .i64 e0]) ∧ Below w.heap.size w w' := by
  have hu32 := Try.underlying32
  have hu28 := Try.underlying28
  have hd : (e0 != 0) = true := bne_iff_ne.mpr he
  have hb0 := below_alloc (Below.refl w.heap.size w) (Obj.cells #[Value.int IntKind.i64 a, Value.int IntKind.i64 b] 32)
  have hb2 := below_alloc hb0 (Obj.cells (pk pk0).toArray 28)
  have hbox : ((w.alloc (Obj.cells #[Value.int IntKind.i64 a, Value.int IntKind.i64 b] 32)).alloc (Obj.cells (pk pk0).toArray 28)).heap[w.heap.size + 1]? = some (.cells (pk pk0).toArray 28 (0, 0)) := by
    have hn := blk_new (w.alloc (Obj.cells #[Value.int IntKind.i64 a, Value.int IntKind.i64 b] 32)) (Obj.cells (pk pk0).toArray 28)
    rwa [show (w.alloc (Obj.cells #[Value.int IntKind.i64 a, Value.int IntKind.i64 b] 32)).heap.size = w.heap.size + 1 from by simp] at hn
  go_enter Try.func24, Try.ntmps24
  go_wp2_with (first | ((with_reducible refine gate_callee (f := 60) rfl ?_); refine goesL_ (some 12) rfl rfl Try.func60 (by kernel_rfl) rfl #[.pointer (some ⟨g, 0, none⟩), .agg #[.int .i64 a, .int .i64 b], .int .i64 i] rfl (by (try simp only [List.map_toArray, List.map_cons, List.map_nil]); rfl) ?_; refine (hth _ hb2).mono ?_; rintro e w1 ⟨rfl, hb1⟩; refine ⟨_, rfl, ?_⟩) | ((with_reducible refine gate_store (t := 28) (p := 6) rfl ?_); refine wpList_store_row rfl 28 (.tmp 6) (.tmp 15) rfl (w.heap.size + 1) (pk pk0).toArray rfl rfl 28 (pk pk0).toArray ((hb1.block _ (by simp)).trans hbox) info28s rfl (pk_one _) ?_))
  have h6 := (hb1.block (w.heap.size + 1) (by simp)).trans hbox
  refine bodyPost_ret (results_ct rfl _ _ (w.heap.size + 1) 28 (pk pk0).toArray (0, 0) _ rfl (setRow_heap _ _ _ _ _ _ h6) hu28 rfl info28s) rfl ?_
  exact ⟨rfl, below_setRow (hb2.trans (hb1.mono hb2.size)) (by omega) _⟩
theorem NetIn.lt {w : World} {F : Nat → Prop} {g : Nat} {vs : List Value} {q : List (List Pk)} {ap : List Bool} (h1 : NetAt w g vs q ap) (h2 : NetIn F g vs) : NetIn (fun k => F k ∧ k < w.heap.size) g vs := by
  refine ⟨⟨h2.1, h1.glt⟩, fun i v hv k hk => ⟨h2.2 i v hv k hk, ?_⟩⟩
  obtain ⟨xs, hq⟩ : ∃ xs, q[i]? = some xs := ⟨_, List.getElem?_eq_getElem (by rw [h1.lq, ← h1.lv]; exact (List.getElem?_eq_some_iff.1 hv).1)⟩
  exact (row_lt (h1.row i v xs hv hq) k hk).1
theorem take_ok {w : World} {F : Nat → Prop} {g : Nat} {q : List (List Pk)} {ap : List Bool} (h : NetW w F g q ap) (a b : Int) (i : Nat) {row : List Pk} {p : Pk} (x : Bool) (ha : 1 ≤ a) (ha2 : a ≤ 15) (hb : 1 ≤ b) (hb2 : b ≤ 15) (hne : a ≠ b) (hrow : q[a.toNat * 16 + b.toNat]? = some row) (hp : row[i]? = some p) (hlen : row.length ≤ 1000) (hx : ap[a.toNat * 16 + b.toNat]? = some x) :
    Calls Try.prog 24 #[.pointer (some ⟨g, 0, none⟩), .agg #[.int .i64 a, .int .i64 b], .int .i64 i] w fun e w' => e = .returned (.tuple #[if x = true then pkV pk0 else pkV p, .int .i64 (if x = true then 12 else 0)]) ∧ NetW w' (grow F w w') g (if x = true then q else q.set (a.toNat * 16 + b.toNat) (row.eraseIdx i)) ap ∧ Mods (fun k => k = g) w w' := by
  have hth := fun w1 (h1 : NetW w1 F g q ap) => there_yes h1 a b i ha ha2 hb hb2 hne hrow
  have hil := (List.getElem?_eq_some_iff.1 hp).1
  have h0 : (if (i : Int) < 0 ∨ (row.length : Int) ≤ (i : Int) then (4 : Int) else 0) = 0 := if_neg (by omega)
  rw [h0] at hth
  obtain ⟨vs, h, hin⟩ := h
  have hgl := h.glt
  have hwl : ∀ W : World, Below w.heap.size w W → Mods (fun k => k = g) w W := fun W hb => Mods.of_below hb
  have hu32 := Try.underlying32
  have hu28 := Try.underlying28
  have hu117 := Try.underlying117
  have hu115 := Try.underlying115
  have hu114 := Try.underlying114
  have a0 : (0 : Int) ≤ a := by omega
  have a16 : a < 16 := by omega
  have b0 : (0 : Int) ≤ b := by omega
  have b16 : b < 16 := by omega
  have hB0 := below_alloc (Below.refl w.heap.size w) (Obj.cells #[Value.int IntKind.i64 a, Value.int IntKind.i64 b] 32)
  have hB := below_alloc hB0 (Obj.cells (pk pk0).toArray 28)
  have hbx : ((w.alloc (Obj.cells #[Value.int IntKind.i64 a, Value.int IntKind.i64 b] 32)).alloc (Obj.cells (pk pk0).toArray 28)).heap[w.heap.size]? = some (.cells #[.int .i64 a, .int .i64 b] 32 (0, 0)) := blk_alloc (blk_new w _) _
  have hb6 : ((w.alloc (Obj.cells #[Value.int IntKind.i64 a, Value.int IntKind.i64 b] 32)).alloc (Obj.cells (pk pk0).toArray 28)).heap[w.heap.size + 1]? = some (.cells (pk pk0).toArray 28 (0, 0)) := by
    have hn := blk_new (w.alloc (Obj.cells #[Value.int IntKind.i64 a, Value.int IntKind.i64 b] 32)) (Obj.cells (pk pk0).toArray 28)
    rwa [show (w.alloc (Obj.cells #[Value.int IntKind.i64 a, Value.int IntKind.i64 b] 32)).heap.size = w.heap.size + 1 from by simp] at hn
  go_enter Try.func24, Try.ntmps24
  go_wp2_with (first | ((with_reducible refine gate_callee (f := 60) rfl ?_); refine goesL_ (some 12) rfl rfl Try.func60 (by kernel_rfl) rfl #[.pointer (some ⟨g, 0, none⟩), .agg #[.int .i64 a, .int .i64 b], .int .i64 i] rfl (by (try simp only [List.map_toArray, List.map_cons, List.map_nil]); rfl) ?_; refine (hth _ ⟨vs, h.below hB, hin⟩).mono ?_; rintro e w11 ⟨rfl, hb11⟩; refine ⟨_, rfl, ?_⟩))
  have h11 := (h.below hB).below hb11
  have hx11 := (hb11.block _ (Array.getElem?_eq_some_iff.1 hbx).1).trans hbx
  have h611 := (hb11.block _ (Array.getElem?_eq_some_iff.1 hb6).1).trans hb6
  have hB11 := hB.trans (hb11.mono hB.size)
  have c0 : w11.cell? ⟨w.heap.size, 0, none⟩ = some (.int .i64 a) := (blk_cell hx11 0).trans rfl
  have c1 : w11.cell? ⟨w.heap.size, 1, none⟩ = some (.int .i64 b) := (blk_cell hx11 1).trans rfl
  have cb := h11.bool hx
  rw [← Nat.add_assoc] at cb
  go_quiet (fail)
  have hD := pw_below_drewN (Below.refl w11.heap.size w11) nq
  have h12 := h11.below hD
  have hx12 := (hD.block _ (Array.getElem?_eq_some_iff.1 hx11).1).trans hx11
  have h612 := (hD.block _ (Array.getElem?_eq_some_iff.1 h611).1).trans h611
  have hB12 := hB11.trans (hD.mono hB11.size)
  clear cb c0 c1 hD
  generalize w11.drewN nq = w12 at *
  cases x with
  | true =>
    go_wp2_with ((with_reducible refine gate_store (t := 28) (p := 6) rfl ?_); refine wpList_store_row rfl 28 (.tmp 6) (.tmp 27) rfl (w.heap.size + 1) (pk pk0).toArray rfl rfl 28 (pk pk0).toArray h612 info28s rfl (pk_one _) ?_)
    refine bodyPost_ret (results_ct rfl _ _ (w.heap.size + 1) 28 (pk pk0).toArray (0, 0) _ rfl (setRow_heap _ _ _ _ _ _ h612) hu28 rfl info28s) rfl ?_
    have hB := below_setRow hB12 (g := w.heap.size + 1) (by omega) (pk pk0).toArray
    exact ⟨rfl, NetW.grow ⟨vs, h, hin⟩ hB, Mods.of_below hB⟩
  | false =>
    go_wp2_with (first | ((with_reducible refine gate_dst (N := 29) rfl ?_); refine wpList_load_row rfl 32 (.tmp 4) rfl w.heap.size rfl 32 _ (0, 0) _ hx12 hu32 rfl info32s ?_) | ((with_reducible refine gate_callee (f := 69) rfl ?_); refine goesL_ (some 31) rfl rfl Try.func69 (by kernel_rfl) rfl #[.pointer (some ⟨g, 0, none⟩), .agg #[.int .i64 a, .int .i64 b], .int .i64 i] rfl (by (try simp only [List.map_toArray, List.map_cons, List.map_nil]); rfl) ?_; refine (out_ok (w := w12) (F := fun k => F k ∧ k < w.heap.size) ⟨vs, h12, hin.lt h⟩ a b i ha ha2 hb hb2 hrow hp hlen).mono ?_; rintro e w31 ⟨rfl, hn31, hb31⟩; refine ⟨_, rfl, ?_⟩) | ((with_reducible refine gate_store (t := 28) (p := 6) rfl ?_); refine wpList_store_row rfl 28 (.tmp 6) (.tmp 31) rfl (w.heap.size + 1) (pk p).toArray rfl rfl 28 (pk pk0).toArray ((hb31.block _ (Array.getElem?_eq_some_iff.1 h612).1 (by omega)).trans h612) info28s rfl (pk_one _) ?_))
    have h631 := (hb31.block _ (Array.getElem?_eq_some_iff.1 h612).1 (by omega)).trans h612
    refine bodyPost_ret (results_ct rfl _ _ (w.heap.size + 1) 28 (pk p).toArray (0, 0) _ rfl (setRow_heap _ _ _ _ _ _ h631) hu28 rfl info28s) rfl ?_
    have hM := (Mods.after_below hB12 hb31).setRow (g := w.heap.size + 1) (.inr (by omega)) (pk p).toArray
    refine ⟨rfl, ?_, hM⟩
    have hw : w.heap.size + 1 < w12.heap.size := (Array.getElem?_eq_some_iff.1 h612).1
    have hn := hn31.mods (w1 := w31.setRow (w.heap.size + 1) (pk p).toArray) (G := fun k => k = w.heap.size + 1) (Mods.setRow (Mods.refl (fun k => k = w.heap.size + 1) w31) (.inl rfl) _) (fun k _ hk e => by rcases hk with hk | hk <;> omega)
    exact hn.mono (fun k hk e => e.elim (fun e => .inl e.1) (fun e => .inr ⟨Nat.le_trans hB12.size e.1, hk⟩))
end Go.Proofs.Ytdibaeomepallaa.NW
