/- The net, by hand: there, Take and Apart of what may not be; Apart. -/
import Derived.Test.YtdibaeomepallaaNC
namespace Go.Proofs.Ytdibaeomepallaa.NW
open Go.RowKit Go.Proofs.YtdibaeomepallaaW.PrintWords Go.Proofs.YtdibaeomepallaaW.PrintLast Go.Proofs.YtdibaeomepallaaW.PrintMore Go.Proofs.Ytdibaeomepallaa.PAll
set_option linter.unusedVariables false
set_option linter.unusedSimpArgs false
theorem row_nil (w : World) (a b : Int) : Calls Try.prog 25 #[.pointer none, .agg #[.int .i64 a, .int .i64 b]] w fun e w' => e = .returned (.slice none 0 0) ∧ Below w.heap.size w w' := by
  have hu32 := Try.underlying32
  go_enter Try.func25, Try.ntmps25
  go_wp2_with ((with_reducible refine gate_callee (f := 28) rfl ?_); refine goesL_ (some 7) rfl rfl Try.func28 (by kernel_rfl) rfl #[.pointer none, .agg #[.int .i64 a, .int .i64 b]] rfl (by (try simp only [List.map_toArray, List.map_cons, List.map_nil]); rfl) ?_; refine (len_nil _ a b).mono ?_; rintro e w1 ⟨rfl, hb1⟩; refine ⟨_, rfl, ?_⟩)
  go_ret
  exact ⟨rfl, (below_alloc (Below.refl _ _) _).trans (hb1.mono (by simp))⟩
def pk0 : Pk := ⟨0, 0, 0, 0, 0, 0, ⟨#[]⟩⟩
theorem pk_one (p : Pk) : (pk p).toArray.all (·.oneCell') = true := by rw [List.all_toArray, List.all_eq_true]; exact fun u hu => flat_one [p] u (by simpa [flat] using hu)
theorem is_true {a b : Int} (ha : 1 ≤ a) (ha2 : a ≤ 15) (hb : 1 ≤ b) (hb2 : b ≤ 15) (hne : a ≠ b) : net_is.f a b = some true := by
  have h1 : ∀ n : Int, 1 ≤ n → n ≤ 15 → net_node.f n = some true := by
    intro n h1 h2
    unfold net_node.f
    rw [if_pos (by omega), decide_eq_true h2]
  unfold net_is.f
  rw [h1 a ha ha2, Option.bind_some, if_pos rfl, h1 b hb hb2, Option.bind_some, if_pos rfl, bne_iff_ne.mpr hne]
theorem there_yes {w : World} {F : Nat → Prop} {g : Nat} {q : List (List Pk)} {ap : List Bool} (h : NetW w F g q ap) (a b i : Int) {row : List Pk} (ha : 1 ≤ a) (ha2 : a ≤ 15) (hb : 1 ≤ b) (hb2 : b ≤ 15) (hne : a ≠ b) (hrow : q[a.toNat * 16 + b.toNat]? = some row) :
    Calls Try.prog 60 #[.pointer (some ⟨g, 0, none⟩), .agg #[.int .i64 a, .int .i64 b], .int .i64 i] w fun e w' => e = .returned (.int .i64 (if i < 0 ∨ (row.length : Int) ≤ i then 4 else 0)) ∧ Below w.heap.size w w' := by
  obtain ⟨vs, h, hin⟩ := h
  have hidx : a.toNat * 16 + b.toNat < 256 := by omega
  obtain ⟨v, hv⟩ : ∃ v, vs[a.toNat * 16 + b.toNat]? = some v := ⟨_, List.getElem?_eq_getElem (by rw [h.lv]; exact hidx)⟩
  obtain ⟨A, c, rfl⟩ := h.slice hv hrow
  have hu32 := Try.underlying32
  have info32 : (Try.prog.info? 32).map (·.size) = some 2 := by kernel_rfl
  have his := is_true ha ha2 hb hb2 hne
  have hB := below_alloc (Below.refl w.heap.size w) (Obj.cells #[Value.int IntKind.i64 a, Value.int IntKind.i64 b] 32)
  have hbox := blk_new w (Obj.cells #[Value.int IntKind.i64 a, Value.int IntKind.i64 b] 32)
  by_cases hi : i < 0
  · have di : decide (i < 0) = true := decide_eq_true hi
    rw [if_pos (.inl hi)]
    go_enter Try.func60, Try.ntmps60
    go_wp2_with ((with_reducible refine gate_callee (f := 71) rfl ?_); refine gate_guard (by rfl) ?_; dsimp only; refine goesL_ (some 12) rfl rfl Try.func71 (by kernel_rfl) rfl #[.agg #[.int .i64 a, .int .i64 b]] rfl (by (try simp only [List.map_toArray, List.map_cons, List.map_nil]); rfl) ?_; refine (net_is.calls a b true _ his).mono ?_; rintro e w12 ⟨rfl, hb12⟩; refine ⟨_, rfl, ?_⟩)
    go_ret
    exact ⟨rfl, hB.trans (hb12.mono hB.size)⟩
  · have di : decide (i < 0) = false := decide_eq_false hi
    by_cases hl : (row.length : Int) ≤ i
    · have dl : decide ((row.length : Int) ≤ i) = true := decide_eq_true hl
      rw [if_pos (.inr hl)]
      go_enter Try.func60, Try.ntmps60
      go_wp2_with (first | ((with_reducible refine gate_callee (f := 71) rfl ?_); refine gate_guard (by rfl) ?_; dsimp only; refine goesL_ (some 12) rfl rfl Try.func71 (by kernel_rfl) rfl #[.agg #[.int .i64 a, .int .i64 b]] rfl (by (try simp only [List.map_toArray, List.map_cons, List.map_nil]); rfl) ?_; refine (net_is.calls a b true _ his).mono ?_; rintro e w12 ⟨rfl, hb12⟩; refine ⟨_, rfl, ?_⟩) | ((with_reducible refine gate_dst (N := 21) rfl ?_); refine gate_guard (by rfl) ?_; dsimp only; refine wpList_load_row rfl 32 (.tmp 4) rfl w.heap.size rfl 32 _ (0, 0) _ ((hb12.block w.heap.size (by simp)).trans hbox) hu32 rfl info32 ?_) | ((with_reducible refine gate_callee (f := 28) rfl ?_); refine gate_guard (by rfl) ?_; dsimp only; refine goesL_ (some 22) rfl rfl Try.func28 (by kernel_rfl) rfl #[.pointer (some ⟨g, 0, none⟩), .agg #[.int .i64 a, .int .i64 b]] rfl (by (try simp only [List.map_toArray, List.map_cons, List.map_nil]); rfl) ?_; refine (len_yes g a b _ A row.length c ha ha2 hb hb2 hne ((h.below (hB.trans (hb12.mono hB.size))).cell hv)).mono ?_; rintro e w1 ⟨rfl, hb1⟩; refine ⟨_, rfl, ?_⟩))
      go_ret
      exact ⟨rfl, (hB.trans (hb12.mono hB.size)).trans (hb1.mono (Nat.le_trans hB.size hb12.size))⟩
    · have dl : decide ((row.length : Int) ≤ i) = false := decide_eq_false hl
      rw [if_neg (fun e => e.elim hi hl)]
      go_enter Try.func60, Try.ntmps60
      go_wp2_with (first | ((with_reducible refine gate_callee (f := 71) rfl ?_); refine gate_guard (by rfl) ?_; dsimp only; refine goesL_ (some 12) rfl rfl Try.func71 (by kernel_rfl) rfl #[.agg #[.int .i64 a, .int .i64 b]] rfl (by (try simp only [List.map_toArray, List.map_cons, List.map_nil]); rfl) ?_; refine (net_is.calls a b true _ his).mono ?_; rintro e w12 ⟨rfl, hb12⟩; refine ⟨_, rfl, ?_⟩) | ((with_reducible refine gate_dst (N := 21) rfl ?_); refine gate_guard (by rfl) ?_; dsimp only; refine wpList_load_row rfl 32 (.tmp 4) rfl w.heap.size rfl 32 _ (0, 0) _ ((hb12.block w.heap.size (by simp)).trans hbox) hu32 rfl info32 ?_) | ((with_reducible refine gate_callee (f := 28) rfl ?_); refine gate_guard (by rfl) ?_; dsimp only; refine goesL_ (some 22) rfl rfl Try.func28 (by kernel_rfl) rfl #[.pointer (some ⟨g, 0, none⟩), .agg #[.int .i64 a, .int .i64 b]] rfl (by (try simp only [List.map_toArray, List.map_cons, List.map_nil]); rfl) ?_; refine (len_yes g a b _ A row.length c ha ha2 hb hb2 hne ((h.below (hB.trans (hb12.mono hB.size))).cell hv)).mono ?_; rintro e w1 ⟨rfl, hb1⟩; refine ⟨_, rfl, ?_⟩))
      go_ret
      exact ⟨rfl, (hB.trans (hb12.mono hB.size)).trans (hb1.mono (Nat.le_trans hB.size hb12.size))⟩

theorem take_nil (w : World) (a b i : Int) : Calls Try.prog 24 #[.pointer none, .agg #[.int .i64 a, .int .i64 b], .int .i64 i] w fun e w' => e = .returned (.tuple #[.agg (pk pk0).toArray, .int .i64 1]) ∧ Below w.heap.size w w' := by
  have hu32 := Try.underlying32
  have hu28 := Try.underlying28
  have hb0 := below_alloc (Below.refl w.heap.size w) (Obj.cells #[Value.int IntKind.i64 a, Value.int IntKind.i64 b] 32)
  have hb2 := below_alloc hb0 (Obj.cells (pk pk0).toArray 28)
  have hbox : ((w.alloc (Obj.cells #[Value.int IntKind.i64 a, Value.int IntKind.i64 b] 32)).alloc (Obj.cells (pk pk0).toArray 28)).heap[w.heap.size + 1]? = some (.cells (pk pk0).toArray 28 (0, 0)) := by
    have hn := blk_new (w.alloc (Obj.cells #[Value.int IntKind.i64 a, Value.int IntKind.i64 b] 32)) (Obj.cells (pk pk0).toArray 28)
    rwa [show (w.alloc (Obj.cells #[Value.int IntKind.i64 a, Value.int IntKind.i64 b] 32)).heap.size = w.heap.size + 1 from by simp] at hn
  go_enter Try.func24, Try.ntmps24
  go_wp2_with (first | ((with_reducible refine gate_callee (f := 60) rfl ?_); refine goesL_ (some 12) rfl rfl Try.func60 (by kernel_rfl) rfl #[.pointer none, .agg #[.int .i64 a, .int .i64 b], .int .i64 i] rfl (by (try simp only [List.map_toArray, List.map_cons, List.map_nil]); rfl) ?_; refine (there_nil _ a b i).mono ?_; rintro e w1 ⟨rfl, hb1⟩; refine ⟨_, rfl, ?_⟩) | ((with_reducible refine gate_store (t := 28) (p := 6) rfl ?_); refine wpList_store_row rfl 28 (.tmp 6) (.tmp 15) rfl (w.heap.size + 1) (pk pk0).toArray rfl rfl 28 (pk pk0).toArray ((hb1.block _ (by simp)).trans hbox) info28s rfl (pk_one _) ?_))
  have h6 := (hb1.block (w.heap.size + 1) (by simp)).trans hbox
  refine bodyPost_ret (results_ct rfl _ _ (w.heap.size + 1) 28 (pk pk0).toArray (0, 0) _ rfl (setRow_heap _ _ _ _ _ _ h6) hu28 rfl info28s) rfl ?_
  exact ⟨rfl, below_setRow (hb2.trans (hb1.mono hb2.size)) (by omega) _⟩

theorem there_bad {w : World} (g : Nat) (a b i : Int) (his : net_is.f a b = some false) :
    Calls Try.prog 60 #[.pointer (some ⟨g, 0, none⟩), .agg #[.int .i64 a, .int .i64 b], .int .i64 i] w fun e w' => e = .returned (.int .i64 1) ∧ Below w.heap.size w w' := by
  have hu32 := Try.underlying32
  have hB := below_alloc (Below.refl w.heap.size w) (Obj.cells #[Value.int IntKind.i64 a, Value.int IntKind.i64 b] 32)
  go_enter Try.func60, Try.ntmps60
  go_wp2_with ((with_reducible refine gate_callee (f := 71) rfl ?_); refine gate_guard (by rfl) ?_; dsimp only; refine goesL_ (some 12) rfl rfl Try.func71 (by kernel_rfl) rfl #[.agg #[.int .i64 a, .int .i64 b]] rfl (by (try simp only [List.map_toArray, List.map_cons, List.map_nil]); rfl) ?_; refine (net_is.calls a b false _ his).mono ?_; rintro e w12 ⟨rfl, hb12⟩; refine ⟨_, rfl, ?_⟩)
  go_ret
  exact ⟨rfl, hB.trans (hb12.mono hB.size)⟩
theorem apart_bad {w : World} (g : Nat) (a b : Int) (on : Bool) (his : net_is.f a b = some false) :
    Calls Try.prog 32 #[.pointer (some ⟨g, 0, none⟩), .int .i64 a, .int .i64 b, .bool on] w fun e w' => e = .returned (.int .i64 1) ∧ Below w.heap.size w w' := by
  have hu32 := Try.underlying32
  go_enter Try.func32, Try.ntmps32
  go_wp2_with ((with_reducible refine gate_callee (f := 71) rfl ?_); refine gate_guard (by rfl) ?_; dsimp only; refine goesL_ (some 15) rfl rfl Try.func71 (by kernel_rfl) rfl #[.agg #[.int .i64 a, .int .i64 b]] rfl (by (try simp only [List.map_toArray, List.map_cons, List.map_nil]); rfl) ?_; refine (net_is.calls a b false _ his).mono ?_; rintro e w15 ⟨rfl, hb15⟩; refine ⟨_, rfl, ?_⟩)
  go_ret
  exact ⟨rfl, hb15⟩
theorem NetAt.bool {w : World} {g : Nat} {vs : List Value} {q : List (List Pk)} {ap : List Bool} (h : NetAt w g vs q ap) {i : Nat} {x : Bool} (hi : ap[i]? = some x) : w.cell? ⟨g, 256 + i, none⟩ = some (.bool x) := by
  unfold World.cell?
  simp only [h.blk]
  rw [List.getElem?_toArray, List.getElem?_append_right (by rw [h.lv]; omega), h.lv, Nat.add_sub_cancel_left, List.getElem?_map, hi]
  rfl
theorem NetAt.setb {w : World} {g : Nat} {vs : List Value} {q : List (List Pk)} {ap : List Bool} (h : NetAt w g vs q ap) {i : Nat} (hi : i < 256) (x : Bool) : NetAt (w.setCell ⟨g, 256 + i, none⟩ (.bool x)) g vs q (ap.set i x) := by
  refine ⟨?_, h.lv, by simp [h.la], h.lq, ?_, h.apart⟩
  · rw [blk_set h.blk (256 + i) (.bool x)]
    congr 2
    simp [List.set_append_right, h.lv, List.map_set]
  · intro j v xs hv hq
    refine row_other (h.row j v xs hv hq) (fun k hk => Below.heap_setCell w ⟨g, 256 + i, none⟩ (.bool x) k (fun e => h.row_ne hv (by rw [hk, e])))
theorem apart_ok {w : World} {F : Nat → Prop} {g : Nat} {q : List (List Pk)} {ap : List Bool} (h : NetW w F g q ap) (a b : Int) (on : Bool) (ha : 1 ≤ a) (ha2 : a ≤ 15) (hb : 1 ≤ b) (hb2 : b ≤ 15) (hne : a ≠ b) :
    Calls Try.prog 32 #[.pointer (some ⟨g, 0, none⟩), .int .i64 a, .int .i64 b, .bool on] w fun e w' => e = .returned (.int .i64 0) ∧ NetW w' (grow F w w') g q ((ap.set (a.toNat * 16 + b.toNat) on).set (b.toNat * 16 + a.toNat) on) ∧ Mods (fun k => k = g) w w' := by
  obtain ⟨vs, h, hin⟩ := h
  have hu32 := Try.underlying32
  have hu117 := Try.underlying117
  have hu115 := Try.underlying115
  have hu114 := Try.underlying114
  have his := is_true ha ha2 hb hb2 hne
  go_enter Try.func32, Try.ntmps32
  go_wp2_with ((with_reducible refine gate_callee (f := 71) rfl ?_); refine gate_guard (by rfl) ?_; dsimp only; refine goesL_ (some 15) rfl rfl Try.func71 (by kernel_rfl) rfl #[.agg #[.int .i64 a, .int .i64 b]] rfl (by (try simp only [List.map_toArray, List.map_cons, List.map_nil]); rfl) ?_; refine (net_is.calls a b true _ his).mono ?_; rintro e w15 ⟨rfl, hb15⟩; refine ⟨_, rfl, ?_⟩)
  have h15 := h.below hb15
  have c1 := (h15.below (w1 := w15.drew) (below_drew1 (Below.refl _ _))).bool (i := a.toNat * 16 + b.toNat) (List.getElem?_eq_getElem (by rw [h.la]; omega))
  have c2 := (h15.below (w1 := w15.drew) (below_drew1 (Below.refl _ _))).bool (i := b.toNat * 16 + a.toNat) (List.getElem?_eq_getElem (by rw [h.la]; omega))
  have f1 := blk_frozen (blk_drew h15.blk) (256 + (a.toNat * 16 + b.toNat))
  have f2 := blk_frozen (blk_drew h15.blk) (256 + (b.toNat * 16 + a.toNat))
  have hs1 := h15.setb (i := a.toNat * 16 + b.toNat) (by omega) on
  have hs2 := h15.setb (i := b.toNat * 16 + a.toNat) (by omega) on
  have c3 := (hs1.below (below_drew1 (Below.refl _ _))).bool (i := b.toNat * 16 + a.toNat) (List.getElem?_eq_getElem (by simp [h.la]; omega))
  have f3 := blk_frozen (blk_drew hs1.blk) (256 + (b.toNat * 16 + a.toNat))
  have c4 := (hs2.below (below_drew1 (Below.refl _ _))).bool (i := a.toNat * 16 + b.toNat) (List.getElem?_eq_getElem (by simp [h.la]; omega))
  have f4 := blk_frozen (blk_drew hs2.blk) (256 + (a.toNat * 16 + b.toNat))
  have hsb := hs1.setb (i := b.toNat * 16 + a.toNat) (by omega) on
  have hb1 := ((Mods.of_below (F := fun k => k = g) hb15).set (p := ⟨g, 256 + (a.toNat * 16 + b.toNat), none⟩) (.inl rfl) (.bool on)).set (p := ⟨g, 256 + (b.toNat * 16 + a.toNat), none⟩) (.inl rfl) (.bool on)
  clear hs1 hs2
  simp only [← Nat.add_assoc] at c1 c2 f1 f2 c3 f3 c4 f4 hsb hb1
  go_region
  go_wp2
  go_ret
  exact ⟨rfl, ⟨vs, hsb.below (below_drew1 (Below.refl _ _)), .inl hin.1, fun i v hv k hk => .inl (hin.2 i v hv k hk)⟩, hb1.drew⟩
end Go.Proofs.Ytdibaeomepallaa.NW
