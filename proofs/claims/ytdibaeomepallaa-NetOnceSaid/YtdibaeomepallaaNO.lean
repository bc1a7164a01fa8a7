import Derived.Test.YtdibaeomepallaaNL
/- A net and the variables of the function that made it: St; the net's contracts said of it. -/
namespace Go.Proofs.Ytdibaeomepallaa.NW
open Go.RowKit Go.Proofs.YtdibaeomepallaaW.PrintWords Go.Proofs.YtdibaeomepallaaW.PrintLast Go.Proofs.YtdibaeomepallaaW.PrintMore Go.Proofs.Ytdibaeomepallaa.PAll
set_option linter.unusedVariables false
set_option linter.unusedSimpArgs false
/-- The net in block g, made since w0; L: blocks that are not the net's, with what lies there. -/
structure St (w0 : World) (g : Nat) (L : List (Nat × Obj)) (q : List (List Pk)) (ap : List Bool) (W : World) : Prop where
  ex : ∃ F : Nat → Prop, NetW W F g q ap ∧ (∀ k, F k → w0.heap.size ≤ k) ∧ ∀ x ∈ L, W.heap[x.1]? = some x.2 ∧ ¬ F x.1
  below : Below w0.heap.size w0 W
section
variable {w0 W W' : World} {g : Nat} {L : List (Nat × Obj)} {q : List (List Pk)} {ap : List Bool}
theorem St.box (h : St w0 g L q ap W) {b : Nat} {o : Obj} (hm : (b, o) ∈ L) : W.heap[b]? = some o := by
  obtain ⟨F, _, _, hL⟩ := h.ex
  exact (hL _ hm).1
theorem St.bel (h : St w0 g L q ap W) (hb : Below W.heap.size W W') : St w0 g L q ap W' := by
  obtain ⟨F, h1, h2, h3⟩ := h.ex
  exact ⟨⟨F, h1.below hb, h2, fun x hx => ⟨(hb.block _ (blk_lt (h3 x hx).1)).trans (h3 x hx).1, (h3 x hx).2⟩⟩, h.below.trans (hb.mono h.below.size)⟩
theorem St.drew (h : St w0 g L q ap W) : St w0 g L q ap W.drew := h.bel (below_drew1 (Below.refl _ _))
theorem St.drewN (h : St w0 g L q ap W) (n : Nat) : St w0 g L q ap (W.drewN n) := h.bel (pw_below_drewN (Below.refl _ _) n)
theorem St.sub {L' : List (Nat × Obj)} (h : St w0 g L q ap W) (hL : ∀ x ∈ L', x ∈ L) : St w0 g L' q ap W := by
  obtain ⟨F, h1, h2, h3⟩ := h.ex
  exact ⟨⟨F, h1, h2, fun x hx => h3 x (hL x hx)⟩, h.below⟩
theorem St.alloc (h : St w0 g L q ap W) (o : Obj) : St w0 g ((W.heap.size, o) :: L) q ap (W.alloc o) := by
  have hb := below_alloc (Below.refl W.heap.size W) o
  obtain ⟨F, h1, h2, h3⟩ := h.ex
  refine ⟨⟨fun k => F k ∧ k < W.heap.size, (h1.mono (fun k hk hF => ⟨hF, hk⟩)).below hb, fun k hk => h2 k hk.1, fun x hx => ?_⟩, h.below.trans (hb.mono h.below.size)⟩
  rcases List.mem_cons.1 hx with rfl | hx
  · exact ⟨blk_new W o, fun e => Nat.lt_irrefl _ e.2⟩
  · exact ⟨(hb.block _ (blk_lt (h3 x hx).1)).trans (h3 x hx).1, fun e => (h3 x hx).2 e.1⟩
/-- A store into a variable of the function's. -/
theorem St.setCell {b : Nat} {cs : Array Value} {t : TypeId} (h : St w0 g ((b, .cells cs t (0, 0)) :: L) q ap W) (hb : w0.heap.size ≤ b) (hL : ∀ x ∈ L, x.1 ≠ b) (i : Nat) (v : Value) : St w0 g ((b, .cells (cs.setIfInBounds i v) t (0, 0)) :: L) q ap (W.setCell ⟨b, i, none⟩ v) := by
  obtain ⟨F, h1, h2, h3⟩ := h.ex
  have h0 := h3 _ List.mem_cons_self
  refine ⟨⟨F, h1.mods (G := fun k => k = b) ((Mods.refl (fun k => k = b) W).set (.inl rfl) v) (fun k _ hF e => h0.2 (by subst e; exact hF)), h2, fun x hx => ?_⟩, below_cell h.below hb v⟩
  rcases List.mem_cons.1 hx with rfl | hx
  · exact ⟨blk_set h0.1 i v, h0.2⟩
  · exact ⟨(Below.heap_setCell W ⟨b, i, none⟩ v x.1 (hL x hx)).trans (h3 x (List.mem_cons_of_mem _ hx)).1, (h3 x (List.mem_cons_of_mem _ hx)).2⟩
theorem St.setRow {b : Nat} {cs : Array Value} {t : TypeId} {fr : Nat × Nat} (h : St w0 g ((b, .cells cs t fr) :: L) q ap W) (hb : w0.heap.size ≤ b) (hL : ∀ x ∈ L, x.1 ≠ b) (cs' : Array Value) : St w0 g ((b, .cells cs' t fr) :: L) q ap (W.setRow b cs') := by
  obtain ⟨F, h1, h2, h3⟩ := h.ex
  have h0 := h3 _ List.mem_cons_self
  refine ⟨⟨F, h1.mods (G := fun k => k = b) ((Mods.refl (fun k => k = b) W).setRow (.inl rfl) cs') (fun k _ hF e => h0.2 (by subst e; exact hF)), h2, fun x hx => ?_⟩, below_setRow h.below hb cs'⟩
  rcases List.mem_cons.1 hx with rfl | hx
  · exact ⟨setRow_heap _ _ _ _ _ _ h0.1, h0.2⟩
  · exact ⟨(setRow_other W b x.1 cs' (hL x hx)).trans (h3 x (List.mem_cons_of_mem _ hx)).1, (h3 x (List.mem_cons_of_mem _ hx)).2⟩
/-- The net has turned. -/
theorem St.turn (h : St w0 g L q ap W) {q' : List (List Pk)} {ap' : List Bool} {C : (Ending → World → Prop) → Prop} {v : Value}
    (mono : ∀ {R R' : Ending → World → Prop}, (∀ e w, R e w → R' e w) → C R → C R')
    (hc : ∀ F, NetW W F g q ap → C fun e w' => e = .returned v ∧ NetW w' (grow F W w') g q' ap' ∧ Mods F W w') : C fun e w' => e = .returned v ∧ St w0 g L q' ap' w' := by
  obtain ⟨F, h1, h2, h3⟩ := h.ex
  refine mono ?_ (hc F h1)
  rintro e w' ⟨he, hn, hm⟩
  refine ⟨he, ⟨grow F W w', hn, fun k hk => hk.elim (h2 k) (fun e => Nat.le_trans h.below.size e.1), fun x hx => ?_⟩, h.below.trans (hm.below h.below.size h2)⟩
  have hx3 := h3 x hx
  exact ⟨(hm.block _ (blk_lt hx3.1) hx3.2).trans hx3.1, fun e => e.elim hx3.2 (fun e => by have := blk_lt hx3.1; omega)⟩
theorem St.of_calls {f : FuncId} {args : Array Value} (h : St w0 g L q ap W) {q' : List (List Pk)} {ap' : List Bool} {v : Value} (hc : ∀ F, NetW W F g q ap → Calls Try.prog f args W fun e w' => e = .returned v ∧ NetW w' (grow F W w') g q' ap' ∧ Mods F W w') :
    Calls Try.prog f args W fun e w' => e = .returned v ∧ St w0 g L q' ap' w' :=
  h.turn (C := fun R => Calls Try.prog f args W R) (fun hm hk => hk.mono hm) hc
theorem St.net (h : St w0 g L q ap W) : ∃ F, NetW W F g q ap := let ⟨F, h1, _⟩ := h.ex; ⟨F, h1⟩
theorem St.send (h : St w0 g L q ap W) (p : Pk) (hc : cnt q ≤ 1000) : Calls Try.prog 17 #[.pointer (some ⟨g, 0, none⟩), .agg #[.int .i64 p.f0, .int .i64 p.f1, .int .i64 p.f2, .int .i64 p.f3, .int .i64 p.f4, .int .i64 p.f5, .string p.f6]] W fun e w' => e = .returned (.int .i64 (sendE p q)) ∧ St w0 g L (sendQ p q) ap w' :=
  h.of_calls fun F hn => send_is p hn hc
theorem St.take (h : St w0 g L q ap W) (hc : cnt q ≤ 1000) (a b i : Int) (p : Pk) (hp : takeP q ap a b i = p) : Calls Try.prog 24 #[.pointer (some ⟨g, 0, none⟩), .agg #[.int .i64 a, .int .i64 b], .int .i64 i] W fun e w' => e = .returned (.tuple #[.agg #[.int .i64 p.f0, .int .i64 p.f1, .int .i64 p.f2, .int .i64 p.f3, .int .i64 p.f4, .int .i64 p.f5, .string p.f6], .int .i64 (takeE q ap a b i)]) ∧ St w0 g L (takeQ q ap a b i) ap w' := by
  subst hp
  exact h.of_calls fun F hn => take_is hn hc a b i
theorem St.lose (h : St w0 g L q ap W) (hc : cnt q ≤ 1000) (a b i : Int) : Calls Try.prog 31 #[.pointer (some ⟨g, 0, none⟩), .agg #[.int .i64 a, .int .i64 b], .int .i64 i] W fun e w' => e = .returned (.int .i64 (thereE q a b i)) ∧ St w0 g L (loseQ q a b i) ap w' := h.of_calls fun F hn => lose_is hn hc a b i
theorem St.twice (h : St w0 g L q ap W) (hc : cnt q ≤ 1000) (a b i : Int) : Calls Try.prog 19 #[.pointer (some ⟨g, 0, none⟩), .agg #[.int .i64 a, .int .i64 b], .int .i64 i] W fun e w' => e = .returned (.int .i64 (twiceE q a b i)) ∧ St w0 g L (twiceQ q a b i) ap w' := h.of_calls fun F hn => twice_is hn hc a b i
theorem St.apart (h : St w0 g L q ap W) (a b : Int) (on : Bool) : Calls Try.prog 32 #[.pointer (some ⟨g, 0, none⟩), .int .i64 a, .int .i64 b, .bool on] W fun e w' => e = .returned (.int .i64 (apartE a b)) ∧ St w0 g L q (apartA ap a b on) w' := h.of_calls fun F hn => apart_is hn a b on
theorem St.clear (h : St w0 g L q ap W) (hc : cnt q ≤ 1000) (of : Int) : Calls Try.prog 20 #[.pointer (some ⟨g, 0, none⟩), .int .i64 of] W fun e w' => e = .returned (.int .i64 (clearK q of)) ∧ St w0 g L (clearQ q of) ap w' := h.of_calls fun F hn => clear_is hn hc of
theorem St.count (h : St w0 g L q ap W) (hc : cnt q ≤ 1000) : Calls Try.prog 21 #[.pointer (some ⟨g, 0, none⟩)] W fun e w' => e = .returned (.int .i64 (cnt q)) ∧ St w0 g L q ap w' := by
  obtain ⟨F, hn⟩ := h.net
  exact (count_net hn hc).mono fun e w' ⟨he, hb⟩ => ⟨he, h.bel hb⟩
theorem St.len (h : St w0 g L q ap W) (a b : Int) : Calls Try.prog 28 #[.pointer (some ⟨g, 0, none⟩), .agg #[.int .i64 a, .int .i64 b]] W fun e w' => e = .returned (.int .i64 ((rowAt q a b).length : Int)) ∧ St w0 g L q ap w' := by
  obtain ⟨F, hn⟩ := h.net
  exact (len_is hn a b).mono fun e w' ⟨he, hb⟩ => ⟨he, h.bel hb⟩
theorem St.cut (h : St w0 g L q ap W) (a b : Int) : Calls Try.prog 29 #[.pointer (some ⟨g, 0, none⟩), .int .i64 a, .int .i64 b] W fun e w' => e = .returned (.bool (cutB ap a b)) ∧ St w0 g L q ap w' := by
  obtain ⟨F, hn⟩ := h.net
  exact (cut_is hn a b).mono fun e w' ⟨he, hb⟩ => ⟨he, h.bel hb⟩
theorem St.row (h : St w0 g L q ap W) (hc : cnt q ≤ 1000) (a b : Int) : Calls Try.prog 25 #[.pointer (some ⟨g, 0, none⟩), .agg #[.int .i64 a, .int .i64 b]] W fun e w' => ∃ v, e = .returned v ∧ Kd.R k28 28 w' W.heap.size (fun _ => True) v (rowAt q a b) ∧ Below W.heap.size W w' ∧ St w0 g L q ap w' := by
  obtain ⟨F, hn⟩ := h.net
  exact (row_is hn a b (rowAt_short hc a b)).mono fun e w' ⟨v, he, hr, hb⟩ => ⟨v, he, hr, hb, h.bel hb⟩
theorem St.hops (h : St w0 g L q ap W) : Calls Try.prog 33 #[.pointer (some ⟨g, 0, none⟩)] W fun e w' => ∃ v, e = .returned v ∧ Kd.R k52 32 w' W.heap.size (fun _ => True) v (hopsTo q ap 256) ∧ Below W.heap.size W w' ∧ St w0 g L q ap w' := by
  obtain ⟨F, hn⟩ := h.net
  exact (hops_is hn).mono fun e w' ⟨v, he, hr, hb⟩ => ⟨v, he, hr, hb, h.bel hb⟩
theorem St.new (w0 W : World) (hb0 : Below w0.heap.size w0 W) : Calls Try.prog 15 #[] W fun e w' => e = .returned (.pointer (some ⟨W.heap.size, 0, none⟩)) ∧ St w0 W.heap.size [] (List.replicate 256 []) (List.replicate 256 false) w' :=
  (new_net W).mono fun e w' ⟨he, hn, hb⟩ => ⟨he, ⟨_, hn, fun k hk => Nat.le_trans hb0.size hk.1, fun x hx => by cases hx⟩, hb0.trans (hb.mono hb0.size)⟩
end
end Go.Proofs.Ytdibaeomepallaa.NW
/- The net's example: awake. -/
namespace Go.Proofs.Ytdibaeomepallaa.NW
open Go.RowKit Go.Proofs.YtdibaeomepallaaW.PrintWords Go.Proofs.YtdibaeomepallaaW.PrintLast Go.Proofs.YtdibaeomepallaaW.PrintMore Go.Proofs.Ytdibaeomepallaa.PAll
set_option linter.unusedVariables false
set_option linter.unusedSimpArgs false
set_option maxRecDepth 100000
def pkA (n : Int) (s : ByteArray) : Pk := ⟨1, 2, 1, 1, n, 0, s⟩
def q0 : List (List Pk) := List.replicate 256 []
def a0 : List Bool := List.replicate 256 false
def q1 := sendQ (pkA 1 ⟨#[97]⟩) q0
def q2 := sendQ (pkA 2 ⟨#[98]⟩) q1
def q3 := twiceQ q2 1 2 0
def q4 := takeQ q3 a0 1 2 2
def a1 := apartA a0 2 1 true
def q5 := takeQ q4 a1 1 2 0
theorem r1 : sendE (pkA 1 ⟨#[97]⟩) q0 = 0 := by kernel_rfl
theorem r2 : sendE (pkA 2 ⟨#[98]⟩) q1 = 0 := by kernel_rfl
theorem r3 : twiceE q2 1 2 0 = 0 := by kernel_rfl
theorem r4 : takeE q3 a0 1 2 2 = 0 := by kernel_rfl
theorem r4p : takeP q3 a0 1 2 2 = pkA 1 ⟨#[97]⟩ := by kernel_rfl
theorem r5 : apartE 2 1 = 0 := by kernel_rfl
theorem r6 : takeE q4 a1 1 2 0 = 12 := by kernel_rfl
theorem r6p : takeP q4 a1 1 2 0 = pk0 := by kernel_rfl
theorem r7 : cnt q5 = 2 := by kernel_rfl
theorem r8 : hopsTo q5 a1 256 = [] := by kernel_rfl
theorem c0 : cnt q0 ≤ 1000 := of_decide_eq_true (by kernel_rfl)
theorem c1 : cnt q1 ≤ 1000 := of_decide_eq_true (by kernel_rfl)
theorem c2 : cnt q2 ≤ 1000 := of_decide_eq_true (by kernel_rfl)
theorem c3 : cnt q3 ≤ 1000 := of_decide_eq_true (by kernel_rfl)
theorem c4 : cnt q4 ≤ 1000 := of_decide_eq_true (by kernel_rfl)
theorem c5 : cnt q5 ≤ 1000 := of_decide_eq_true (by kernel_rfl)
set_option maxHeartbeats 1000000 in
theorem awake_is (w : World) : Calls Try.prog 16 #[] w fun e w' => e = .returned (.bool true) ∧ Below w.heap.size w w' := by
  have hu28 := Try.underlying28
  have hu32 := Try.underlying32
  go_enter Try.func16, Try.ntmps16
  go_wp2_with (first
    | ((with_reducible refine gate_dst (N := 10) rfl ?_); refine goesL_ (some 10) rfl rfl Try.func15 (by kernel_rfl) rfl #[] rfl (by simp) ?_; refine (St.new w _ (Below.refl _ _)).mono ?_; rintro e w10 ⟨rfl, hs⟩; have HS := Aside0.mk (show St w w.heap.size [] q0 a0 w10 from hs); clear hs; refine ⟨_, rfl, ?_⟩)
    | ((with_reducible refine gate_dst (N := 13) rfl ?_); refine goesL_ (some 13) rfl rfl Try.func18 (by kernel_rfl) rfl #[.int .i64 1, .int .i64 2, .int .i64 1, .string ⟨#[97]⟩] rfl (by first | (simp only [List.map_toArray, List.map_cons, List.map_nil]; rfl) | rfl) ?_; refine (caduceuslaw12_packet.calls 1 2 1 ⟨#[97]⟩ 1 2 1 1 1 0 ⟨#[97]⟩ _ rfl).mono ?_; rintro e w13 ⟨rfl, hb⟩; have HS_ := Aside0.mk (St.bel (by repeat (first | (with_reducible exact HS.out) | apply St.drew | apply St.drewN | apply St.alloc)) hb); clear HS; have HS := HS_; clear HS_; clear hb; refine ⟨_, rfl, ?_⟩)
    | ((with_reducible refine gate_dst (N := 14) rfl ?_); refine goesL_ (some 14) rfl rfl Try.func17 (by kernel_rfl) rfl #[.pointer (some ⟨w.heap.size, 0, none⟩), .agg #[.int .i64 1, .int .i64 2, .int .i64 1, .int .i64 1, .int .i64 1, .int .i64 0, .string ⟨#[97]⟩]] rfl (by first | (simp only [List.map_toArray, List.map_cons, List.map_nil]; rfl) | rfl) ?_; refine (St.send (w0 := w) (q := q0) (ap := a0) (by repeat (first | (with_reducible exact HS.out) | apply St.drew | apply St.drewN | apply St.alloc)) (pkA 1 ⟨#[97]⟩) c0).mono ?_; rintro e w14 ⟨rfl, hs⟩; rw [r1]; have HS_ := Aside0.mk (show St w w.heap.size _ q1 a0 w14 from hs); clear HS hs; have HS := HS_; clear HS_; refine ⟨_, rfl, ?_⟩)
    | ((with_reducible refine gate_dst (N := 16) rfl ?_); refine goesL_ (some 16) rfl rfl Try.func18 (by kernel_rfl) rfl #[.int .i64 1, .int .i64 2, .int .i64 2, .string ⟨#[98]⟩] rfl (by first | (simp only [List.map_toArray, List.map_cons, List.map_nil]; rfl) | rfl) ?_; refine (caduceuslaw12_packet.calls 1 2 2 ⟨#[98]⟩ 1 2 1 1 2 0 ⟨#[98]⟩ _ rfl).mono ?_; rintro e w16 ⟨rfl, hb⟩; have HS_ := Aside0.mk (St.bel (by repeat (first | (with_reducible exact HS.out) | apply St.drew | apply St.drewN | apply St.alloc)) hb); clear HS; have HS := HS_; clear HS_; clear hb; refine ⟨_, rfl, ?_⟩)
    | ((with_reducible refine gate_dst (N := 17) rfl ?_); refine goesL_ (some 17) rfl rfl Try.func17 (by kernel_rfl) rfl #[.pointer (some ⟨w.heap.size, 0, none⟩), .agg #[.int .i64 1, .int .i64 2, .int .i64 1, .int .i64 1, .int .i64 2, .int .i64 0, .string ⟨#[98]⟩]] rfl (by first | (simp only [List.map_toArray, List.map_cons, List.map_nil]; rfl) | rfl) ?_; refine (St.send (w0 := w) (q := q1) (ap := a0) (by repeat (first | (with_reducible exact HS.out) | apply St.drew | apply St.drewN | apply St.alloc)) (pkA 2 ⟨#[98]⟩) c1).mono ?_; rintro e w17 ⟨rfl, hs⟩; rw [r2]; have HS_ := Aside0.mk (show St w w.heap.size _ q2 a0 w17 from hs); clear HS hs; have HS := HS_; clear HS_; refine ⟨_, rfl, ?_⟩)
    | ((with_reducible refine gate_dst (N := 19) rfl ?_); refine wpList_load_row rfl 32 (.tmp 2) rfl w10.heap.size rfl 32 _ (0, 0) _ (St.box HS.out List.mem_cons_self) Try.underlying32 rfl info32s ?_)
    | ((with_reducible refine gate_dst (N := 20) rfl ?_); refine goesL_ (some 20) rfl rfl Try.func19 (by kernel_rfl) rfl #[.pointer (some ⟨w.heap.size, 0, none⟩), .agg #[.int .i64 1, .int .i64 2], .int .i64 0] rfl (by first | (simp only [List.map_toArray, List.map_cons, List.map_nil]; rfl) | rfl) ?_; refine (St.twice (w0 := w) (q := q2) (ap := a0) (by repeat (first | (with_reducible exact HS.out) | apply St.drew | apply St.drewN | apply St.alloc)) c2 1 2 0).mono ?_; rintro e w20 ⟨rfl, hs⟩; rw [r3]; have HS_ := Aside0.mk (show St w w.heap.size _ q3 a0 w20 from hs); clear HS hs; have HS := HS_; clear HS_; refine ⟨_, rfl, ?_⟩)
    | ((with_reducible refine gate_dst (N := 23) rfl ?_); refine wpList_load_row rfl 32 (.tmp 2) rfl w10.heap.size rfl 32 _ (0, 0) _ (St.box HS.out List.mem_cons_self) Try.underlying32 rfl info32s ?_)
    | ((with_reducible refine gate_dst (N := 24) rfl ?_); refine goesL_ (some 24) rfl rfl Try.func24 (by kernel_rfl) rfl #[.pointer (some ⟨w.heap.size, 0, none⟩), .agg #[.int .i64 1, .int .i64 2], .int .i64 2] rfl (by first | (simp only [List.map_toArray, List.map_cons, List.map_nil]; rfl) | rfl) ?_; refine (St.take (w0 := w) (q := q3) (ap := a0) (by repeat (first | (with_reducible exact HS.out) | apply St.drew | apply St.drewN | apply St.alloc)) c3 1 2 2 (⟨1, 2, 1, 1, 1, 0, ⟨#[97]⟩⟩ : S28) r4p).mono ?_; rintro e w24 ⟨rfl, hs⟩; rw [r4]; have HS_ := Aside0.mk (show St w w.heap.size _ q4 a0 w24 from hs); clear HS hs; have HS := HS_; clear HS_; refine ⟨_, rfl, ?_⟩)
    | ((with_reducible refine gate_dst (N := 28) rfl ?_); refine goesL_ (some 28) rfl rfl Try.func32 (by kernel_rfl) rfl #[.pointer (some ⟨w.heap.size, 0, none⟩), .int .i64 2, .int .i64 1, .bool true] rfl (by first | (simp only [List.map_toArray, List.map_cons, List.map_nil]; rfl) | rfl) ?_; refine (St.apart (w0 := w) (q := q4) (ap := a0) (by repeat (first | (with_reducible exact HS.out) | apply St.drew | apply St.drewN | apply St.alloc)) 2 1 true).mono ?_; rintro e w28 ⟨rfl, hs⟩; rw [r5]; have HS_ := Aside0.mk (show St w w.heap.size _ q4 a1 w28 from hs); clear HS hs; have HS := HS_; clear HS_; refine ⟨_, rfl, ?_⟩)
    | ((with_reducible refine gate_dst (N := 31) rfl ?_); refine wpList_load_row rfl 32 (.tmp 2) rfl w10.heap.size rfl 32 _ (0, 0) _ (St.box HS.out (List.mem_cons_of_mem _ List.mem_cons_self)) Try.underlying32 rfl info32s ?_)
    | ((with_reducible refine gate_dst (N := 32) rfl ?_); refine goesL_ (some 32) rfl rfl Try.func24 (by kernel_rfl) rfl #[.pointer (some ⟨w.heap.size, 0, none⟩), .agg #[.int .i64 1, .int .i64 2], .int .i64 0] rfl (by first | (simp only [List.map_toArray, List.map_cons, List.map_nil]; rfl) | rfl) ?_; refine (St.take (w0 := w) (q := q4) (ap := a1) (by repeat (first | (with_reducible exact HS.out) | apply St.drew | apply St.drewN | apply St.alloc)) c4 1 2 0 (⟨0, 0, 0, 0, 0, 0, ⟨#[]⟩⟩ : S28) r6p).mono ?_; rintro e w32 ⟨rfl, hs⟩; rw [r6]; have HS_ := Aside0.mk (show St w w.heap.size _ q5 a1 w32 from hs); clear HS hs; have HS := HS_; clear HS_; have ct : w32.cell? ⟨w24.heap.size, 6, none⟩ = some (.string ⟨#[97]⟩) := (blk_cell (St.box HS.out List.mem_cons_self) 6).trans rfl; have ct2 : (w32.alloc (.cells #[.int .i64 0, .int .i64 0, .int .i64 0, .int .i64 0, .int .i64 0, .int .i64 0, .string ⟨#[]⟩] 28 (0, 0))).cell? ⟨w24.heap.size, 6, none⟩ = some (.string ⟨#[97]⟩) := pw_cell_below (below_alloc (Below.refl _ _) _) ct; clear ct; refine ⟨_, rfl, ?_⟩)
    | ((with_reducible refine gate_dst (N := 60) rfl ?_); refine gate_guard (by rfl) ?_; dsimp only; refine goesL_ (some 60) rfl rfl Try.func21 (by kernel_rfl) rfl #[.pointer (some ⟨w.heap.size, 0, none⟩)] rfl (by first | (simp only [List.map_toArray, List.map_cons, List.map_nil]; rfl) | rfl) ?_; refine (St.count (w0 := w) (q := q5) (ap := a1) (by repeat (first | (with_reducible exact HS.out) | apply St.drew | apply St.drewN | apply St.alloc)) c5).mono ?_; rintro e w60 ⟨rfl, hs⟩; rw [r7]; have HS_ := Aside0.mk hs; clear HS; have HS := HS_; clear HS_; clear hs; refine ⟨_, rfl, ?_⟩)
    | ((with_reducible refine gate_dst (N := 65) rfl ?_); refine gate_guard (by rfl) ?_; dsimp only; refine goesL_ (some 65) rfl rfl Try.func33 (by kernel_rfl) rfl #[.pointer (some ⟨w.heap.size, 0, none⟩)] rfl (by first | (simp only [List.map_toArray, List.map_cons, List.map_nil]; rfl) | rfl) ?_; refine (St.hops (w0 := w) (q := q5) (ap := a1) (by repeat (first | (with_reducible exact HS.out) | apply St.drew | apply St.drewN | apply St.alloc))).mono ?_; rintro e w65 ⟨v, rfl, hr, hb, hs⟩; rw [r8] at hr; obtain ⟨A65, c65, rfl⟩ := Kd.R_slice hr; have HS_ := Aside0.mk hs; clear HS; have HS := HS_; clear HS_; clear hs hr hb; refine ⟨_, rfl, ?_⟩)
    )
  go_ret
  exact ⟨rfl, HS.out.below⟩
end Go.Proofs.Ytdibaeomepallaa.NW
