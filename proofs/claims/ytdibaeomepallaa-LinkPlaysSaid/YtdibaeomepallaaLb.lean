/- An end of a link in memory; its map of early texts; the packets that it makes. By hand. -/
import Derived.Test.YtdibaeomepallaaLa
import Derived.Test.YtdibaeomepallaaPAlly7
import Derived.Maps.OwnSet
import Derived.Maps.StringElems
namespace Go.Proofs.Ytdibaeomepallaa.LK
open Go.RowKit Go.Proofs.YtdibaeomepallaaW.PrintWords Go.Proofs.YtdibaeomepallaaW.PrintLast Go.Proofs.YtdibaeomepallaaW.PrintMore Go.Proofs.Ytdibaeomepallaa.PAll Go.Proofs.Ytdibaeomepallaa.NW
set_option linter.unusedVariables false
set_option linter.unusedSimpArgs false
set_option maxRecDepth 100000
/-! ### the map of early texts in memory -/
section
open Go.Maps
variable {P : Program} {kt et mt : TypeId} {w w' : World} {b : Nat} {er : List (Int × ByteArray)}
/-- The datum says what the list says. -/
structure ErD (D : DataW Nat) (er : List (Int × ByteArray)) : Prop where
  has : ∀ k : Int, Maps.has D (.int .i64 k) = (fnd er k).isSome
  at_ : ∀ (k : Int) (s : ByteArray) (zd : DataW Nat), fnd er k = some s → D.atKey (.int .i64 k) zd = .lit (.string s.data.toList)
  size : Maps.size D = er.length
  keys : LK.Keys er
/-- The map in block b. -/
def ErAt (P : Program) (kt et : TypeId) (w : World) (b : Nat) (er : List (Int × ByteArray)) : Prop := ∃ D : DataW Nat, w.ownsMap P kt (plainElem P et) b er.length D ∧ ErD D er
theorem own_tight {R : Value → Option (DataW Nat × List MemPlace)} {n : Nat} {D : DataW Nat} (h : w.ownsMap P kt R b n D) : w.ownsMap P kt R b (Maps.size D) D := by
  obtain ⟨es, clock, hb, F, hs, rfl⟩ := h
  refine ⟨es, clock, hb, F, ?_, rfl⟩
  simp [Maps.size, length_sorted]
theorem ErAt.lt (h : ErAt P kt et w b er) : b < w.heap.size := by obtain ⟨D, h1, _⟩ := h; exact h1.lt
theorem ErAt.form (h : ErAt P kt et w b er) : ∃ es c, w.heap[b]? = some (.map es c) := by obtain ⟨D, ⟨es, c, hb, _⟩, _⟩ := h; exact ⟨es, c, hb⟩
theorem ErAt.other (h : ErAt P kt et w b er) (hm : w'.heap[b]? = w.heap[b]?) : ErAt P kt et w' b er := by
  obtain ⟨D, ⟨es, c, hb, r⟩, hD⟩ := h
  exact ⟨D, ⟨es, c, hm.trans hb, r⟩, hD⟩
theorem er_new (P : Program) (kt et : TypeId) (w : World) : ErAt P kt et (w.alloc (.map #[] 0)) w.heap.size [] :=
  ⟨.map [], World.ownsMap_made w P kt _, ⟨fun _ => rfl, fun _ _ _ h => (by cases h), rfl, List.Pairwise.nil⟩⟩
theorem fnd_append (er : List (Int × ByteArray)) (k j : Int) (s : ByteArray) : fnd (er ++ [(k, s)]) j = if (fnd er j).isSome = true then fnd er j else if k = j then some s else none := by
  unfold fnd
  rw [List.find?_append]
  cases h : er.find? (fun x => x.1 == j) with
  | some x => simp
  | none =>
    simp only [Option.none_or, Option.map_none, Option.isSome_none, Bool.false_eq_true, if_false]
    by_cases e : k = j
    · rw [if_pos e, List.find?_cons_of_pos (by simpa using e)]; rfl
    · rw [if_neg e, List.find?_cons_of_neg (by simpa using e)]; rfl
theorem fnd_del (er : List (Int × ByteArray)) (k j : Int) : fnd (del er k) j = if j = k then none else fnd er j := by
  unfold fnd del
  rw [List.find?_filter]
  by_cases e : j = k
  · subst e
    rw [if_pos rfl]
    have : er.find? (fun a => decide (a.1 != j ∧ a.1 == j)) = none := by
      rw [List.find?_eq_none]; intro x hx; by_cases e : x.1 = j <;> simp [e]
    simp only [Option.map_eq_none_iff]
    exact this
  · rw [if_neg e]
    congr 2
    funext a
    by_cases e2 : a.1 = j
    · have : a.1 ≠ k := fun e3 => e (e2.symm.trans e3)
      simp [e2, e]
    · simp [e2]
variable (hk : P.underlying kt = some (.int .i64)) (he : P.underlying et = some .string) (ht : P.underlying mt = some (.map kt et))
include hk he ht
/-- 't, is := m[k]'. -/
theorem ErAt.look (h : ErAt P kt et w b er) (hz : (zeroValue et).run P w = .ok (.string ⟨#[]⟩) w) {k : Int} (hw : (Lit.int .i64 k).wf = true) :
    (Instr.lookup mt (.map (some b)) (.int .i64 k) true).run P w = .ok (.tuple #[.string ((fnd er k).getD e0), .bool (fnd er k).isSome]) w := by
  obtain ⟨D, h1, h2⟩ := h
  obtain ⟨v, ps, hr, hv⟩ := h1.look_ok (int_keyed hk) ht hz (plainElem_string he (s := ⟨#[]⟩) (by simp [ByteArray.size])) (keyOf_int_mk hk hw)
  rw [hr, h2.has]
  obtain ⟨s, rfl, hs, _⟩ := plainElem_string_inv he hv
  have hs1 := congrArg Prod.fst hs
  cases hf : fnd er k with
  | none =>
    have hn := Maps.atKey_of_not_has (D := D) (k := .int .i64 k) (by rw [h2.has, hf]; rfl) (.lit (.string (⟨#[]⟩ : ByteArray).data.toList))
    rw [hn] at hs1
    have : s = (⟨#[]⟩ : ByteArray) := by
      have e1 : (⟨#[]⟩ : ByteArray).data.toList = s.data.toList := by simpa using hs1
      cases s with | mk d => congr 1; apply Array.toList_inj.1; simpa using e1.symm
    rw [this]; rfl
  | some t =>
    rw [h2.at_ k t _ hf] at hs1
    have : s = t := by
      have e1 : t.data.toList = s.data.toList := by simpa using hs1
      cases s with | mk d => cases t with | mk d2 => congr 1; apply Array.toList_inj.1; simpa using e1.symm
    rw [this]; rfl
/-- 'm[k] = s', k not there. -/
theorem ErAt.store (h : ErAt P kt et w b er) {k : Int} (hw : (Lit.int .i64 k).wf = true) {s : ByteArray} (hs : s.size ≤ maxLen) (hn : fnd er k = none) (hl : er.length < maxLen) :
    ∃ w', (Instr.mapUpdate mt (.map (some b)) (.int .i64 k) (.string s)).run P w = .ok () w' ∧ ErAt P kt et w' b (er ++ [(k, s)]) ∧ w.grownBy w' (some b) ∧ w'.heap.size = w.heap.size := by
  obtain ⟨D, h1, h2⟩ := h
  have hi := h1.isMap
  have htd := h1.tidy (int_keyed hk)
  obtain ⟨w', hr, ho, hg⟩ := h1.store (int_keyed hk) ht hl (keyOf_int_mk hk hw) (plainElem_string he hs)
  have hhas : Maps.has D (.int .i64 k) = false := by rw [h2.has, hn]; rfl
  have hsz : Maps.size (D.put (.int .i64 k) (.lit (.string s.data.toList))) = (er ++ [(k, s)]).length := by
    rw [size_put htd, hhas, h2.size]; simp
  have ho2 := own_tight ho
  rw [hsz] at ho2
  refine ⟨w', hr, ⟨_, ho2, ⟨fun j => ?_, fun j t zd hj => ?_, hsz, ?_⟩⟩, hg.grown, by obtain ⟨_, _, _, _, _, rfl⟩ := hg; simp [Go.ChangeMaps.setBlock]⟩
  · rw [fnd_append]
    by_cases e : j = k
    · subst e
      rw [has_put_same hi (by trivial), hn]
      simp
    · rw [has_put_other (by simpa using e), h2.has]
      cases fnd er j with
      | none => simp; exact fun e2 => e e2.symm
      | some u => simp
  · rw [fnd_append] at hj
    by_cases e : j = k
    · subst e
      rw [hn] at hj
      simp at hj
      subst hj
      exact atKey_put_same hi (by trivial) _ _
    · rw [atKey_put_other (by simpa using e)]
      refine h2.at_ j t zd ?_
      cases hf : fnd er j with
      | none =>
        rw [hf] at hj
        simp at hj
        exact absurd hj.1.symm e
      | some u => rw [hf] at hj; simpa using hj
  · have := keys_put h2.keys k s
    unfold put at this
    rwa [if_neg (by rw [hn]; simp)] at this
/-- 'delete(m, k)'. -/
theorem ErAt.drop (h : ErAt P kt et w b er) {k : Int} (hw : (Lit.int .i64 k).wf = true) (ty : TypeId) :
    ∃ w', (Builtin.delete_ #[mt, kt] ty #[.map (some b), .int .i64 k]).run P w = .ok (.tuple #[]) w' ∧ ErAt P kt et w' b (del er k) ∧ w.grownBy w' (some b) ∧ w'.heap.size = w.heap.size := by
  have hu_ := he
  obtain ⟨D, h1, h2⟩ := h
  have htd := h1.tidy (int_keyed hk)
  obtain ⟨w', hr, ho, hg⟩ := h1.drop (int_keyed hk) ht (keyOf_int_mk hk hw) ty
  have hsz : Maps.size (D.del (.int .i64 k)) = (del er k).length := by
    have h3 := size_del (k := .int .i64 k) htd
    rw [h2.has, h2.size] at h3
    have h4 : (del er k).length + (if (fnd er k).isSome = true then 1 else 0) = er.length := by
      have hK := h2.keys
      clear h2 h3 ho hg hr h1 htd
      induction er with
      | nil => rfl
      | cons x r ih =>
        obtain ⟨hx, hr⟩ := List.pairwise_cons.1 hK
        have ih := ih hr
        by_cases e : x.1 = k
        · have e1 : fnd r k = none := by
            cases hf : fnd r k with
            | none => rfl
            | some s => exact absurd e (hx _ (fnd_mem hf))
          rw [e1] at ih
          have e2 : del (x :: r) k = del r k := List.filter_cons_of_neg (by simp [e])
          have e3 : fnd (x :: r) k = some x.2 := by unfold fnd; rw [List.find?_cons_of_pos (by simp [e])]; rfl
          rw [e2, e3]
          simp at ih ⊢
          exact ih
        · have e2 : del (x :: r) k = x :: del r k := List.filter_cons_of_pos (by simp [e])
          have e3 : fnd (x :: r) k = fnd r k := by unfold fnd; rw [List.find?_cons_of_neg (by simp [e])]
          rw [e2, e3]
          simp only [List.length_cons]
          omega
    omega
  have ho2 := own_tight ho
  rw [hsz] at ho2
  refine ⟨w', hr, ⟨_, ho2, ⟨fun j => ?_, fun j t zd hj => ?_, hsz, keys_del h2.keys k⟩⟩, hg.grown, by obtain ⟨_, _, _, _, _, rfl⟩ := hg; simp [Go.ChangeMaps.setBlock]⟩
  · rw [fnd_del]
    by_cases e : j = k
    · subst e; rw [has_del_same, if_pos rfl]; rfl
    · rw [has_del_other (by simpa using e), h2.has, if_neg e]
  · rw [fnd_del] at hj
    by_cases e : j = k
    · rw [if_pos e] at hj; cases hj
    · rw [if_neg e] at hj
      rw [atKey_del_other (by simpa using e)]
      exact h2.at_ j t zd hj
theorem ErAt.len (h : ErAt P kt et w b er) (ty : TypeId) : (Builtin.len_ #[mt] ty #[.map (some b)]).run P w = .ok (.int .i64 er.length) w := by
  have hu_ := hk
  have hu2_ := he
  obtain ⟨D, h1, h2⟩ := h
  rw [← h2.size]
  exact h1.len ht ty
end
/-- A link's cells. -/
def lkc (l : Lk) (v : Value) (m : Nat) : Array Value := #[.int .i64 l.x.f0, .int .i64 l.x.f1, .int .i64 l.x.f2, .int .i64 l.x.f3, .int .i64 l.x.f4, v, .int .i64 l.base, .int .i64 l.out, .int .i64 l.want, .map (some m)]
/-- A link in block g: its queue's slice v, its map's block m. -/
structure LkAt (w : World) (g : Nat) (l : Lk) (v : Value) (m : Nat) : Prop where
  blk : w.heap[g]? = some (.cells (lkc l v m) 134 (0, 0))
  row : Kd.string.R 9 w 0 (fun _ => True) v l.q
  er : ErAt Try.prog 3 9 w m l.er
/-- The blocks of a link. -/
def lf (g : Nat) (v : Value) (m : Nat) : Nat → Prop := fun k => k = g ∨ k = m ∨ v.ownBlock = some k
/-- The bounds within which a link stays. -/
structure Bd (l : Lk) : Prop where
  b1 : 1 ≤ l.base
  b2 : l.base + l.q.length ≤ 1099511627776
  o8 : l.out ≤ 8
  oq : l.out ≤ l.q.length
  q64 : l.q.length ≤ 64
  w1 : 1 ≤ l.want
  w2 : l.want ≤ 1099511627775
  e : l.er.length ≤ 1000
section
variable {w w' : World} {g m : Nat} {l : Lk} {v : Value}
theorem LkAt.lt (h : LkAt w g l v m) : g < w.heap.size := blk_lt h.blk
theorem LkAt.own (h : LkAt w g l v m) {k : Nat} (hk : v.ownBlock = some k) : ∃ cells, w.heap[k]? = some (.cells cells 9 (0, 0)) := by
  obtain ⟨inner, ho⟩ := Kd.R_own h.row
  exact own_typed ho k hk
theorem LkAt.foot_lt (h : LkAt w g l v m) {k : Nat} (hk : lf g v m k) : k < w.heap.size := by
  rcases hk with rfl | rfl | hk
  · exact h.lt
  · exact h.er.lt
  · obtain ⟨c, hc⟩ := h.own hk; exact blk_lt hc
theorem LkAt.ne_row (h : LkAt w g l v m) : v.ownBlock ≠ some g := by
  intro e
  obtain ⟨c, hc⟩ := h.own e
  rw [h.blk] at hc
  injection hc with hc
  injection hc with _ hc
  cases hc
theorem LkAt.ne_map (h : LkAt w g l v m) : m ≠ g := by
  intro e
  obtain ⟨es, c, hc⟩ := h.er.form
  rw [e, h.blk] at hc
  injection hc with hc
  cases hc
theorem LkAt.row_map (h : LkAt w g l v m) : v.ownBlock ≠ some m := by
  intro e
  obtain ⟨c, hc⟩ := h.own e
  obtain ⟨es, c2, hc2⟩ := h.er.form
  rw [hc] at hc2
  injection hc2 with hc2
  cases hc2
/-- The link's blocks are as they were. -/
theorem LkAt.stay (h : LkAt w g l v m) (hm : ∀ k, lf g v m k → w'.heap[k]? = w.heap[k]?) : LkAt w' g l v m :=
  ⟨(hm g (.inl rfl)).trans h.blk, Kd.R_mono (Kd.R_step (ok := fun k => v.ownBlock = some k) ⟨fun _ hk => hk, by
    obtain ⟨_, inner, ho, hr⟩ := h.row
    exact ⟨inner, ho, hr⟩⟩ (fun k hk _ => hm k (.inr (.inr hk)))) (fun _ _ => trivial), h.er.other (hm m (.inr (.inl rfl)))⟩
theorem LkAt.below (h : LkAt w g l v m) (hb : Below w.heap.size w w') : LkAt w' g l v m := h.stay (fun k hk => hb.block k (h.foot_lt hk))
theorem LkAt.mods {G : Nat → Prop} (h : LkAt w g l v m) (hm : Mods G w w') (hd : ∀ k, lf g v m k → ¬ G k) : LkAt w' g l v m := h.stay (fun k hk => hm.block k (h.foot_lt hk) (hd k hk))
end
theorem keepB {w W : World} {g : Nat} {o : Obj} (h : w.heap[g]? = some o) (hb : Below w.heap.size w W) : W.heap[g]? = some o := (hb.block g (blk_lt h)).trans h
/-- The store of a whole row, as a step of a region that draws. -/
theorem storeRow_ {P : Program} {ops : Array Oper} {oi : Oper} {a : Act} {w : World} {K : Act → World → Prop} {Q : Exit → Act → World → Prop} (hw : Region.wanted oi (yielded ops a.tmps) = true) (ty : TypeId) (x y : Operand) (ho : oi.op = .store ty x y) (hN : oi.dst = none)
    (g : Nat) (cells : Array Value) (hx : a.eval x = .pointer (some ⟨g, 0, none⟩)) (hy : a.eval y = .agg cells) (t : TypeId) (old : Array Value) (hg : w.heap[g]? = some (.cells old t (0, 0))) (hi : (P.info? ty).map (·.size) = some cells.size)
    (hold : old.size = cells.size) (h1 : cells.all (·.oneCell') = true) (h : K a (w.setRow g cells)) : if Region.wanted oi (yielded ops a.tmps) = true then Oper.wp P oi a w K Q else K (a.put none undef) w := by
  rw [if_pos hw]
  exact wp_store_row ty x y ho g cells hx hy t old hg hi hold h1 (by rw [hN]; exact h)
theorem wrapId {x : Int} (h0 : -4611686018427387904 ≤ x) (h1 : x ≤ 4611686018427387904) : wrap64 x = x := by unfold wrap64; omega
theorem alloc1 (w : World) (o : Obj) : ∃ w1, w1 = w.alloc o ∧ Below w.heap.size w w1 ∧ w1.heap[w.heap.size]? = some o ∧ w1.heap.size = w.heap.size + 1 := ⟨_, rfl, below_alloc (Below.refl _ _) o, blk_new w o, by simp⟩
set_option maxHeartbeats 1000000 in
theorem packet_is {w : World} {g m : Nat} {l : Lk} {v : Value} (hb : w.heap[g]? = some (.cells (lkc l v m) 134 (0, 0))) (h0 : 0 ≤ l.want) (h1 : l.want ≤ 1099511627775) (seq : Int) (s : ByteArray) :
    Calls Try.prog 77 #[.pointer (some ⟨g, 0, none⟩), .int .i64 seq, .string s] w fun e w' => e = .returned (.agg #[.int .i64 l.x.f0, .int .i64 l.x.f2, .int .i64 l.x.f1, .int .i64 l.x.f3, .int .i64 seq, .int .i64 (l.want - 1), .string s]) ∧ Below w.heap.size w w' := by
  have hu28 := Try.underlying28
  obtain ⟨w1, hw1, hB1, hb1, hs1⟩ := alloc1 w (.cells #[.int .i64 0, .int .i64 0, .int .i64 0, .int .i64 0, .int .i64 0, .int .i64 0, .string ⟨#[]⟩] 28 (0, 0))
  have HW := Aside0.mk hw1
  have HB1 := Aside0.mk hB1
  have H1 := Aside0.mk hb1
  have HG := Aside0.mk (keepB hb (hB1.trans (below_drew1 (Below.refl _ _))))
  clear hw1 hB1 hb1 hb hs1
  go_enter Try.func77, Try.ntmps77
  go_wp2
  rw [← HW.out]
  have x0 : w1.drew.cell? ⟨g, 0, none⟩ = some (.int .i64 l.x.f0) := (blk_cell HG.out 0).trans rfl
  have x1 : w1.drew.cell? ⟨g, 1, none⟩ = some (.int .i64 l.x.f1) := (blk_cell HG.out 1).trans rfl
  have x2 : w1.drew.cell? ⟨g, 2, none⟩ = some (.int .i64 l.x.f2) := (blk_cell HG.out 2).trans rfl
  have x3 : w1.drew.cell? ⟨g, 3, none⟩ = some (.int .i64 l.x.f3) := (blk_cell HG.out 3).trans rfl
  have x8 : w1.drew.cell? ⟨g, 8, none⟩ = some (.int .i64 l.want) := (blk_cell HG.out 8).trans rfl
  refine start_ (n := 29) (S := fun w' => w'.cell? ⟨g, 0, none⟩ = some (.int .i64 l.x.f0) ∧ w'.cell? ⟨g, 1, none⟩ = some (.int .i64 l.x.f1) ∧ w'.cell? ⟨g, 2, none⟩ = some (.int .i64 l.x.f2) ∧ w'.cell? ⟨g, 3, none⟩ = some (.int .i64 l.x.f3) ∧ w'.cell? ⟨g, 8, none⟩ = some (.int .i64 l.want)) (ds := [28]) #[false, false, false, false, false, false, false, false, false, false, false, false, false, false, false, false, false, false, false, false, false, false, false, false, false, false, false, false, false] (by kernel_rfl) rfl rfl ⟨x0, x1, x2, x3, x8⟩ (fun hHeld => ?_)
  refine pure_ (i := 0) (N := some 7) (v := ?_) (a' := ?_) #[true, false, false, false, false, false, false, false, false, false, false, false, false, false, false, false, false, false, false, false, false, false, false, false, false, false, false, false, false] rfl rfl (by kernel_rfl) (fun _ _ _ h => h) (Or.inl ⟨by rfl, ?_⟩) ?_ ?_
  rotate_left
  · intro w'; go_simp; with_reducible rfl
  rotate_left
  · simp only [Act.put, List.setIfInBounds_toArray, List.set_cons_zero, List.set_cons_succ, i64_w, i32_w]; rfl
  refine pure_ (i := 1) (N := some 8) (v := ?_) (a' := ?_) #[true, true, false, false, false, false, false, false, false, false, false, false, false, false, false, false, false, false, false, false, false, false, false, false, false, false, false, false, false] rfl rfl (by kernel_rfl) (fun _ _ _ h => h) (Or.inl ⟨by rfl, ?_⟩) ?_ ?_
  rotate_left
  · intro w'; go_simp; with_reducible rfl
  rotate_left
  · simp only [Act.put, List.setIfInBounds_toArray, List.set_cons_zero, List.set_cons_succ, i64_w, i32_w]; rfl
  refine pure_ (i := 2) (N := some 9) (v := ?_) (a' := ?_) #[true, true, true, false, false, false, false, false, false, false, false, false, false, false, false, false, false, false, false, false, false, false, false, false, false, false, false, false, false] rfl rfl (by kernel_rfl) (fun _ _ _ h => h) (Or.inl ⟨by rfl, ?_⟩) ?_ ?_
  rotate_left
  · intro w'; go_simp; with_reducible rfl
  rotate_left
  · simp only [Act.put, List.setIfInBounds_toArray, List.set_cons_zero, List.set_cons_succ, i64_w, i32_w]; rfl
  refine pure_ (i := 3) (N := some 10) (v := ?_) (a' := ?_) #[true, true, true, true, false, false, false, false, false, false, false, false, false, false, false, false, false, false, false, false, false, false, false, false, false, false, false, false, false] rfl rfl (by kernel_rfl) (fun _ _ _ h => h) (Or.inl ⟨by rfl, ?_⟩) ?_ ?_
  rotate_left
  · intro w'; go_simp; with_reducible rfl
  rotate_left
  · simp only [Act.put, List.setIfInBounds_toArray, List.set_cons_zero, List.set_cons_succ, i64_w, i32_w]; rfl
  refine take_ (i := 4) (N := some 11) (v := ?_) (a' := ?_) #[true, true, true, true, true, false, false, false, false, false, false, false, false, false, false, false, false, false, false, false, false, false, false, false, false, false, false, false, false] rfl rfl (by kernel_rfl) (fun _ _ _ h => h) (Or.inl ⟨by rfl, ?_⟩) hHeld ?_ ?_
  rotate_left
  · rintro w' ⟨s0, s1, s2, s3, s4⟩; go_simp; with_reducible rfl
  rotate_left
  · simp only [Act.put, List.setIfInBounds_toArray, List.set_cons_zero, List.set_cons_succ, i64_w, i32_w]; rfl
  refine pure_ (i := 5) (N := some 12) (v := ?_) (a' := ?_) #[true, true, true, true, true, true, false, false, false, false, false, false, false, false, false, false, false, false, false, false, false, false, false, false, false, false, false, false, false] rfl rfl (by kernel_rfl) (fun _ _ _ h => h) (Or.inl ⟨by rfl, ?_⟩) ?_ ?_
  rotate_left
  · intro w'; go_simp; with_reducible rfl
  rotate_left
  · simp only [Act.put, List.setIfInBounds_toArray, List.set_cons_zero, List.set_cons_succ, i64_w, i32_w]; rfl
  refine pure_ (i := 6) (N := some 13) (v := ?_) (a' := ?_) #[true, true, true, true, true, true, true, false, false, false, false, false, false, false, false, false, false, false, false, false, false, false, false, false, false, false, false, false, false] rfl rfl (by kernel_rfl) (fun _ _ _ h => h) (Or.inl ⟨by rfl, ?_⟩) ?_ ?_
  rotate_left
  · intro w'; go_simp; with_reducible rfl
  rotate_left
  · simp only [Act.put, List.setIfInBounds_toArray, List.set_cons_zero, List.set_cons_succ, i64_w, i32_w]; rfl
  refine pure_ (i := 7) (N := some 14) (v := ?_) (a' := ?_) #[true, true, true, true, true, true, true, true, false, false, false, false, false, false, false, false, false, false, false, false, false, false, false, false, false, false, false, false, false] rfl rfl (by kernel_rfl) (fun _ _ _ h => h) (Or.inl ⟨by rfl, ?_⟩) ?_ ?_
  rotate_left
  · intro w'; go_simp; with_reducible rfl
  rotate_left
  · simp only [Act.put, List.setIfInBounds_toArray, List.set_cons_zero, List.set_cons_succ, i64_w, i32_w]; rfl
  refine pure_ (i := 8) (N := some 15) (v := ?_) (a' := ?_) #[true, true, true, true, true, true, true, true, true, false, false, false, false, false, false, false, false, false, false, false, false, false, false, false, false, false, false, false, false] rfl rfl (by kernel_rfl) (fun _ _ _ h => h) (Or.inl ⟨by rfl, ?_⟩) ?_ ?_
  rotate_left
  · intro w'; go_simp; with_reducible rfl
  rotate_left
  · simp only [Act.put, List.setIfInBounds_toArray, List.set_cons_zero, List.set_cons_succ, i64_w, i32_w]; rfl
  refine take_ (i := 9) (N := some 16) (v := ?_) (a' := ?_) #[true, true, true, true, true, true, true, true, true, true, false, false, false, false, false, false, false, false, false, false, false, false, false, false, false, false, false, false, false] rfl rfl (by kernel_rfl) (fun _ _ _ h => h) (Or.inl ⟨by rfl, ?_⟩) hHeld ?_ ?_
  rotate_left
  · rintro w' ⟨s0, s1, s2, s3, s4⟩; go_simp; with_reducible rfl
  rotate_left
  · simp only [Act.put, List.setIfInBounds_toArray, List.set_cons_zero, List.set_cons_succ, i64_w, i32_w]; rfl
  refine pure_ (i := 10) (N := some 17) (v := ?_) (a' := ?_) #[true, true, true, true, true, true, true, true, true, true, true, false, false, false, false, false, false, false, false, false, false, false, false, false, false, false, false, false, false] rfl rfl (by kernel_rfl) (fun _ _ _ h => h) (Or.inl ⟨by rfl, ?_⟩) ?_ ?_
  rotate_left
  · intro w'; go_simp; with_reducible rfl
  rotate_left
  · simp only [Act.put, List.setIfInBounds_toArray, List.set_cons_zero, List.set_cons_succ, i64_w, i32_w]; rfl
  refine pure_ (i := 11) (N := some 18) (v := ?_) (a' := ?_) #[true, true, true, true, true, true, true, true, true, true, true, true, false, false, false, false, false, false, false, false, false, false, false, false, false, false, false, false, false] rfl rfl (by kernel_rfl) (fun _ _ _ h => h) (Or.inl ⟨by rfl, ?_⟩) ?_ ?_
  rotate_left
  · intro w'; go_simp; with_reducible rfl
  rotate_left
  · simp only [Act.put, List.setIfInBounds_toArray, List.set_cons_zero, List.set_cons_succ, i64_w, i32_w]; rfl
  refine pure_ (i := 12) (N := some 19) (v := ?_) (a' := ?_) #[true, true, true, true, true, true, true, true, true, true, true, true, true, false, false, false, false, false, false, false, false, false, false, false, false, false, false, false, false] rfl rfl (by kernel_rfl) (fun _ _ _ h => h) (Or.inl ⟨by rfl, ?_⟩) ?_ ?_
  rotate_left
  · intro w'; go_simp; with_reducible rfl
  rotate_left
  · simp only [Act.put, List.setIfInBounds_toArray, List.set_cons_zero, List.set_cons_succ, i64_w, i32_w]; rfl
  refine pure_ (i := 13) (N := some 20) (v := ?_) (a' := ?_) #[true, true, true, true, true, true, true, true, true, true, true, true, true, true, false, false, false, false, false, false, false, false, false, false, false, false, false, false, false] rfl rfl (by kernel_rfl) (fun _ _ _ h => h) (Or.inl ⟨by rfl, ?_⟩) ?_ ?_
  rotate_left
  · intro w'; go_simp; with_reducible rfl
  rotate_left
  · simp only [Act.put, List.setIfInBounds_toArray, List.set_cons_zero, List.set_cons_succ, i64_w, i32_w]; rfl
  refine take_ (i := 14) (N := some 21) (v := ?_) (a' := ?_) #[true, true, true, true, true, true, true, true, true, true, true, true, true, true, true, false, false, false, false, false, false, false, false, false, false, false, false, false, false] rfl rfl (by kernel_rfl) (fun _ _ _ h => h) (Or.inl ⟨by rfl, ?_⟩) hHeld ?_ ?_
  rotate_left
  · rintro w' ⟨s0, s1, s2, s3, s4⟩; go_simp; with_reducible rfl
  rotate_left
  · simp only [Act.put, List.setIfInBounds_toArray, List.set_cons_zero, List.set_cons_succ, i64_w, i32_w]; rfl
  refine pure_ (i := 15) (N := some 22) (v := ?_) (a' := ?_) #[true, true, true, true, true, true, true, true, true, true, true, true, true, true, true, true, false, false, false, false, false, false, false, false, false, false, false, false, false] rfl rfl (by kernel_rfl) (fun _ _ _ h => h) (Or.inl ⟨by rfl, ?_⟩) ?_ ?_
  rotate_left
  · intro w'; go_simp; with_reducible rfl
  rotate_left
  · simp only [Act.put, List.setIfInBounds_toArray, List.set_cons_zero, List.set_cons_succ, i64_w, i32_w]; rfl
  refine pure_ (i := 16) (N := some 23) (v := ?_) (a' := ?_) #[true, true, true, true, true, true, true, true, true, true, true, true, true, true, true, true, true, false, false, false, false, false, false, false, false, false, false, false, false] rfl rfl (by kernel_rfl) (fun _ _ _ h => h) (Or.inl ⟨by rfl, ?_⟩) ?_ ?_
  rotate_left
  · intro w'; go_simp; with_reducible rfl
  rotate_left
  · simp only [Act.put, List.setIfInBounds_toArray, List.set_cons_zero, List.set_cons_succ, i64_w, i32_w]; rfl
  refine pure_ (i := 17) (N := some 24) (v := ?_) (a' := ?_) #[true, true, true, true, true, true, true, true, true, true, true, true, true, true, true, true, true, true, false, false, false, false, false, false, false, false, false, false, false] rfl rfl (by kernel_rfl) (fun _ _ _ h => h) (Or.inl ⟨by rfl, ?_⟩) ?_ ?_
  rotate_left
  · intro w'; go_simp; with_reducible rfl
  rotate_left
  · simp only [Act.put, List.setIfInBounds_toArray, List.set_cons_zero, List.set_cons_succ, i64_w, i32_w]; rfl
  refine pure_ (i := 18) (N := some 25) (v := ?_) (a' := ?_) #[true, true, true, true, true, true, true, true, true, true, true, true, true, true, true, true, true, true, true, false, false, false, false, false, false, false, false, false, false] rfl rfl (by kernel_rfl) (fun _ _ _ h => h) (Or.inl ⟨by rfl, ?_⟩) ?_ ?_
  rotate_left
  · intro w'; go_simp; with_reducible rfl
  rotate_left
  · simp only [Act.put, List.setIfInBounds_toArray, List.set_cons_zero, List.set_cons_succ, i64_w, i32_w]; rfl
  refine take_ (i := 19) (N := some 26) (v := ?_) (a' := ?_) #[true, true, true, true, true, true, true, true, true, true, true, true, true, true, true, true, true, true, true, true, false, false, false, false, false, false, false, false, false] rfl rfl (by kernel_rfl) (fun _ _ _ h => h) (Or.inl ⟨by rfl, ?_⟩) hHeld ?_ ?_
  rotate_left
  · rintro w' ⟨s0, s1, s2, s3, s4⟩; go_simp; with_reducible rfl
  rotate_left
  · simp only [Act.put, List.setIfInBounds_toArray, List.set_cons_zero, List.set_cons_succ, i64_w, i32_w]; rfl
  refine pure_ (i := 20) (N := some 27) (v := ?_) (a' := ?_) #[true, true, true, true, true, true, true, true, true, true, true, true, true, true, true, true, true, true, true, true, true, false, false, false, false, false, false, false, false] rfl rfl (by kernel_rfl) (fun _ _ _ h => h) (Or.inl ⟨by rfl, ?_⟩) ?_ ?_
  rotate_left
  · intro w'; go_simp; with_reducible rfl
  rotate_left
  · simp only [Act.put, List.setIfInBounds_toArray, List.set_cons_zero, List.set_cons_succ, i64_w, i32_w]; rfl
  refine pure_ (i := 21) (N := some 28) (v := ?_) (a' := ?_) #[true, true, true, true, true, true, true, true, true, true, true, true, true, true, true, true, true, true, true, true, true, true, false, false, false, false, false, false, false] rfl rfl (by kernel_rfl) (fun _ _ _ h => h) (Or.inl ⟨by rfl, ?_⟩) ?_ ?_
  rotate_left
  · intro w'; go_simp; with_reducible rfl
  rotate_left
  · simp only [Act.put, List.setIfInBounds_toArray, List.set_cons_zero, List.set_cons_succ, i64_w, i32_w]; rfl
  refine pure_ (i := 22) (N := some 29) (v := ?_) (a' := ?_) #[true, true, true, true, true, true, true, true, true, true, true, true, true, true, true, true, true, true, true, true, true, true, true, false, false, false, false, false, false] rfl rfl (by kernel_rfl) (fun _ _ _ h => h) (Or.inl ⟨by rfl, ?_⟩) ?_ ?_
  rotate_left
  · intro w'; go_simp; with_reducible rfl
  rotate_left
  · simp only [Act.put, List.setIfInBounds_toArray, List.set_cons_zero, List.set_cons_succ, i64_w, i32_w]; rfl
  refine pure_ (i := 23) (N := some 30) (v := ?_) (a' := ?_) #[true, true, true, true, true, true, true, true, true, true, true, true, true, true, true, true, true, true, true, true, true, true, true, true, false, false, false, false, false] rfl rfl (by kernel_rfl) (fun _ _ _ h => h) (Or.inl ⟨by rfl, ?_⟩) ?_ ?_
  rotate_left
  · intro w'; go_simp; with_reducible rfl
  rotate_left
  · simp only [Act.put, List.setIfInBounds_toArray, List.set_cons_zero, List.set_cons_succ, i64_w, i32_w]; rfl
  refine take_ (i := 24) (N := some 31) (v := ?_) (a' := ?_) #[true, true, true, true, true, true, true, true, true, true, true, true, true, true, true, true, true, true, true, true, true, true, true, true, true, false, false, false, false] rfl rfl (by kernel_rfl) (fun _ _ _ h => h) (Or.inl ⟨by rfl, ?_⟩) hHeld ?_ ?_
  rotate_left
  · rintro w' ⟨s0, s1, s2, s3, s4⟩; go_simp; with_reducible rfl
  rotate_left
  · simp only [Act.put, List.setIfInBounds_toArray, List.set_cons_zero, List.set_cons_succ, i64_w, i32_w]; rfl
  refine pure_ (i := 25) (N := some 32) (v := ?_) (a' := ?_) #[true, true, true, true, true, true, true, true, true, true, true, true, true, true, true, true, true, true, true, true, true, true, true, true, true, true, false, false, false] rfl rfl (by kernel_rfl) (fun _ _ _ h => h) (Or.inl ⟨by rfl, ?_⟩) ?_ ?_
  rotate_left
  · intro w'; go_simp; with_reducible rfl
  rotate_left
  · simp only [Act.put, List.setIfInBounds_toArray, List.set_cons_zero, List.set_cons_succ, i64_w, i32_w]; rfl
  refine pure_ (i := 26) (N := some 33) (v := ?_) (a' := ?_) #[true, true, true, true, true, true, true, true, true, true, true, true, true, true, true, true, true, true, true, true, true, true, true, true, true, true, true, false, false] rfl rfl (by kernel_rfl) (fun _ _ _ h => h) (Or.inl ⟨by rfl, ?_⟩) ?_ ?_
  rotate_left
  · intro w'; go_simp; with_reducible rfl
  rotate_left
  · simp only [Act.put, List.setIfInBounds_toArray, List.set_cons_zero, List.set_cons_succ, i64_w, i32_w]; rfl
  refine pure_ (i := 27) (N := some 34) (v := ?_) (a' := ?_) #[true, true, true, true, true, true, true, true, true, true, true, true, true, true, true, true, true, true, true, true, true, true, true, true, true, true, true, true, false] rfl rfl (by kernel_rfl) (fun _ _ _ h => h) (Or.inl ⟨by rfl, ?_⟩) ?_ ?_
  rotate_left
  · intro w'; go_simp; with_reducible rfl
  rotate_left
  · simp only [Act.put, List.setIfInBounds_toArray, List.set_cons_zero, List.set_cons_succ, i64_w, i32_w]; rfl
  clear x0 x1 x2 x3 x8
  rw [wrapId (x := l.want - 1) (by omega) (by omega)]
  refine last_ (i := 28) (N := none) #[true, true, true, true, true, true, true, true, true, true, true, true, true, true, true, true, true, true, true, true, true, true, true, true, true, true, true, true, true] rfl rfl (by kernel_rfl) (by decide) (fun K hK => ?_)
  refine storeRow_ (by rfl) 28 (.tmp 6) (.tmp 34) rfl rfl w.heap.size #[.int .i64 l.x.f0, .int .i64 l.x.f2, .int .i64 l.x.f1, .int .i64 l.x.f3, .int .i64 seq, .int .i64 (l.want - 1), .string s] rfl rfl 28 _ (blk_drew H1.out) info28s rfl (by rw [List.all_toArray]; rfl) ?_
  refine hK.out _ _ ?_
  clear hK K
  refine done_ (by kernel_rfl) ?_
  go_wp2
  refine bodyPost_ret (results_cell_row rfl _ _ w.heap.size 28 #[.int .i64 l.x.f0, .int .i64 l.x.f2, .int .i64 l.x.f1, .int .i64 l.x.f3, .int .i64 seq, .int .i64 (l.want - 1), .string s] (0, 0) _ rfl (setRow_heap _ _ _ _ _ _ (blk_drew H1.out)) hu28 rfl info28s) rfl ?_
  exact ⟨rfl, below_setRow (below_drew1 HB1.out) (Nat.le_refl _) _⟩
end Go.Proofs.Ytdibaeomepallaa.LK
