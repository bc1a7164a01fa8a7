import Derived.Test.YtmcochnofkjhaaaDoorQx
import Derived.Deep.QuietTactic
import Derived.BigQuiet
/- The document's rows: Attrs, Ref, Refs. By hand. -/
namespace Go.Proofs.YtmcochnofkjhaaaDoor.QU
open Go.RowKit Go.Proofs.YtmcochnofkjhaaaDoorW.PrintWords Go.Proofs.YtmcochnofkjhaaaDoorW.PrintLast Go.Proofs.YtmcochnofkjhaaaDoorW.PrintMore Go.Proofs.YtmcochnofkjhaaaDoor.PAll
set_option linter.unusedVariables false
set_option linter.unusedSimpArgs false
set_option maxRecDepth 100000
/-- Which operations of a region are done, as bits. -/
def fB (n m : Nat) : Array Bool := ((List.range n).map fun i => m.testBit i).toArray
/-- An attribute as the document has it; what is given, too. -/
def ra (x : S87) : S104 := ⟨x.f0, ⟨x.f1.f0, x.f1.f1, x.f1.f2⟩⟩
def rf (G : S36) : S59 := ⟨G.f0, G.f1, ⟨⟨G.f2.f0.f0, G.f2.f0.f1, G.f2.f0.f2⟩, G.f2.f1, G.f2.f2.map ra⟩⟩
theorem info104p : (Tryd.prog.info? 104).map (fun i => (i.zero, i.size, i.bytes)) = some (some (.agg #[.string ⟨#[]⟩, .int .i64 0, .int .i64 0, .string ⟨#[]⟩]), k104.sz, 48) := by kernel_rfl
theorem info59p : (Tryd.prog.info? 59).map (fun i => (i.zero, i.size, i.bytes)) = some (some (.agg #[.int .i64 0, .string ⟨#[]⟩, .int .i64 0, .int .i64 0, .int .i64 0, .string ⟨#[]⟩, .slice none 0 0]), k59.sz, 88) := by kernel_rfl
theorem take_map {α β : Type} (f : α → β) (l : List α) (i : Nat) (h : i < l.length) : (l.map f).take (i + 1) = (l.map f).take i ++ [f l[i]] := by
 rw [List.take_add_one, List.getElem?_map, List.getElem?_eq_getElem h]
 rfl
theorem rd87 (l : List S87) (i : Nat) (h : i < l.length) : rd_T87 l (i : Int) = l[i] := by
 unfold rd_T87
 rw [Int.toNat_natCast, List.getD_eq_getElem?_getD, List.getElem?_eq_getElem h]
 rfl
theorem rd36 (l : List S36) (i : Nat) (h : i < l.length) : rd_T36 l (i : Int) = l[i] := by
 unfold rd_T36
 rw [Int.toNat_natCast, List.getD_eq_getElem?_getD, List.getElem?_eq_getElem h]
 rfl
theorem cellB {w w' : World} {a : Addr} {v : Value} (hb : Below w.heap.size w w') (h : w.cell? a = some v) : w'.cell? a = some v := (hb.cell (World.block_lt_of_cell? _ _ h)).trans h
set_option maxHeartbeats 8000000 in
theorem attrs_is {w : World} {A : Option Addr} {c : Nat} {l : List S87} (hC : k87.C w A l.length l) (hc : l.length ≤ c) (hl : l.length ≤ 1000000) :
  Calls Tryd.prog 44 #[.slice A l.length c] w fun e w' => ∃ Av cv, e = .returned (.slice Av l.length cv) ∧ k104.R 104 w' w.heap.size (fun _ => True) (.slice Av l.length cv) (l.map ra) ∧ Below w.heap.size w w' := by
 have hu87 := Tryd.underlying87
 have hu85 := Tryd.underlying85
 have hu104 := Tryd.underlying104
 have HC := Aside0.mk hC
 clear hC
 go_enter Tryd.func44, Tryd.ntmps44
 go_wp2
 go_loopg [3, 4] l.length (fun kq v3 v4 w' => ∃ i : Nat, v4 = .int .i64 i ∧ Aside0 (i + kq = l.length) ∧ Aside0 (k104.R 104 w' w.heap.size (fun _ => True) v3 ((l.map ra).take i)) ∧ Aside0 (Below w.heap.size w w'))
 case atStart => exact ⟨0, rfl, ⟨by omega⟩, ⟨Kd.R_nil _ _ _ _ _⟩, ⟨Below.refl _ _⟩⟩
 case round =>
  obtain ⟨i, rfl, HI, HR, HB⟩ := hrel
  have hi := HI.out
  cases gk with
  | zero =>
   have d1 : decide ((i : Int) < (l.length : Int)) = false := decide_eq_false (by omega)
   go_wp2
   go_ret
   have hr := HR.out
   rw [List.take_of_length_le (by rw [List.length_map]; omega)] at hr
   obtain ⟨Av, cv, rfl, _, hr⟩ := R_named (n := l.length) hr (List.length_map _)
   exact ⟨Av, cv, rfl, hr, HB.out⟩
  | succ k1 =>
   have d1 : decide ((i : Int) < (l.length : Int)) = true := decide_eq_true (by omega)
   have i1 : (0 : Int) ≤ (i : Int) := by omega
   have i2 : (i : Int) < (l.length : Int) := by omega
   obtain ⟨ad, rfl, z0, z1, z2, z3⟩ := at_T87 HC.out (i : Int) i1 i2
   have HT := Aside0.mk (take_map ra l i (by omega))
   obtain ⟨x, hx⟩ : ∃ x, x = l[i]'(by omega) := ⟨_, rfl⟩
   rw [rd87 l i (by omega), ← hx] at z0 z1 z2 z3
   rw [Int.toNat_natCast] at z0 z1 z2 z3
   rw [← hx] at HT
   clear hx
   have HBd := Aside0.mk (below_drew1 HB.out)
   have hib : i ≤ 1000000 := by omega
   go_wp2
   have HZ := Aside0.mk (And.intro z0 (And.intro z1 (And.intro z2 z3)))
   clear z0 z1 z2 z3
   refine start_ (n := 15) (S := fun w' => Below w.heap.size w w' ∧ True) (ds := []) #[false, false, false, false, false, false, false, false, false, false, false, false, false, false, false] (by kernel_rfl) rfl rfl ⟨HBd.out, trivial⟩ (fun hHeld => ?_)
   refine pure_ (i := 0) (N := some 11) (v := ?_) (a' := ?_) (fB 15 1) rfl rfl (by kernel_rfl) (fun _ _ _ h => h) (Or.inl ⟨by rfl, ?_⟩) ?_ ?_
   rotate_left
   ·intro w'; go_simp; with_reducible rfl
   rotate_left
   ·go_simp; rfl
   refine pure_ (i := 1) (N := some 12) (v := ?_) (a' := ?_) (fB 15 3) rfl rfl (by kernel_rfl) (fun _ _ _ h => h) (Or.inl ⟨by rfl, ?_⟩) ?_ ?_
   rotate_left
   ·intro w'; go_simp; with_reducible rfl
   rotate_left
   ·go_simp; rfl
   refine pure_ (i := 2) (N := some 13) (v := ?_) (a' := ?_) (fB 15 7) rfl rfl (by kernel_rfl) (fun _ _ _ h => h) (Or.inl ⟨by rfl, ?_⟩) ?_ ?_
   rotate_left
   ·intro w'; go_simp; with_reducible rfl
   rotate_left
   ·go_simp; rfl
   refine pure_ (i := 3) (N := some 14) (v := ?_) (a' := ?_) (fB 15 15) rfl rfl (by kernel_rfl) (fun _ _ _ h => h) (Or.inl ⟨by rfl, ?_⟩) ?_ ?_
   rotate_left
   ·intro w'; go_simp; with_reducible rfl
   rotate_left
   ·go_simp; rfl
   refine pure_ (i := 4) (N := some 15) (v := ?_) (a' := ?_) (fB 15 31) rfl rfl (by kernel_rfl) (fun _ _ _ h => h) (Or.inl ⟨by rfl, ?_⟩) ?_ ?_
   rotate_left
   ·intro w'; go_simp; with_reducible rfl
   rotate_left
   ·go_simp; rfl
   refine take_ (i := 5) (N := some 16) (v := ?_) (a' := ?_) (fB 15 63) rfl rfl (by kernel_rfl) (fun _ _ _ h => h) (Or.inl ⟨by rfl, ?_⟩) hHeld ?_ ?_
   rotate_left
   ·rintro w' ⟨s0, s1⟩
    have y0 := cellB s0 HZ.out.1
    go_simp; with_reducible rfl
   rotate_left
   ·go_simp; rfl
   refine pure_ (i := 6) (N := some 17) (v := ?_) (a' := ?_) (fB 15 127) rfl rfl (by kernel_rfl) (fun _ _ _ h => h) (Or.inl ⟨by rfl, ?_⟩) ?_ ?_
   rotate_left
   ·intro w'; go_simp; with_reducible rfl
   rotate_left
   ·go_simp; rfl
   refine pure_ (i := 7) (N := some 18) (v := ?_) (a' := ?_) (fB 15 255) rfl rfl (by kernel_rfl) (fun _ _ _ h => h) (Or.inl ⟨by rfl, ?_⟩) ?_ ?_
   rotate_left
   ·intro w'; go_simp; with_reducible rfl
   rotate_left
   ·go_simp; rfl
   refine pure_ (i := 8) (N := some 19) (v := ?_) (a' := ?_) (fB 15 511) rfl rfl (by kernel_rfl) (fun _ _ _ h => h) (Or.inl ⟨by rfl, ?_⟩) ?_ ?_
   rotate_left
   ·intro w'; go_simp; with_reducible rfl
   rotate_left
   ·go_simp; rfl
   refine pure_ (i := 9) (N := some 20) (v := ?_) (a' := ?_) (fB 15 1023) rfl rfl (by kernel_rfl) (fun _ _ _ h => h) (Or.inl ⟨by rfl, ?_⟩) ?_ ?_
   rotate_left
   ·intro w'; go_simp; with_reducible rfl
   rotate_left
   ·go_simp; rfl
   refine take_ (i := 10) (N := some 21) (v := ?_) (a' := ?_) (fB 15 2047) rfl rfl (by kernel_rfl) (fun _ _ _ h => h) (Or.inl ⟨by rfl, ?_⟩) hHeld ?_ ?_
   rotate_left
   ·rintro w' ⟨s0, s1⟩
    have y1 := cellB s0 HZ.out.2.1
    have y2 := cellB s0 HZ.out.2.2.1
    have y3 := cellB s0 HZ.out.2.2.2
    go_simp; with_reducible rfl
   rotate_left
   ·go_simp; rfl
   refine pure_ (i := 11) (N := some 22) (v := ?_) (a' := ?_) (fB 15 4095) rfl rfl (by kernel_rfl) (fun _ _ _ h => h) (Or.inl ⟨by rfl, ?_⟩) ?_ ?_
   rotate_left
   ·intro w'; go_simp; with_reducible rfl
   rotate_left
   ·go_simp; rfl
   refine one_ (i := 12) (N := some 23) (fB 15 8191) rfl rfl (by kernel_rfl) (by decide) (fun K hK => ?_)
   refine event_step (v := .slice (some ⟨wr.drew.heap.size, 0, none⟩) 1 1) (w1 := wr.drew.alloc (.cells ([.string x.f0, .int .i64 x.f1.f0, .int .i64 x.f1.f1, .string x.f1.f2]).toArray 104 (0, 0))) (by rfl) (by first | (go_simp; done) | (go_simp; rfl)) ?_
   refine hK.out _ _ ⟨below_alloc HBd.out _, trivial⟩ (fun hHeld => ?_)
   clear hK K
   refine norm_ (a' := ?_) ?_ ?_
   rotate_left
   ·show Act.put _ (some 23) _ = _
    go_simp
    rfl
   refine one_ (i := 13) (N := some 24) (fB 15 16383) rfl rfl (by kernel_rfl) (by decide) (fun K hK => ?_)
   refine Kd.R_append_step k104 (w0 := wr.drew) w.heap.size (by rfl) (.tmp 11) (.tmp 23) 55 104 _ 48 rfl Tryd.underlying55 info104p rfl (by decide) (by omega) u3 ((l.map ra).take i) (ra x) [.string x.f0, .int .i64 x.f1.f0, .int .i64 x.f1.f1, .string x.f1.f2] (fun _ => True) (fun k => False) rfl rfl (k104_mkM _ _ _ (ra x)) (fun k hk => hk.elim) (fun _ _ => trivial) (Kd.R_below HR.out (below_drew1 (Below.refl _ _))) (Below.refl _ _) HBd.out.size (by rw [List.length_take, List.length_map]; omega) ?_
   intro v7 W7 hr7 hb7 hg7 hat7
   rw [← HT.out] at hr7
   have hne : ∀ k, u3.ownBlock = some k → w.heap.size ≤ k := fun k hk => by obtain ⟨inner, hi⟩ := Kd.R_own HR.out; exact own_base hi k hk
   have HB7 := Aside0.mk (Mods.below (F := fun k => w.heap.size ≤ k) ((Mods.of_below HBd.out).grown hg7 (fun k hk => .inl (hne k hk))) (Nat.le_refl _) (fun _ h => h))
   have HR7 := Aside0.mk hr7
   clear hr7 hb7 hg7 hat7 hne
   refine hK.out _ _ ⟨HB7.out, trivial⟩ (fun hHeld => ?_)
   clear hK K
   refine norm_ (a' := ?_) ?_ ?_
   rotate_left
   ·show Act.put _ (some 24) _ = _
    go_simp
    rfl
   refine pure_ (i := 14) (N := some 3) (v := ?_) (a' := ?_) (fB 15 32767) rfl rfl (by kernel_rfl) (fun _ _ _ h => h) (Or.inl ⟨by rfl, ?_⟩) ?_ ?_
   rotate_left
   ·intro w'; go_simp; with_reducible rfl
   rotate_left
   ·go_simp; rfl
   refine done_ (by kernel_rfl) ?_
   go_wp2
   go_roundg k1
   case measure => omega
   case rel => exact ⟨i + 1, rfl, ⟨by omega⟩, HR7, HB7⟩
/-- The cells of an event (of the program, of the document). -/
def ec (x : S33) (v : Value) : Array Value := #[.int .i64 x.f0.f0, .int .i64 x.f0.f1, .int .i64 x.f0.f2, .string x.f1, v]
def zc : Array Value := #[.int .i64 0, .int .i64 0, .int .i64 0, .string ⟨#[]⟩, .slice none 0 0]
theorem info57s : (Tryd.prog.info? 57).map (·.size) = some 5 := by kernel_rfl
theorem info59s : (Tryd.prog.info? 59).map (·.size) = some 7 := by kernel_rfl
theorem k104_types {t : Nat} (h1 : 104 ≠ t) : ∀ q, q ∈ (104 : Nat) :: k104.E → q ≠ t := by
 intro q hq
 have : q = 104 := by simpa [k104, k102, Kd.iso, Kd.pair, Kd.slice, Kd.int, Kd.string, Kd.scalar] using hq
 rw [this]; exact h1
theorem k59_types {t : Nat} (h1 : 59 ≠ t) (h2 : 104 ≠ t) : ∀ q, q ∈ (59 : Nat) :: k59.E → q ≠ t := by
 intro q hq
 have : q = 59 ∨ q = 104 := by simpa [k59, k57, k54, k104, k102, Kd.iso, Kd.pair, Kd.slice, Kd.int, Kd.string, Kd.scalar] using hq
 rcases this with rfl | rfl
 ·exact h1
 ·exact h2
set_option maxHeartbeats 8000000 in
theorem ref_is {w : World} (x : S33) {A : Option Addr} {c : Nat} (hC : k87.C w A x.f2.length x.f2) (hc : x.f2.length ≤ c) (hl : x.f2.length ≤ 1000000) :
  Calls Tryd.prog 32 #[.agg (ec x (.slice A x.f2.length c))] w fun e w' => ∃ Av cv, e = .returned (.agg (ec x (.slice Av x.f2.length cv))) ∧ k104.R 104 w' w.heap.size (fun _ => True) (.slice Av x.f2.length cv) (x.f2.map ra) ∧ Below w.heap.size w w' := by
 have hu33 := Tryd.underlying33
 have hu57 := Tryd.underlying57
 have hu30 := Tryd.underlying30
 have HC := Aside0.mk hC
 clear hC
 unfold ec
 go_enter Tryd.func32, Tryd.ntmps32
 go_wp2_with (first
  | ((with_reducible refine gate_dst (N := 1) rfl ?_); refine box_event ?hg (N := 1) ?hd (cs := (ec x (.slice A x.f2.length c))) (t := 33) ?hr ?_; (case hd => rfl); (case hg => rfl); (case hr => first | (go_simp; done) | (go_simp; rfl)); intro g1 hg1 w1 kg1 bg1; have Gg1 := Aside0.mk hg1; clear hg1; have HK1 := Aside0.mk kg1; have HB1 := Aside0.mk bg1; clear kg1 bg1)
  | ((with_reducible refine gate_dst (N := 2) rfl ?_); refine box_event ?hg (N := 2) ?hd (cs := zc) (t := 57) ?hr ?_; (case hd => rfl); (case hg => rfl); (case hr => first | (go_simp; done) | (go_simp; rfl)); intro g2 hg2 w2 kg2 bg2; have Gg2 := Aside0.mk hg2; clear hg2; have HK2 := Aside0.mk kg2; have HK1' := Aside0.mk (keepB HK1.out bg2); have HB2 := Aside0.mk (HB1.out.trans (bg2.mono HB1.out.size)); clear kg2 bg2))
 have HBd := Aside0.mk (below_drew1 HB2.out)
 have HK1d := Aside0.mk (blk_drew HK1'.out)
 have HK2d := Aside0.mk (blk_drew HK2.out)
 clear HK1 HK1' HK2
 refine start_ (n := 9) (S := fun w' => w'.heap[g1]? = some (.cells (ec x (.slice A x.f2.length c)) 33 (0, 0)) ∧ w'.heap[g2]? = some (.cells zc 57 (0, 0))) (ds := [8]) #[false, false, false, false, false, false, false, false, false] (by kernel_rfl) rfl rfl ⟨HK1d.out, HK2d.out⟩ (fun hHeld => ?_)
 refine pure_ (i := 0) (N := some 3) (v := ?_) (a' := ?_) (fB 9 1) rfl rfl (by kernel_rfl) (fun _ _ _ h => h) (Or.inl ⟨by rfl, ?_⟩) ?_ ?_
 rotate_left
 ·intro w'; go_simp; with_reducible rfl
 rotate_left
 ·go_simp; rfl
 refine pure_ (i := 2) (N := some 5) (v := ?_) (a' := ?_) (fB 9 5) rfl rfl (by kernel_rfl) (fun _ _ _ h => h) (Or.inl ⟨by rfl, ?_⟩) ?_ ?_
 rotate_left
 ·intro w'; go_simp; with_reducible rfl
 rotate_left
 ·go_simp; rfl
 refine pure_ (i := 4) (N := some 7) (v := ?_) (a' := ?_) (fB 9 21) rfl rfl (by kernel_rfl) (fun _ _ _ h => h) (Or.inl ⟨by rfl, ?_⟩) ?_ ?_
 rotate_left
 ·intro w'; go_simp; with_reducible rfl
 rotate_left
 ·go_simp; rfl
 refine take_ (i := 1) (N := some 4) (v := ?_) (a' := ?_) (fB 9 23) rfl rfl (by kernel_rfl) (fun _ _ _ h => h) (Or.inl ⟨by rfl, ?_⟩) hHeld ?_ ?_
 rotate_left
 ·rintro w' ⟨s0, s1⟩
  have y0 := (blk_cell s0 0).trans (show (ec x (.slice A x.f2.length c))[0]? = some (.int .i64 x.f0.f0) from rfl)
  have y1 := (blk_cell s0 1).trans (show (ec x (.slice A x.f2.length c))[1]? = some (.int .i64 x.f0.f1) from rfl)
  have y2 := (blk_cell s0 2).trans (show (ec x (.slice A x.f2.length c))[2]? = some (.int .i64 x.f0.f2) from rfl)
  go_simp; with_reducible rfl
 rotate_left
 ·go_simp; rfl
 refine take_ (i := 3) (N := some 6) (v := ?_) (a' := ?_) (fB 9 31) rfl rfl (by kernel_rfl) (fun _ _ _ h => h) (Or.inl ⟨by rfl, ?_⟩) hHeld ?_ ?_
 rotate_left
 ·rintro w' ⟨s0, s1⟩
  have y3 := (blk_cell s0 3).trans (show (ec x (.slice A x.f2.length c))[3]? = some (.string x.f1) from rfl)
  go_simp; with_reducible rfl
 rotate_left
 ·go_simp; rfl
 refine take_ (i := 5) (N := some 8) (v := ?_) (a' := ?_) (fB 9 63) rfl rfl (by kernel_rfl) (fun _ _ _ h => h) (Or.inl ⟨by rfl, ?_⟩) hHeld ?_ ?_
 rotate_left
 ·rintro w' ⟨s0, s1⟩
  have y4 := (blk_cell s0 4).trans (show (ec x (.slice A x.f2.length c))[4]? = some (.slice A x.f2.length c) from rfl)
  go_simp; with_reducible rfl
 rotate_left
 ·go_simp; rfl
 refine one_ (i := 6) (N := some 9) (fB 9 127) rfl rfl (by kernel_rfl) (by decide) (fun K hK => ?_)
 refine goes_ Tryd.func44 (by kernel_rfl) rfl #[.slice A x.f2.length c] (by rfl) rfl rfl (by first | rfl | (simp only [List.map_toArray, List.map_cons, List.map_nil]; rfl)) ?_
 refine (attrs_is (Kd.C_below HC.out HBd.out) hc hl).mono ?_
 rintro e w3 ⟨Av, cv, rfl, hr, hb⟩; have HR3 := Aside0.mk (Kd.R_lower hr HBd.out.size); have HB3 := Aside0.mk (HBd.out.trans (hb.mono HBd.out.size)); have HK1e := Aside0.mk (keepB HK1d.out hb); have HK2e := Aside0.mk (keepB HK2d.out hb); clear hr hb
 refine ⟨_, rfl, hK.out _ _ ⟨HK1e.out, HK2e.out⟩ (fun hHeld => ?_)⟩
 clear hK K
 refine norm_ (a' := ?_) ?_ ?_
 rotate_left
 ·show Act.put _ (some 9) _ = _
  go_simp
  rfl
 refine pure_ (i := 7) (N := some 10) (v := ?_) (a' := ?_) (fB 9 255) rfl rfl (by kernel_rfl) (fun _ _ _ h => h) (Or.inl ⟨by rfl, ?_⟩) ?_ ?_
 rotate_left
 ·intro w'; go_simp; with_reducible rfl
 rotate_left
 ·go_simp; rfl
 refine last_ (i := 8) (N := none) (fB 9 511) rfl rfl (by kernel_rfl) (by decide) (fun K hK => ?_)
 refine storeRow_ (by rfl) 57 (.tmp 2) (.tmp 10) rfl rfl g2 (ec x (.slice Av x.f2.length cv)) rfl rfl 57 zc HK2e.out info57s rfl (by unfold ec; rw [List.all_toArray]; rfl) ?_
 refine hK.out _ _ ?_
 clear hK K
 refine done_ (by kernel_rfl) ?_
 go_wp2
 refine bodyPost_ret (results_cell_row rfl _ _ g2 57 (ec x (.slice Av x.f2.length cv)) (0, 0) _ rfl (setRow_heap _ _ _ _ _ _ HK2e.out) Tryd.underlying57 rfl info57s) rfl ?_
 have hg2 : w.heap.size ≤ g2 := Nat.le_trans HB1.out.size (Nat.le_of_eq Gg2.out.symm)
 exact ⟨Av, cv, rfl, R_setRow HR3.out HK2e.out (k104_types (by decide)) _, below_setRow HB3.out hg2 _⟩
set_option maxHeartbeats 16000000 in
theorem refs_is {w : World} {A : Option Addr} {c : Nat} {l : List S36} (hC : k36.C w A l.length l) (hc : l.length ≤ c) (hl : l.length ≤ 100000) (hS : ∀ G ∈ l, G.f2.f2.length ≤ 1000000) :
  Calls Tryd.prog 19 #[.slice A l.length c] w fun e w' => ∃ Av cv, e = .returned (.slice Av l.length cv) ∧ k59.R 59 w' w.heap.size (fun _ => True) (.slice Av l.length cv) (l.map rf) ∧ Below w.heap.size w w' := by
 have hu36 := Tryd.underlying36
 have hu33 := Tryd.underlying33
 have hu30 := Tryd.underlying30
 have hu59 := Tryd.underlying59
 have hu57 := Tryd.underlying57
 have HC := Aside0.mk hC
 have HSm := Aside0.mk hS
 clear hC hS
 go_enter Tryd.func19, Tryd.ntmps19
 go_wp2
 go_loopg [3, 4] l.length (fun kq v3 v4 w' => ∃ i : Nat, v4 = .int .i64 i ∧ Aside0 (i + kq = l.length) ∧ Aside0 (k59.R 59 w' w.heap.size (fun _ => True) v3 ((l.map rf).take i)) ∧ Aside0 (Below w.heap.size w w'))
 case atStart => exact ⟨0, rfl, ⟨by omega⟩, ⟨Kd.R_nil _ _ _ _ _⟩, ⟨Below.refl _ _⟩⟩
 case round =>
  obtain ⟨i, rfl, HI, HR, HB⟩ := hrel
  have hi := HI.out
  cases gk with
  | zero =>
   have d1 : decide ((i : Int) < (l.length : Int)) = false := decide_eq_false (by omega)
   go_wp2
   go_ret
   have hr := HR.out
   rw [List.take_of_length_le (by rw [List.length_map]; omega)] at hr
   obtain ⟨Av, cv, rfl, _, hr⟩ := R_named (n := l.length) hr (List.length_map _)
   exact ⟨Av, cv, rfl, hr, HB.out⟩
  | succ k1 =>
   have d1 : decide ((i : Int) < (l.length : Int)) = true := decide_eq_true (by omega)
   have i1 : (0 : Int) ≤ (i : Int) := by omega
   have i2 : (i : Int) < (l.length : Int) := by omega
   obtain ⟨ad, A6, c6, rfl, z0, z1, z2, z3, z4, z5, z6, h7, h8⟩ := at_T36 HC.out (i : Int) i1 i2
   have HT := Aside0.mk (take_map rf l i (by omega))
   have hm := HSm.out _ (List.getElem_mem (show i < l.length by omega))
   obtain ⟨G, hx⟩ : ∃ G, G = l[i]'(by omega) := ⟨_, rfl⟩
   rw [rd36 l i (by omega), ← hx] at z0 z1 z2 z3 z4 z5 z6 h7 h8
   rw [Int.toNat_natCast] at z0 z1 z2 z3 z4 z5 z6
   rw [← hx] at HT hm
   clear hx
   have HBd := Aside0.mk (below_drew1 HB.out)
   have hib : i ≤ 1000000 := by omega
   go_wp2
   have HZ := Aside0.mk (And.intro z0 (And.intro z1 (And.intro z2 (And.intro z3 (And.intro z4 (And.intro z5 z6))))))
   have HC6 := Aside0.mk h8
   clear z0 z1 z2 z3 z4 z5 z6 h8
   refine start_ (n := 21) (S := fun w' => Below w.heap.size w w' ∧ True) (ds := []) #[false, false, false, false, false, false, false, false, false, false, false, false, false, false, false, false, false, false, false, false, false] (by kernel_rfl) rfl rfl ⟨HBd.out, trivial⟩ (fun hHeld => ?_)
   refine pure_ (i := 0) (N := some 11) (v := ?_) (a' := ?_) (fB 21 1) rfl rfl (by kernel_rfl) (fun _ _ _ h => h) (Or.inl ⟨by rfl, ?_⟩) ?_ ?_
   rotate_left
   ·intro w'; go_simp; with_reducible rfl
   rotate_left
   ·go_simp; rfl
   refine pure_ (i := 1) (N := some 12) (v := ?_) (a' := ?_) (fB 21 3) rfl rfl (by kernel_rfl) (fun _ _ _ h => h) (Or.inl ⟨by rfl, ?_⟩) ?_ ?_
   rotate_left
   ·intro w'; go_simp; with_reducible rfl
   rotate_left
   ·go_simp; rfl
   refine pure_ (i := 2) (N := some 13) (v := ?_) (a' := ?_) (fB 21 7) rfl rfl (by kernel_rfl) (fun _ _ _ h => h) (Or.inl ⟨by rfl, ?_⟩) ?_ ?_
   rotate_left
   ·intro w'; go_simp; with_reducible rfl
   rotate_left
   ·go_simp; rfl
   refine pure_ (i := 3) (N := some 14) (v := ?_) (a' := ?_) (fB 21 15) rfl rfl (by kernel_rfl) (fun _ _ _ h => h) (Or.inl ⟨by rfl, ?_⟩) ?_ ?_
   rotate_left
   ·intro w'; go_simp; with_reducible rfl
   rotate_left
   ·go_simp; rfl
   refine pure_ (i := 4) (N := some 15) (v := ?_) (a' := ?_) (fB 21 31) rfl rfl (by kernel_rfl) (fun _ _ _ h => h) (Or.inl ⟨by rfl, ?_⟩) ?_ ?_
   rotate_left
   ·intro w'; go_simp; with_reducible rfl
   rotate_left
   ·go_simp; rfl
   refine take_ (i := 5) (N := some 16) (v := ?_) (a' := ?_) (fB 21 63) rfl rfl (by kernel_rfl) (fun _ _ _ h => h) (Or.inl ⟨by rfl, ?_⟩) hHeld ?_ ?_
   rotate_left
   ·rintro w' ⟨s0, s1⟩
    have y0 := cellB s0 HZ.out.1
    go_simp; with_reducible rfl
   rotate_left
   ·go_simp; rfl
   refine pure_ (i := 6) (N := some 17) (v := ?_) (a' := ?_) (fB 21 127) rfl rfl (by kernel_rfl) (fun _ _ _ h => h) (Or.inl ⟨by rfl, ?_⟩) ?_ ?_
   rotate_left
   ·intro w'; go_simp; with_reducible rfl
   rotate_left
   ·go_simp; rfl
   refine pure_ (i := 7) (N := some 18) (v := ?_) (a' := ?_) (fB 21 255) rfl rfl (by kernel_rfl) (fun _ _ _ h => h) (Or.inl ⟨by rfl, ?_⟩) ?_ ?_
   rotate_left
   ·intro w'; go_simp; with_reducible rfl
   rotate_left
   ·go_simp; rfl
   refine pure_ (i := 8) (N := some 19) (v := ?_) (a' := ?_) (fB 21 511) rfl rfl (by kernel_rfl) (fun _ _ _ h => h) (Or.inl ⟨by rfl, ?_⟩) ?_ ?_
   rotate_left
   ·intro w'; go_simp; with_reducible rfl
   rotate_left
   ·go_simp; rfl
   refine pure_ (i := 9) (N := some 20) (v := ?_) (a' := ?_) (fB 21 1023) rfl rfl (by kernel_rfl) (fun _ _ _ h => h) (Or.inl ⟨by rfl, ?_⟩) ?_ ?_
   rotate_left
   ·intro w'; go_simp; with_reducible rfl
   rotate_left
   ·go_simp; rfl
   refine take_ (i := 10) (N := some 21) (v := ?_) (a' := ?_) (fB 21 2047) rfl rfl (by kernel_rfl) (fun _ _ _ h => h) (Or.inl ⟨by rfl, ?_⟩) hHeld ?_ ?_
   rotate_left
   ·rintro w' ⟨s0, s1⟩
    have y1 := cellB s0 HZ.out.2.1
    go_simp; with_reducible rfl
   rotate_left
   ·go_simp; rfl
   refine pure_ (i := 11) (N := some 22) (v := ?_) (a' := ?_) (fB 21 4095) rfl rfl (by kernel_rfl) (fun _ _ _ h => h) (Or.inl ⟨by rfl, ?_⟩) ?_ ?_
   rotate_left
   ·intro w'; go_simp; with_reducible rfl
   rotate_left
   ·go_simp; rfl
   refine pure_ (i := 12) (N := some 23) (v := ?_) (a' := ?_) (fB 21 8191) rfl rfl (by kernel_rfl) (fun _ _ _ h => h) (Or.inl ⟨by rfl, ?_⟩) ?_ ?_
   rotate_left
   ·intro w'; go_simp; with_reducible rfl
   rotate_left
   ·go_simp; rfl
   refine pure_ (i := 13) (N := some 24) (v := ?_) (a' := ?_) (fB 21 16383) rfl rfl (by kernel_rfl) (fun _ _ _ h => h) (Or.inl ⟨by rfl, ?_⟩) ?_ ?_
   rotate_left
   ·intro w'; go_simp; with_reducible rfl
   rotate_left
   ·go_simp; rfl
   refine pure_ (i := 14) (N := some 25) (v := ?_) (a' := ?_) (fB 21 32767) rfl rfl (by kernel_rfl) (fun _ _ _ h => h) (Or.inl ⟨by rfl, ?_⟩) ?_ ?_
   rotate_left
   ·intro w'; go_simp; with_reducible rfl
   rotate_left
   ·go_simp; rfl
   refine take_ (i := 15) (N := some 26) (v := ?_) (a' := ?_) (fB 21 65535) rfl rfl (by kernel_rfl) (fun _ _ _ h => h) (Or.inl ⟨by rfl, ?_⟩) hHeld ?_ ?_
   rotate_left
   ·rintro w' ⟨s0, s1⟩
    have y2 := cellB s0 HZ.out.2.2.1
    have y3 := cellB s0 HZ.out.2.2.2.1
    have y4 := cellB s0 HZ.out.2.2.2.2.1
    have y5 := cellB s0 HZ.out.2.2.2.2.2.1
    have y6 := cellB s0 HZ.out.2.2.2.2.2.2
    go_simp; with_reducible rfl
   rotate_left
   ·go_simp; rfl
   refine one_ (i := 16) (N := some 27) (fB 21 131071) rfl rfl (by kernel_rfl) (by decide) (fun K hK => ?_)
   refine goes_ Tryd.func32 (by kernel_rfl) rfl #[.agg (ec G.f2 (.slice A6 G.f2.f2.length c6))] (by rfl) rfl rfl (by first | rfl | (simp only [List.map_toArray, List.map_cons, List.map_nil]; rfl)) ?_
   refine (ref_is G.f2 (Kd.C_below HC6.out HBd.out) h7 hm).mono ?_
   rintro e w3 ⟨Av, cv, rfl, hr, hb⟩; have HR3 := Aside0.mk (Kd.R_lower hr HBd.out.size); have HB3 := Aside0.mk (HBd.out.trans (hb.mono HBd.out.size)); have HRL := Aside0.mk (Kd.R_below (Kd.R_below HR.out (below_drew1 (Below.refl _ _))) hb); have HLo := Aside0.mk (show ∀ k, (k59.R 59 wr w.heap.size (fun _ => True) u3 ((l.map rf).take i)) → u3.ownBlock = some k → k < wr.drew.heap.size from fun k h e => Kd.R_lt h k e); have HBx := Aside0.mk hb; have HRx := Aside0.mk hr; clear hr hb; unfold ec
   refine ⟨_, rfl, hK.out _ _ ⟨HB3.out, trivial⟩ (fun hHeld => ?_)⟩
   clear hK K
   refine norm_ (a' := ?_) ?_ ?_
   rotate_left
   ·show Act.put _ (some 27) _ = _
    go_simp
    rfl
   refine pure_ (i := 17) (N := some 28) (v := ?_) (a' := ?_) (fB 21 262143) rfl rfl (by kernel_rfl) (fun _ _ _ h => h) (Or.inl ⟨by rfl, ?_⟩) ?_ ?_
   rotate_left
   ·intro w'; go_simp; with_reducible rfl
   rotate_left
   ·go_simp; rfl
   refine one_ (i := 18) (N := some 29) (fB 21 524287) rfl rfl (by kernel_rfl) (by decide) (fun K hK => ?_)
   refine event_step (v := .slice (some ⟨w3.heap.size, 0, none⟩) 1 1) (w1 := w3.alloc (.cells ([.int .i64 G.f0, .string G.f1, .int .i64 G.f2.f0.f0, .int .i64 G.f2.f0.f1, .int .i64 G.f2.f0.f2, .string G.f2.f1, .slice Av G.f2.f2.length cv]).toArray 59 (0, 0))) (by rfl) (by first | (go_simp; done) | (go_simp; rfl)) ?_
   refine hK.out _ _ ⟨below_alloc HB3.out _, trivial⟩ (fun hHeld => ?_)
   clear hK K
   refine norm_ (a' := ?_) ?_ ?_
   rotate_left
   ·show Act.put _ (some 29) _ = _
    go_simp
    rfl
   refine one_ (i := 19) (N := some 30) (fB 21 1048575) rfl rfl (by kernel_rfl) (by decide) (fun K hK => ?_)
   refine Kd.R_append_step k59 (w0 := w3) w.heap.size (by rfl) (.tmp 11) (.tmp 29) 45 59 _ 88 rfl Tryd.underlying45 info59p rfl (by decide) (by omega) u3 ((l.map rf).take i) (rf G) [.int .i64 G.f0, .string G.f1, .int .i64 G.f2.f0.f0, .int .i64 G.f2.f0.f1, .int .i64 G.f2.f0.f2, .string G.f2.f1, .slice Av G.f2.f2.length cv] (fun _ => True) (fun k => some k ≠ u3.ownBlock) rfl rfl (k59_mkM _ _ _ (rf G) (Kd.R_mono (Kd.R_bound (show k104.R 104 w3 w.heap.size (fun k => True ∧ wr.drew.heap.size ≤ k) (.slice Av G.f2.f2.length cv) (G.f2.f2.map ra) from Kd.R_mono (Kd.R_lower (Kd.R_bound HRx.out) HBd.out.size) (fun k hk => ⟨trivial, hk.2.1⟩))) (fun k hk e => by have h1 := Kd.R_lt HR.out k e.symm; have h2 := hk.1.2; have h3 : wr.drew.heap.size = wr.heap.size := rfl; omega))) (fun k hk => ⟨trivial, hk⟩) (fun _ _ => trivial) HRL.out (Below.refl _ _) HB3.out.size (by rw [List.length_take, List.length_map]; omega) ?_
   intro v7 W7 hr7 hb7 hg7 hat7
   rw [← HT.out] at hr7
   have hne : ∀ k, u3.ownBlock = some k → w.heap.size ≤ k := fun k hk => by obtain ⟨inner, hi⟩ := Kd.R_own HR.out; exact own_base hi k hk
   have HB7 := Aside0.mk (Mods.below (F := fun k => w.heap.size ≤ k) ((Mods.of_below HB3.out).grown hg7 (fun k hk => .inl (hne k hk))) (Nat.le_refl _) (fun _ h => h))
   have HR7 := Aside0.mk hr7
   clear hr7 hb7 hg7 hat7 hne
   refine hK.out _ _ ⟨HB7.out, trivial⟩ (fun hHeld => ?_)
   clear hK K
   refine norm_ (a' := ?_) ?_ ?_
   rotate_left
   ·show Act.put _ (some 30) _ = _
    go_simp
    rfl
   refine pure_ (i := 20) (N := some 3) (v := ?_) (a' := ?_) (fB 21 2097151) rfl rfl (by kernel_rfl) (fun _ _ _ h => h) (Or.inl ⟨by rfl, ?_⟩) ?_ ?_
   rotate_left
   ·intro w'; go_simp; with_reducible rfl
   rotate_left
   ·go_simp; rfl
   refine done_ (by kernel_rfl) ?_
   go_wp2
   go_roundg k1
   case measure => omega
   case rel => exact ⟨i + 1, rfl, ⟨by omega⟩, HR7, HB7⟩
end Go.Proofs.YtmcochnofkjhaaaDoor.QU
/- The document's Same, of rows that are the same. By hand. -/
namespace Go.Proofs.YtmcochnofkjhaaaDoor.QU
open Go.RowKit Go.Proofs.YtmcochnofkjhaaaDoorW.PrintWords Go.Proofs.YtmcochnofkjhaaaDoorW.PrintLast Go.Proofs.YtmcochnofkjhaaaDoorW.PrintMore Go.Proofs.YtmcochnofkjhaaaDoor.PAll
set_option linter.unusedVariables false
set_option linter.unusedSimpArgs false
set_option maxRecDepth 100000
theorem eqS54 (d : Nat) (w : World) (x0 x1 x2 : Int) : (Op.equalIn (d + 2) 54 (.agg #[.int .i64 x0, .int .i64 x1, .int .i64 x2]) (.agg #[.int .i64 x0, .int .i64 x1, .int .i64 x2])).run Tryd.prog w = .ok true w := by
 have h : (Op.equalIn (d + 2) 54 (.agg #[.int .i64 x0, .int .i64 x1, .int .i64 x2]) (.agg #[.int .i64 x0, .int .i64 x1, .int .i64 x2])).run Tryd.prog w = .ok (x0 == x0 && (x1 == x1 && (x2 == x2))) w := by
  refine eqA_of Tryd.underlying54 (by kernel_rfl) ?_
  refine eqf_cons (by rfl) (by go_simp; rfl) (by go_simp; rfl) (by go_simp) ?_
  refine eqf_cons (by rfl) (by go_simp; rfl) (by go_simp; rfl) (by go_simp) ?_
  exact eqf_last (by rfl) (by go_simp; rfl) (by go_simp; rfl) (by go_simp)
 simpa using h
theorem eqS102 (d : Nat) (w : World) (x0 x1 : Int) (x2 : ByteArray) : (Op.equalIn (d + 2) 102 (.agg #[.int .i64 x0, .int .i64 x1, .string x2]) (.agg #[.int .i64 x0, .int .i64 x1, .string x2])).run Tryd.prog w = .ok true w := by
 have h : (Op.equalIn (d + 2) 102 (.agg #[.int .i64 x0, .int .i64 x1, .string x2]) (.agg #[.int .i64 x0, .int .i64 x1, .string x2])).run Tryd.prog w = .ok (x0 == x0 && (x1 == x1 && (x2.toList == x2.toList))) w := by
  refine eqA_of Tryd.underlying102 (by kernel_rfl) ?_
  refine eqf_cons (by rfl) (by go_simp; rfl) (by go_simp; rfl) (by go_simp) ?_
  refine eqf_cons (by rfl) (by go_simp; rfl) (by go_simp; rfl) (by go_simp) ?_
  exact eqf_last (by rfl) (by go_simp; rfl) (by go_simp; rfl) (by go_simp)
 simpa using h
theorem eqS104 (d : Nat) (w : World) (x0 : ByteArray) (x1 x2 : Int) (x3 : ByteArray) : (Op.equalIn (d + 3) 104 (.agg #[.string x0, .int .i64 x1, .int .i64 x2, .string x3]) (.agg #[.string x0, .int .i64 x1, .int .i64 x2, .string x3])).run Tryd.prog w = .ok true w := by
 have h : (Op.equalIn (d + 3) 104 (.agg #[.string x0, .int .i64 x1, .int .i64 x2, .string x3]) (.agg #[.string x0, .int .i64 x1, .int .i64 x2, .string x3])).run Tryd.prog w = .ok (x0.toList == x0.toList && true) w := by
  refine eqA_of Tryd.underlying104 (by kernel_rfl) ?_
  refine eqf_cons (by rfl) (by go_simp; rfl) (by go_simp; rfl) (by go_simp) ?_
  exact eqf_last (by rfl) (by go_simp) (by go_simp) (eqS102 (d + 0) w x1 x2 x3)
 simpa using h
attribute [local go_sem high] eqS54 eqS104
set_option maxHeartbeats 8000000 in
theorem sameAttrs_is {w : World} {A B : Option Addr} {c c2 : Nat} {l : List S104} {n : Nat} (hn : l.length = n) (hA : k104.C w A n l) (hB : k104.C w B n l) (hc : n ≤ c) (hc2 : n ≤ c2) (hl : n ≤ 1000000) :
  Calls Tryd.prog 45 #[.slice A n c, .slice B n c2] w fun e w' => e = .returned (.bool true) ∧ Below w.heap.size w w' := by
 have hu104 := Tryd.underlying104
 have HA := Aside0.mk hA
 have HB' := Aside0.mk hB
 clear hA hB
 go_enter Tryd.func45, Tryd.ntmps45
 go_wp2
 go_loopg [5] n (fun kq v5 w' => ∃ i : Nat, v5 = .int .i64 i ∧ Aside0 (i + kq = n) ∧ Aside0 (Below w.heap.size w w'))
 case atStart => exact ⟨0, rfl, ⟨by omega⟩, ⟨Below.refl _ _⟩⟩
 case round =>
  obtain ⟨i, rfl, HI, HB⟩ := hrel
  have hi := HI.out
  cases gk with
  | zero =>
   have d1 : decide ((i : Int) < (n : Int)) = false := decide_eq_false (by omega)
   have d2 : decide (i < n) = false := decide_eq_false (by omega)
   go_wp2
   go_ret
   exact ⟨rfl, HB.out⟩
  | succ k1 =>
   have d1 : decide ((i : Int) < (n : Int)) = true := decide_eq_true (by omega)
   have d2 : decide (i < n) = true := decide_eq_true (by omega)
   have i1 : (0 : Int) ≤ (i : Int) := by omega
   have i2 : (i : Int) < (n : Int) := by omega
   have hib : i ≤ 1000000 := by omega
   obtain ⟨a1, rfl, y0, y1, y2, y3⟩ := at_T104 (Kd.C_below HA.out HB.out) (i : Int) i1 i2
   obtain ⟨a2, rfl, z0, z1, z2, z3⟩ := at_T104 (Kd.C_below HB'.out HB.out) (i : Int) i1 i2
   rw [Int.toNat_natCast] at y0 y1 y2 y3 z0 z1 z2 z3
   obtain ⟨x, hx⟩ : ∃ x, x = rd_T104 l (i : Int) := ⟨_, rfl⟩
   rw [← hx] at y0 y1 y2 y3 z0 z1 z2 z3
   clear hx
   go_wp2
   go_quiet (fail)
   go_wp2
   go_roundg k1
   case measure => omega
   case rel => exact ⟨i + 1, rfl, ⟨by omega⟩, ⟨pw_below_drewN HB.out _⟩⟩
/-- The cells of the document's event. -/
def dc (x : S57) (v : Value) : Array Value := #[.int .i64 x.f0.f0, .int .i64 x.f0.f1, .int .i64 x.f0.f2, .string x.f1, v]
set_option maxHeartbeats 8000000 in
theorem same06_is {w : World} (x : S57) {A B : Option Addr} {c c2 : Nat} (hA : k104.C w A x.f2.length x.f2) (hB : k104.C w B x.f2.length x.f2) (hc : x.f2.length ≤ c) (hc2 : x.f2.length ≤ c2) (hl : x.f2.length ≤ 1000000) :
  Calls Tryd.prog 33 #[.agg (dc x (.slice A x.f2.length c)), .agg (dc x (.slice B x.f2.length c2))] w fun e w' => e = .returned (.bool true) ∧ Below w.heap.size w w' := by
 have hu57 := Tryd.underlying57
 have hu54 := Tryd.underlying54
 obtain ⟨n, hn⟩ : ∃ n, n = x.f2.length := ⟨_, rfl⟩
 rw [← hn] at hA hB hc hc2 hl ⊢
 have HA := Aside0.mk hA
 have HB' := Aside0.mk hB
 have HN := Aside0.mk hn
 clear hA hB hn
 unfold dc
 go_enter Tryd.func33, Tryd.ntmps33
 go_wp2_with (first
  | ((with_reducible refine gate_dst (N := 2) rfl ?_); refine box_event ?hg (N := 2) ?hd (cs := (dc x (.slice A n c))) (t := 57) ?hr ?_; (case hd => rfl); (case hg => rfl); (case hr => first | (go_simp; done) | (go_simp; rfl)); intro g1 hg1 w1 kg1 bg1; have Gg1 := Aside0.mk hg1; clear hg1; have HK1 := Aside0.mk kg1; have HB1 := Aside0.mk bg1; clear kg1 bg1)
  | ((with_reducible refine gate_dst (N := 3) rfl ?_); refine box_event ?hg (N := 3) ?hd (cs := (dc x (.slice B n c2))) (t := 57) ?hr ?_; (case hd => rfl); (case hg => rfl); (case hr => first | (go_simp; done) | (go_simp; rfl)); intro g2 hg2 w2 kg2 bg2; have Gg2 := Aside0.mk hg2; clear hg2; have HB2 := Aside0.mk (HB1.out.trans (bg2.mono HB1.out.size)); have hk1 := keepB HK1.out bg2; have p0 := (blk_cell hk1 0).trans (show (dc x (.slice A n c))[0]? = some (.int .i64 x.f0.f0) from rfl); have p1 := (blk_cell hk1 1).trans (show (dc x (.slice A n c))[1]? = some (.int .i64 x.f0.f1) from rfl); have p2 := (blk_cell hk1 2).trans (show (dc x (.slice A n c))[2]? = some (.int .i64 x.f0.f2) from rfl); have p3 := (blk_cell hk1 3).trans (show (dc x (.slice A n c))[3]? = some (.string x.f1) from rfl); have p4 := (blk_cell hk1 4).trans (show (dc x (.slice A n c))[4]? = some (.slice A n c) from rfl); have q0 := (blk_cell kg2 0).trans (show (dc x (.slice B n c2))[0]? = some (.int .i64 x.f0.f0) from rfl); have q1 := (blk_cell kg2 1).trans (show (dc x (.slice B n c2))[1]? = some (.int .i64 x.f0.f1) from rfl); have q2 := (blk_cell kg2 2).trans (show (dc x (.slice B n c2))[2]? = some (.int .i64 x.f0.f2) from rfl); have q3 := (blk_cell kg2 3).trans (show (dc x (.slice B n c2))[3]? = some (.string x.f1) from rfl); have q4 := (blk_cell kg2 4).trans (show (dc x (.slice B n c2))[4]? = some (.slice B n c2) from rfl); clear kg2 bg2 hk1)
  | ((with_reducible refine gate_dst (N := 22) rfl ?_); refine gate_guard (by rfl) ?_; dsimp only; refine goesL_ (some 22) rfl rfl Tryd.func45 (by kernel_rfl) rfl #[.slice A n c, .slice B n c2] rfl (by first | (simp only [List.map_toArray, List.map_cons, List.map_nil]; rfl) | rfl) ?_; refine (sameAttrs_is HN.out.symm (Kd.C_below HA.out HB2.out) (Kd.C_below HB'.out HB2.out) hc hc2 hl).mono ?_; rintro e w3 ⟨rfl, hb⟩; have HB3 := Aside0.mk (HB2.out.trans (hb.mono HB2.out.size)); clear hb; refine ⟨_, rfl, ?_⟩))
 go_ret
 exact ⟨rfl, HB3.out⟩
set_option maxHeartbeats 16000000 in
theorem same18_is {w : World} {A B : Option Addr} {c c2 : Nat} {l : List S59} {n : Nat} (hn : l.length = n) (hA : k59.C w A n l) (hB : k59.C w B n l) (hc : n ≤ c) (hc2 : n ≤ c2) (hl : n ≤ 1000000) (hS : ∀ x ∈ l, x.f2.f2.length ≤ 1000000) :
  Calls Tryd.prog 21 #[.slice A n c, .slice B n c2] w fun e w' => e = .returned (.bool true) ∧ Below w.heap.size w w' := by
 have hu59 := Tryd.underlying59
 have hu57 := Tryd.underlying57
 have hu54 := Tryd.underlying54
 have HA := Aside0.mk hA
 have HB' := Aside0.mk hB
 have HSm := Aside0.mk hS
 have HN := Aside0.mk hn
 clear hA hB hS hn
 go_enter Tryd.func21, Tryd.ntmps21
 go_wp2
 go_loopg [5] n (fun kq v5 w' => ∃ i : Nat, v5 = .int .i64 i ∧ Aside0 (i + kq = n) ∧ Aside0 (Below w.heap.size w w'))
 case atStart => exact ⟨0, rfl, ⟨by omega⟩, ⟨Below.refl _ _⟩⟩
 case round =>
  obtain ⟨i, rfl, HI, HB⟩ := hrel
  have hi := HI.out
  cases gk with
  | zero =>
   have d1 : decide ((i : Int) < (n : Int)) = false := decide_eq_false (by omega)
   have d2 : decide (i < n) = false := decide_eq_false (by omega)
   go_wp2
   go_ret
   exact ⟨rfl, HB.out⟩
  | succ k1 =>
   have d1 : decide ((i : Int) < (n : Int)) = true := decide_eq_true (by omega)
   have d2 : decide (i < n) = true := decide_eq_true (by omega)
   have i1 : (0 : Int) ≤ (i : Int) := by omega
   have i2 : (i : Int) < (n : Int) := by omega
   have hib : i ≤ 1000000 := by omega
   obtain ⟨a1, A6, c6, rfl, y0, y1, y2, y3, y4, y5, y6, ha1, ha2⟩ := at_T59 HA.out (i : Int) i1 i2
   obtain ⟨a2, B6, d6, rfl, z0, z1, z2, z3, z4, z5, z6, hb1, hb2⟩ := at_T59 HB'.out (i : Int) i1 i2
   rw [Int.toNat_natCast] at y0 y1 y2 y3 y4 y5 y6 z0 z1 z2 z3 z4 z5 z6
   have hm : (rd_T59 l (i : Int)).f2.f2.length ≤ 1000000 := HSm.out _ (by unfold rd_T59; rw [Int.toNat_natCast, List.getD_eq_getElem?_getD, List.getElem?_eq_getElem (by have := HN.out; omega)]; exact List.getElem_mem _)
   obtain ⟨x, hx⟩ : ∃ x, x = rd_T59 l (i : Int) := ⟨_, rfl⟩
   rw [← hx] at y0 y1 y2 y3 y4 y5 y6 z0 z1 z2 z3 z4 z5 z6 ha1 ha2 hb1 hb2 hm
   clear hx
   have HBd := Aside0.mk (below_drew1 HB.out)
   have HCa := Aside0.mk ha2
   have HCb := Aside0.mk hb2
   go_wp2
   have HY := Aside0.mk (And.intro y0 (And.intro y1 (And.intro y2 (And.intro y3 (And.intro y4 (And.intro y5 y6))))))
   have HZ := Aside0.mk (And.intro z0 (And.intro z1 (And.intro z2 (And.intro z3 (And.intro z4 (And.intro z5 z6))))))
   clear y0 y1 y2 y3 y4 y5 y6 z0 z1 z2 z3 z4 z5 z6 ha2 hb2
   refine start_ (n := 38) (S := fun w' => Below w.heap.size w w' ∧ True) (ds := []) #[false, false, false, false, false, false, false, false, false, false, false, false, false, false, false, false, false, false, false, false, false, false, false, false, false, false, false, false, false, false, false, false, false, false, false, false, false, false] (by kernel_rfl) rfl rfl ⟨HBd.out, trivial⟩ (fun hHeld => ?_)
   refine pure_ (i := 0) (N := some 17) (v := ?_) (a' := ?_) (fB 38 1) rfl rfl (by kernel_rfl) (fun _ _ _ h => h) (Or.inl ⟨by rfl, ?_⟩) ?_ ?_
   rotate_left
   ·intro w'; go_simp; with_reducible rfl
   rotate_left
   ·go_simp; rfl
   refine pure_ (i := 1) (N := some 18) (v := ?_) (a' := ?_) (fB 38 3) rfl rfl (by kernel_rfl) (fun _ _ _ h => h) (Or.inl ⟨by rfl, ?_⟩) ?_ ?_
   rotate_left
   ·intro w'; go_simp; with_reducible rfl
   rotate_left
   ·go_simp; rfl
   refine pure_ (i := 2) (N := some 19) (v := ?_) (a' := ?_) (fB 38 7) rfl rfl (by kernel_rfl) (fun _ _ _ h => h) (Or.inl ⟨by rfl, ?_⟩) ?_ ?_
   rotate_left
   ·intro w'; go_simp; with_reducible rfl
   rotate_left
   ·go_simp; rfl
   refine pure_ (i := 3) (N := some 20) (v := ?_) (a' := ?_) (fB 38 15) rfl rfl (by kernel_rfl) (fun _ _ _ h => h) (Or.inl ⟨by rfl, ?_⟩) ?_ ?_
   rotate_left
   ·intro w'; go_simp; with_reducible rfl
   rotate_left
   ·go_simp; rfl
   refine take_ (i := 4) (N := some 21) (v := ?_) (a' := ?_) (fB 38 31) rfl rfl (by kernel_rfl) (fun _ _ _ h => h) (Or.inl ⟨by rfl, ?_⟩) hHeld ?_ ?_
   rotate_left
   ·rintro w' ⟨s0, s1⟩
    have y0 := cellB s0 HY.out.1
    go_simp; with_reducible rfl
   rotate_left
   ·go_simp; rfl
   refine pure_ (i := 5) (N := some 22) (v := ?_) (a' := ?_) (fB 38 63) rfl rfl (by kernel_rfl) (fun _ _ _ h => h) (Or.inl ⟨by rfl, ?_⟩) ?_ ?_
   rotate_left
   ·intro w'; go_simp; with_reducible rfl
   rotate_left
   ·go_simp; rfl
   refine pure_ (i := 6) (N := some 23) (v := ?_) (a' := ?_) (fB 38 127) rfl rfl (by kernel_rfl) (fun _ _ _ h => h) (Or.inl ⟨by rfl, ?_⟩) ?_ ?_
   rotate_left
   ·intro w'; go_simp; with_reducible rfl
   rotate_left
   ·go_simp; rfl
   refine pure_ (i := 7) (N := some 24) (v := ?_) (a' := ?_) (fB 38 255) rfl rfl (by kernel_rfl) (fun _ _ _ h => h) (Or.inl ⟨by rfl, ?_⟩) ?_ ?_
   rotate_left
   ·intro w'; go_simp; with_reducible rfl
   rotate_left
   ·go_simp; rfl
   refine pure_ (i := 8) (N := some 25) (v := ?_) (a' := ?_) (fB 38 511) rfl rfl (by kernel_rfl) (fun _ _ _ h => h) (Or.inl ⟨by rfl, ?_⟩) ?_ ?_
   rotate_left
   ·intro w'; go_simp; with_reducible rfl
   rotate_left
   ·go_simp; rfl
   refine take_ (i := 9) (N := some 26) (v := ?_) (a' := ?_) (fB 38 1023) rfl rfl (by kernel_rfl) (fun _ _ _ h => h) (Or.inl ⟨by rfl, ?_⟩) hHeld ?_ ?_
   rotate_left
   ·rintro w' ⟨s0, s1⟩
    have y0 := cellB s0 HZ.out.1
    go_simp; with_reducible rfl
   rotate_left
   ·go_simp; rfl
   refine pure_ (i := 10) (N := some 27) (v := ?_) (a' := ?_) (fB 38 2047) rfl rfl (by kernel_rfl) (fun _ _ _ h => h) (Or.inl ⟨by rfl, ?_⟩) ?_ ?_
   rotate_left
   ·intro w'; go_simp; with_reducible rfl
   rotate_left
   ·go_simp; rfl
   refine pure_ (i := 11) (N := some 28) (v := ?_) (a' := ?_) (fB 38 4095) rfl rfl (by kernel_rfl) (fun _ _ _ h => h) (Or.inl ⟨by rfl, ?_⟩) ?_ ?_
   rotate_left
   ·intro w'; go_simp; with_reducible rfl
   rotate_left
   ·go_simp; rfl
   refine pure_ (i := 12) (N := some 29) (v := ?_) (a' := ?_) (fB 38 8191) rfl rfl (by kernel_rfl) (fun _ _ _ h => h) (Or.inl ⟨by rfl, ?_⟩) ?_ ?_
   rotate_left
   ·intro w'; go_simp; with_reducible rfl
   rotate_left
   ·go_simp; rfl
   refine pure_ (i := 13) (N := some 30) (v := ?_) (a' := ?_) (fB 38 16383) rfl rfl (by kernel_rfl) (fun _ _ _ h => h) (Or.inl ⟨by rfl, ?_⟩) ?_ ?_
   rotate_left
   ·intro w'; go_simp; with_reducible rfl
   rotate_left
   ·go_simp; rfl
   refine pure_ (i := 14) (N := some 31) (v := ?_) (a' := ?_) (fB 38 32767) rfl rfl (by kernel_rfl) (fun _ _ _ h => h) (Or.inl ⟨by rfl, ?_⟩) ?_ ?_
   rotate_left
   ·intro w'; go_simp; with_reducible rfl
   rotate_left
   ·go_simp; rfl
   refine pure_ (i := 15) (N := some 32) (v := ?_) (a' := ?_) (fB 38 65535) rfl rfl (by kernel_rfl) (fun _ _ _ h => h) (Or.inl ⟨by rfl, ?_⟩) ?_ ?_
   rotate_left
   ·intro w'; go_simp; with_reducible rfl
   rotate_left
   ·go_simp; rfl
   refine take_ (i := 16) (N := some 33) (v := ?_) (a' := ?_) (fB 38 131071) rfl rfl (by kernel_rfl) (fun _ _ _ h => h) (Or.inl ⟨by rfl, ?_⟩) hHeld ?_ ?_
   rotate_left
   ·rintro w' ⟨s0, s1⟩
    have y0 := cellB s0 HY.out.2.1
    go_simp; with_reducible rfl
   rotate_left
   ·go_simp; rfl
   refine pure_ (i := 17) (N := some 34) (v := ?_) (a' := ?_) (fB 38 262143) rfl rfl (by kernel_rfl) (fun _ _ _ h => h) (Or.inl ⟨by rfl, ?_⟩) ?_ ?_
   rotate_left
   ·intro w'; go_simp; with_reducible rfl
   rotate_left
   ·go_simp; rfl
   refine pure_ (i := 18) (N := some 35) (v := ?_) (a' := ?_) (fB 38 524287) rfl rfl (by kernel_rfl) (fun _ _ _ h => h) (Or.inl ⟨by rfl, ?_⟩) ?_ ?_
   rotate_left
   ·intro w'; go_simp; with_reducible rfl
   rotate_left
   ·go_simp; rfl
   refine pure_ (i := 19) (N := some 36) (v := ?_) (a' := ?_) (fB 38 1048575) rfl rfl (by kernel_rfl) (fun _ _ _ h => h) (Or.inl ⟨by rfl, ?_⟩) ?_ ?_
   rotate_left
   ·intro w'; go_simp; with_reducible rfl
   rotate_left
   ·go_simp; rfl
   refine pure_ (i := 20) (N := some 37) (v := ?_) (a' := ?_) (fB 38 2097151) rfl rfl (by kernel_rfl) (fun _ _ _ h => h) (Or.inl ⟨by rfl, ?_⟩) ?_ ?_
   rotate_left
   ·intro w'; go_simp; with_reducible rfl
   rotate_left
   ·go_simp; rfl
   refine take_ (i := 21) (N := some 38) (v := ?_) (a' := ?_) (fB 38 4194303) rfl rfl (by kernel_rfl) (fun _ _ _ h => h) (Or.inl ⟨by rfl, ?_⟩) hHeld ?_ ?_
   rotate_left
   ·rintro w' ⟨s0, s1⟩
    have y0 := cellB s0 HZ.out.2.1
    go_simp; with_reducible rfl
   rotate_left
   ·go_simp; rfl
   refine pure_ (i := 22) (N := some 39) (v := ?_) (a' := ?_) (fB 38 8388607) rfl rfl (by kernel_rfl) (fun _ _ _ h => h) (Or.inl ⟨by rfl, ?_⟩) ?_ ?_
   rotate_left
   ·intro w'; go_simp; with_reducible rfl
   rotate_left
   ·go_simp; rfl
   refine pure_ (i := 23) (N := some 40) (v := ?_) (a' := ?_) (fB 38 16777215) rfl rfl (by kernel_rfl) (fun _ _ _ h => h) (Or.inl ⟨by rfl, ?_⟩) ?_ ?_
   rotate_left
   ·intro w'; go_simp; with_reducible rfl
   rotate_left
   ·go_simp; rfl
   refine pure_ (i := 24) (N := some 41) (v := ?_) (a' := ?_) (fB 38 33554431) rfl rfl (by kernel_rfl) (fun _ _ _ h => h) (Or.inl ⟨by rfl, ?_⟩) ?_ ?_
   rotate_left
   ·intro w'; go_simp; with_reducible rfl
   rotate_left
   ·go_simp; rfl
   refine pure_ (i := 25) (N := some 42) (v := ?_) (a' := ?_) (fB 38 67108863) rfl rfl (by kernel_rfl) (fun _ _ _ h => h) (Or.inl ⟨by rfl, ?_⟩) ?_ ?_
   rotate_left
   ·intro w'; go_simp; with_reducible rfl
   rotate_left
   ·go_simp; rfl
   refine pure_ (i := 26) (N := some 43) (v := ?_) (a' := ?_) (fB 38 134217727) rfl rfl (by kernel_rfl) (fun _ _ _ h => h) (Or.inl ⟨by rfl, ?_⟩) ?_ ?_
   rotate_left
   ·intro w'; go_simp; with_reducible rfl
   rotate_left
   ·go_simp; rfl
   refine pure_ (i := 27) (N := some 44) (v := ?_) (a' := ?_) (fB 38 268435455) rfl rfl (by kernel_rfl) (fun _ _ _ h => h) (Or.inl ⟨by rfl, ?_⟩) ?_ ?_
   rotate_left
   ·intro w'; go_simp; with_reducible rfl
   rotate_left
   ·go_simp; rfl
   refine pure_ (i := 28) (N := some 45) (v := ?_) (a' := ?_) (fB 38 536870911) rfl rfl (by kernel_rfl) (fun _ _ _ h => h) (Or.inl ⟨by rfl, ?_⟩) ?_ ?_
   rotate_left
   ·intro w'; go_simp; with_reducible rfl
   rotate_left
   ·go_simp; rfl
   refine take_ (i := 29) (N := some 46) (v := ?_) (a' := ?_) (fB 38 1073741823) rfl rfl (by kernel_rfl) (fun _ _ _ h => h) (Or.inl ⟨by rfl, ?_⟩) hHeld ?_ ?_
   rotate_left
   ·rintro w' ⟨s0, s1⟩
    have y2 := cellB s0 HY.out.2.2.1
    have y3 := cellB s0 HY.out.2.2.2.1
    have y4 := cellB s0 HY.out.2.2.2.2.1
    have y5 := cellB s0 HY.out.2.2.2.2.2.1
    have y6 := cellB s0 HY.out.2.2.2.2.2.2
    go_simp; with_reducible rfl
   rotate_left
   ·go_simp; rfl
   refine pure_ (i := 30) (N := some 47) (v := ?_) (a' := ?_) (fB 38 2147483647) rfl rfl (by kernel_rfl) (fun _ _ _ h => h) (Or.inl ⟨by rfl, ?_⟩) ?_ ?_
   rotate_left
   ·intro w'; go_simp; with_reducible rfl
   rotate_left
   ·go_simp; rfl
   refine pure_ (i := 31) (N := some 48) (v := ?_) (a' := ?_) (fB 38 4294967295) rfl rfl (by kernel_rfl) (fun _ _ _ h => h) (Or.inl ⟨by rfl, ?_⟩) ?_ ?_
   rotate_left
   ·intro w'; go_simp; with_reducible rfl
   rotate_left
   ·go_simp; rfl
   refine pure_ (i := 32) (N := some 49) (v := ?_) (a' := ?_) (fB 38 8589934591) rfl rfl (by kernel_rfl) (fun _ _ _ h => h) (Or.inl ⟨by rfl, ?_⟩) ?_ ?_
   rotate_left
   ·intro w'; go_simp; with_reducible rfl
   rotate_left
   ·go_simp; rfl
   refine pure_ (i := 33) (N := some 50) (v := ?_) (a' := ?_) (fB 38 17179869183) rfl rfl (by kernel_rfl) (fun _ _ _ h => h) (Or.inl ⟨by rfl, ?_⟩) ?_ ?_
   rotate_left
   ·intro w'; go_simp; with_reducible rfl
   rotate_left
   ·go_simp; rfl
   refine take_ (i := 34) (N := some 51) (v := ?_) (a' := ?_) (fB 38 34359738367) rfl rfl (by kernel_rfl) (fun _ _ _ h => h) (Or.inl ⟨by rfl, ?_⟩) hHeld ?_ ?_
   rotate_left
   ·rintro w' ⟨s0, s1⟩
    have y2 := cellB s0 HZ.out.2.2.1
    have y3 := cellB s0 HZ.out.2.2.2.1
    have y4 := cellB s0 HZ.out.2.2.2.2.1
    have y5 := cellB s0 HZ.out.2.2.2.2.2.1
    have y6 := cellB s0 HZ.out.2.2.2.2.2.2
    go_simp; with_reducible rfl
   rotate_left
   ·go_simp; rfl
   refine one_ (i := 35) (N := some 52) (fB 38 68719476735) rfl rfl (by kernel_rfl) (by decide) (fun K hK => ?_)
   refine goes_ Tryd.func33 (by kernel_rfl) rfl #[.agg (dc x.f2 (.slice A6 x.f2.f2.length c6)), .agg (dc x.f2 (.slice B6 x.f2.f2.length d6))] (by rfl) rfl rfl (by first | rfl | (simp only [List.map_toArray, List.map_cons, List.map_nil]; rfl)) ?_
   refine (same06_is x.f2 (Kd.C_below HCa.out HBd.out) (Kd.C_below HCb.out HBd.out) ha1 hb1 hm).mono ?_
   rintro e w3 ⟨rfl, hb⟩; have HB3 := Aside0.mk (HBd.out.trans (hb.mono HBd.out.size)); clear hb
   refine ⟨_, rfl, hK.out _ _ ⟨HB3.out, trivial⟩ (fun hHeld => ?_)⟩
   clear hK K
   refine norm_ (a' := ?_) ?_ ?_
   rotate_left
   ·show Act.put _ (some 52) _ = _
    go_simp
    rfl
   refine pure_ (i := 36) (N := some 53) (v := ?_) (a' := ?_) (fB 38 137438953471) rfl rfl (by kernel_rfl) (fun _ _ _ h => h) (Or.inl ⟨by rfl, ?_⟩) ?_ ?_
   rotate_left
   ·intro w'; go_simp; with_reducible rfl
   rotate_left
   ·go_simp; rfl
   refine pure_ (i := 37) (N := some 54) (v := ?_) (a' := ?_) (fB 38 274877906943) rfl rfl (by kernel_rfl) (fun _ _ _ h => h) (Or.inl ⟨by rfl, ?_⟩) ?_ ?_
   rotate_left
   ·intro w'; go_simp; with_reducible rfl
   rotate_left
   ·go_simp; rfl
   refine done_ (by kernel_rfl) ?_
   go_wp2
   go_roundg k1
   case measure => omega
   case rel => exact ⟨i + 1, rfl, ⟨by omega⟩, HB3⟩
end Go.Proofs.YtmcochnofkjhaaaDoor.QU
/- The document's Poll, Forget, Offer. By hand. Written in part by a program of this session. -/
namespace Go.Proofs.YtmcochnofkjhaaaDoor.QU
open Go.RowKit Go.Proofs.YtmcochnofkjhaaaDoorW.PrintWords Go.Proofs.YtmcochnofkjhaaaDoorW.PrintLast Go.Proofs.YtmcochnofkjhaaaDoorW.PrintMore Go.Proofs.YtmcochnofkjhaaaDoor.PAll
set_option linter.unusedVariables false
set_option linter.unusedSimpArgs false
set_option maxRecDepth 100000
theorem info48s : (Tryd.prog.info? 48).map (·.size) = some 3 := by kernel_rfl
theorem info59ex : ∃ i, Tryd.prog.info? 59 = some i ∧ i.size = 7 := by
  have h := info59s
  cases e : Tryd.prog.info? 59 with
  | none => rw [e] at h; cases h
  | some i => rw [e] at h; exact ⟨i, rfl, Option.some.inj h⟩
/-- The cells of the document's queue. -/
def qd (rm : Int) (v u : Value) : Array Value := #[.int .i64 rm, v, u]
/-- How many are taken of n. -/
def pn (n : Nat) (most : Int) : Nat := (min (max most 0) (n : Int)).toNat
/-- Where the rest of a row begins. -/
def sfA (A : Option Addr) (c p : Nat) : Option Addr := if c = p then A else A.map (·.add (p * 7))
set_option maxHeartbeats 8000000 in
theorem poll20_is {w : World} (rm : Int) {A AO : Option Addr} {n c nO cO : Nat} (most : Int) (hc : n ≤ c) (hn : n ≤ 1000000) :
    Calls Tryd.prog 20 #[.agg (qd rm (.slice A n c) (.slice AO nO cO)), .int .i64 most] w fun e w' => e = .returned (.tuple #[.agg (qd rm (.slice (sfA A c (pn n most)) (n - pn n most) (c - pn n most)) (.slice AO nO cO)), .slice A (pn n most) c]) ∧ Below w.heap.size w w' := by
  have hu48 := Tryd.underlying48
  obtain ⟨ii, hii, hsz⟩ := info59ex
  obtain ⟨A3, hA3⟩ : ∃ A3, A3 = sfA A c (pn n most) := ⟨_, rfl⟩
  obtain ⟨p, hp⟩ : ∃ p, p = pn n most := ⟨_, rfl⟩
  rw [← hA3]
  rw [← hp] at hA3 ⊢
  have HA3 := Aside0.mk hA3
  unfold qd
  by_cases h1 : (n : Int) < most
  · have d1 : decide ((n : Int) < most) = true := decide_eq_true h1
    have d2 : decide ((n : Int) < 0) = false := decide_eq_false (by omega)
    have hpX : p = ((n : Int)).toNat := by rw [hp]; unfold pn; omega
    have hc1 := cut_to (P := Tryd.prog) 45 59 .i64 Tryd.underlying45 hii A n c ((n : Int)) (by omega) (by omega) hc
    have hc2 := cut_from (P := Tryd.prog) 45 59 .i64 Tryd.underlying45 hii 7 hsz A n c ((n : Int)) (by omega) (by omega)
    rw [← hpX] at hc1 hc2
    rw [show (if c = p then A else A.map (·.add (p * 7))) = A3 from hA3.symm] at hc2
    clear hA3 hp hpX h1
    go_enter Tryd.func20, Tryd.ntmps20
    go_wp2_with (first
      | ((with_reducible refine gate_dst (N := 2) rfl ?_); refine box_event ?hg (N := 2) ?hd (cs := (qd rm (.slice A n c) (.slice AO nO cO))) (t := 48) ?hr ?_; (case hd => rfl); (case hg => rfl); (case hr => first | (go_simp; done) | (go_simp; rfl)); intro g1 hg1 w1 kg1 bg1; have Gg1 := Aside0.mk hg1; clear hg1; have HK1 := Aside0.mk kg1; have HB1 := Aside0.mk bg1; clear kg1 bg1)
      | ((with_reducible refine gate_dst (N := 4) rfl ?_); refine box_event ?hg (N := 4) ?hd (cs := (qd 0 (.slice none 0 0) (.slice none 0 0))) (t := 48) ?hr ?_; (case hd => rfl); (case hg => rfl); (case hr => first | (go_simp; done) | (go_simp; rfl)); intro g2 hg2 w2 kg2 bg2; have Gg2 := Aside0.mk hg2; clear hg2; have HK2 := Aside0.mk kg2; have HK1' := Aside0.mk (keepB HK1.out bg2); have HB2 := Aside0.mk (HB1.out.trans (bg2.mono HB1.out.size)); have HN := Aside0.mk (show g2 ≠ g1 from fun e => by have h1 := blk_lt HK1.out; have h2 := Gg2.out; omega); have p1 := (blk_cell HK1'.out 1).trans (show (qd rm (.slice A n c) (.slice AO nO cO))[1]? = some (.slice A n c) from rfl); have f1 := blk_frozen HK1'.out 1; clear kg2 bg2)
      | ((with_reducible refine gate_dst (N := 28) rfl ?_); refine wpList_load_row rfl 48 (.tmp 2) rfl g1 rfl 48 _ (0, 0) _ (show (w2.setCell ⟨g1, 1, none⟩ (.slice A3 (n - p) (c - p))).heap[g1]? = some (.cells (qd rm (.slice A3 (n - p) (c - p)) (.slice AO nO cO)) 48 (0, 0)) from blk_set HK1'.out 1 _) Tryd.underlying48 rfl info48s ?_)
      | ((with_reducible refine gate_store (t := 48) (p := 4) rfl ?_); refine wpList_store_row rfl 48 (.tmp 4) (.tmp 28) rfl g2 (qd rm (.slice A3 (n - p) (c - p)) (.slice AO nO cO)) rfl rfl 48 (qd 0 (.slice none 0 0) (.slice none 0 0)) ((Below.heap_setCell w2 ⟨g1, 1, none⟩ (.slice A3 (n - p) (c - p)) g2 HN.out).trans HK2.out) info48s rfl (by unfold qd; rw [List.all_toArray]; rfl) ?_))
    refine bodyPost_ret (results_ct rfl _ _ g2 48 (qd rm (.slice A3 (n - p) (c - p)) (.slice AO nO cO)) (0, 0) _ rfl (setRow_heap _ _ _ _ _ _ ((Below.heap_setCell w2 ⟨g1, 1, none⟩ (.slice A3 (n - p) (c - p)) g2 HN.out).trans HK2.out)) Tryd.underlying48 rfl info48s) rfl ?_
    exact ⟨rfl, below_setRow (below_cell HB2.out (p := ⟨g1, 1, none⟩) (Nat.le_of_eq Gg1.out.symm) _) (Nat.le_trans HB1.out.size (Nat.le_of_eq Gg2.out.symm)) _⟩
  · have d1 : decide ((n : Int) < most) = false := decide_eq_false h1
    by_cases h2 : most < 0
    · have d2 : decide (most < 0) = true := decide_eq_true h2

      have hpX : p = ((0 : Int)).toNat := by rw [hp]; unfold pn; omega
      have hc1 := cut_to (P := Tryd.prog) 45 59 .i64 Tryd.underlying45 hii A n c ((0 : Int)) (by omega) (by omega) hc
      have hc2 := cut_from (P := Tryd.prog) 45 59 .i64 Tryd.underlying45 hii 7 hsz A n c ((0 : Int)) (by omega) (by omega)
      rw [← hpX] at hc1 hc2
      rw [show (if c = p then A else A.map (·.add (p * 7))) = A3 from hA3.symm] at hc2
      clear hA3 hp hpX h1 h2
      go_enter Tryd.func20, Tryd.ntmps20
      go_wp2_with (first
        | ((with_reducible refine gate_dst (N := 2) rfl ?_); refine box_event ?hg (N := 2) ?hd (cs := (qd rm (.slice A n c) (.slice AO nO cO))) (t := 48) ?hr ?_; (case hd => rfl); (case hg => rfl); (case hr => first | (go_simp; done) | (go_simp; rfl)); intro g1 hg1 w1 kg1 bg1; have Gg1 := Aside0.mk hg1; clear hg1; have HK1 := Aside0.mk kg1; have HB1 := Aside0.mk bg1; clear kg1 bg1)
        | ((with_reducible refine gate_dst (N := 4) rfl ?_); refine box_event ?hg (N := 4) ?hd (cs := (qd 0 (.slice none 0 0) (.slice none 0 0))) (t := 48) ?hr ?_; (case hd => rfl); (case hg => rfl); (case hr => first | (go_simp; done) | (go_simp; rfl)); intro g2 hg2 w2 kg2 bg2; have Gg2 := Aside0.mk hg2; clear hg2; have HK2 := Aside0.mk kg2; have HK1' := Aside0.mk (keepB HK1.out bg2); have HB2 := Aside0.mk (HB1.out.trans (bg2.mono HB1.out.size)); have HN := Aside0.mk (show g2 ≠ g1 from fun e => by have h1 := blk_lt HK1.out; have h2 := Gg2.out; omega); have p1 := (blk_cell HK1'.out 1).trans (show (qd rm (.slice A n c) (.slice AO nO cO))[1]? = some (.slice A n c) from rfl); have f1 := blk_frozen HK1'.out 1; clear kg2 bg2)
        | ((with_reducible refine gate_dst (N := 28) rfl ?_); refine wpList_load_row rfl 48 (.tmp 2) rfl g1 rfl 48 _ (0, 0) _ (show (w2.setCell ⟨g1, 1, none⟩ (.slice A3 (n - p) (c - p))).heap[g1]? = some (.cells (qd rm (.slice A3 (n - p) (c - p)) (.slice AO nO cO)) 48 (0, 0)) from blk_set HK1'.out 1 _) Tryd.underlying48 rfl info48s ?_)
        | ((with_reducible refine gate_store (t := 48) (p := 4) rfl ?_); refine wpList_store_row rfl 48 (.tmp 4) (.tmp 28) rfl g2 (qd rm (.slice A3 (n - p) (c - p)) (.slice AO nO cO)) rfl rfl 48 (qd 0 (.slice none 0 0) (.slice none 0 0)) ((Below.heap_setCell w2 ⟨g1, 1, none⟩ (.slice A3 (n - p) (c - p)) g2 HN.out).trans HK2.out) info48s rfl (by unfold qd; rw [List.all_toArray]; rfl) ?_))
      refine bodyPost_ret (results_ct rfl _ _ g2 48 (qd rm (.slice A3 (n - p) (c - p)) (.slice AO nO cO)) (0, 0) _ rfl (setRow_heap _ _ _ _ _ _ ((Below.heap_setCell w2 ⟨g1, 1, none⟩ (.slice A3 (n - p) (c - p)) g2 HN.out).trans HK2.out)) Tryd.underlying48 rfl info48s) rfl ?_
      exact ⟨rfl, below_setRow (below_cell HB2.out (p := ⟨g1, 1, none⟩) (Nat.le_of_eq Gg1.out.symm) _) (Nat.le_trans HB1.out.size (Nat.le_of_eq Gg2.out.symm)) _⟩
    · have d2 : decide (most < 0) = false := decide_eq_false h2
      have hmb : most ≤ 1000000 := by omega
      have hpX : p = (most).toNat := by rw [hp]; unfold pn; omega
      have hc1 := cut_to (P := Tryd.prog) 45 59 .i64 Tryd.underlying45 hii A n c (most) (by omega) (by omega) hc
      have hc2 := cut_from (P := Tryd.prog) 45 59 .i64 Tryd.underlying45 hii 7 hsz A n c (most) (by omega) (by omega)
      rw [← hpX] at hc1 hc2
      rw [show (if c = p then A else A.map (·.add (p * 7))) = A3 from hA3.symm] at hc2
      clear hA3 hp hpX h1 h2
      go_enter Tryd.func20, Tryd.ntmps20
      go_wp2_with (first
        | ((with_reducible refine gate_dst (N := 2) rfl ?_); refine box_event ?hg (N := 2) ?hd (cs := (qd rm (.slice A n c) (.slice AO nO cO))) (t := 48) ?hr ?_; (case hd => rfl); (case hg => rfl); (case hr => first | (go_simp; done) | (go_simp; rfl)); intro g1 hg1 w1 kg1 bg1; have Gg1 := Aside0.mk hg1; clear hg1; have HK1 := Aside0.mk kg1; have HB1 := Aside0.mk bg1; clear kg1 bg1)
        | ((with_reducible refine gate_dst (N := 4) rfl ?_); refine box_event ?hg (N := 4) ?hd (cs := (qd 0 (.slice none 0 0) (.slice none 0 0))) (t := 48) ?hr ?_; (case hd => rfl); (case hg => rfl); (case hr => first | (go_simp; done) | (go_simp; rfl)); intro g2 hg2 w2 kg2 bg2; have Gg2 := Aside0.mk hg2; clear hg2; have HK2 := Aside0.mk kg2; have HK1' := Aside0.mk (keepB HK1.out bg2); have HB2 := Aside0.mk (HB1.out.trans (bg2.mono HB1.out.size)); have HN := Aside0.mk (show g2 ≠ g1 from fun e => by have h1 := blk_lt HK1.out; have h2 := Gg2.out; omega); have p1 := (blk_cell HK1'.out 1).trans (show (qd rm (.slice A n c) (.slice AO nO cO))[1]? = some (.slice A n c) from rfl); have f1 := blk_frozen HK1'.out 1; clear kg2 bg2)
        | ((with_reducible refine gate_dst (N := 28) rfl ?_); refine wpList_load_row rfl 48 (.tmp 2) rfl g1 rfl 48 _ (0, 0) _ (show (w2.setCell ⟨g1, 1, none⟩ (.slice A3 (n - p) (c - p))).heap[g1]? = some (.cells (qd rm (.slice A3 (n - p) (c - p)) (.slice AO nO cO)) 48 (0, 0)) from blk_set HK1'.out 1 _) Tryd.underlying48 rfl info48s ?_)
        | ((with_reducible refine gate_store (t := 48) (p := 4) rfl ?_); refine wpList_store_row rfl 48 (.tmp 4) (.tmp 28) rfl g2 (qd rm (.slice A3 (n - p) (c - p)) (.slice AO nO cO)) rfl rfl 48 (qd 0 (.slice none 0 0) (.slice none 0 0)) ((Below.heap_setCell w2 ⟨g1, 1, none⟩ (.slice A3 (n - p) (c - p)) g2 HN.out).trans HK2.out) info48s rfl (by unfold qd; rw [List.all_toArray]; rfl) ?_))
      refine bodyPost_ret (results_ct rfl _ _ g2 48 (qd rm (.slice A3 (n - p) (c - p)) (.slice AO nO cO)) (0, 0) _ rfl (setRow_heap _ _ _ _ _ _ ((Below.heap_setCell w2 ⟨g1, 1, none⟩ (.slice A3 (n - p) (c - p)) g2 HN.out).trans HK2.out)) Tryd.underlying48 rfl info48s) rfl ?_
      exact ⟨rfl, below_setRow (below_cell HB2.out (p := ⟨g1, 1, none⟩) (Nat.le_of_eq Gg1.out.symm) _) (Nat.le_trans HB1.out.size (Nat.le_of_eq Gg2.out.symm)) _⟩
/-- A row of the document's, its elements one behind the other. -/
def DRow (w : World) (A : Option Addr) (n : Nat) (xs : List S59) : Prop := ReadsRow (k59.M w 0 (fun _ => True)) 7 w A n xs
theorem DRow.of_R {w : World} {A : Option Addr} {n c : Nat} {xs : List S59} (h : k59.R 59 w 0 (fun _ => True) (.slice A n c) xs) : n = xs.length ∧ n ≤ c ∧ DRow w A xs.length xs := by
  obtain ⟨A', c', e, hc, hr⟩ := h.2.reads
  injection e with e1 e2 e3
  subst e1 e2 e3
  exact ⟨rfl, hc, hr.1, hr.2.1, fun hn => by
    obtain ⟨ad, e, hcell⟩ := hr.2.2 hn
    exact ⟨ad, e, fun j p hp => by
      obtain ⟨cs, a, b, c⟩ := hcell j p hp
      exact ⟨cs, a, k59.M_mono (fun k hk => hk.1) b, c⟩⟩⟩
theorem DRow.C {w : World} {A : Option Addr} {n : Nat} {xs : List S59} (h : DRow w A n xs) : k59.C w A n xs :=
  ⟨h.1, h.2.1, fun hn => by
    obtain ⟨ad, e, hcell⟩ := h.2.2 hn
    exact ⟨ad, e, fun j p hp => by
      obtain ⟨cs, a, b, c⟩ := hcell j p hp
      exact ⟨cs, a, k59.K_of_M b, c⟩⟩⟩
theorem DRow.drop {w : World} {A : Option Addr} {xs : List S59} {m c : Nat} (h : DRow w A xs.length xs) (hm : m ≤ xs.length) (hc : xs.length ≤ c) : DRow w (sfA A c m) (xs.drop m).length (xs.drop m) := by
  unfold sfA
  have hl : (xs.drop m).length = xs.length - m := List.length_drop
  refine ⟨rfl, by rw [hl]; have := h.2.1; omega, fun hp => ?_⟩
  rw [hl] at hp
  obtain ⟨ad, rfl, hcell⟩ := h.2.2 (by omega)
  rw [if_neg (by omega)]
  refine ⟨ad.add (m * 7), rfl, fun j p hj => ?_⟩
  rw [List.getElem?_drop] at hj
  obtain ⟨cs, h1, h2, h3⟩ := hcell (m + j) p hj
  refine ⟨cs, h1, h2, fun i u hu => ?_⟩
  rw [add_add, show m * 7 + (j * 7 + i) = (m + j) * 7 + i by rw [Nat.add_mul]; omega]
  exact h3 i u hu
theorem DRow.below {w w' : World} {A : Option Addr} {n : Nat} {xs : List S59} (h : DRow w A n xs) (hb : Below w.heap.size w w') : DRow w' A n xs :=
  ReadsRow.imp_ h hb (fun p c hp => Kd.M_step hp (fun k _ hlt => hb.block k hlt))
theorem DRow.elem {w : World} {A : Option Addr} {n : Nat} {xs : List S59} (h : DRow w A n xs) (i : Nat) (hi : i < n) :
    ∃ ad A6 c6, A = some ad ∧ w.cell? (ad.add (i * 7)) = some (.int .i64 (rd_T59 xs i).f0) ∧ w.cell? ⟨(ad.add (i * 7)).block, (ad.add (i * 7)).off + 1, none⟩ = some (.string (rd_T59 xs i).f1) ∧ w.cell? ⟨(ad.add (i * 7)).block, (ad.add (i * 7)).off + 2, none⟩ = some (.int .i64 (rd_T59 xs i).f2.f0.f0) ∧ w.cell? ⟨(ad.add (i * 7)).block, (ad.add (i * 7)).off + 3, none⟩ = some (.int .i64 (rd_T59 xs i).f2.f0.f1) ∧ w.cell? ⟨(ad.add (i * 7)).block, (ad.add (i * 7)).off + 4, none⟩ = some (.int .i64 (rd_T59 xs i).f2.f0.f2) ∧ w.cell? ⟨(ad.add (i * 7)).block, (ad.add (i * 7)).off + 5, none⟩ = some (.string (rd_T59 xs i).f2.f1) ∧ w.cell? ⟨(ad.add (i * 7)).block, (ad.add (i * 7)).off + 6, none⟩ = some (.slice A6 (rd_T59 xs i).f2.f2.length c6) ∧ k104.R 104 w 0 (fun _ => True) (.slice A6 (rd_T59 xs i).f2.f2.length c6) (rd_T59 xs i).f2.f2 := by
  obtain ⟨hl, _, h2⟩ := h
  obtain ⟨ad, e, hcell⟩ := h2 (by omega)
  have hx : xs[i]? = some (rd_T59 xs (i : Int)) := by
    unfold rd_T59
    rw [Int.toNat_natCast, List.getD_eq_getElem?_getD, List.getElem?_eq_getElem (by omega)]
    rfl
  obtain ⟨cs, _, hM, hc0⟩ := hcell i _ hx
  have hc : ∀ j u, cs[j]? = some u → w.cell? (ad.add (i * 7 + j)) = some u := hc0
  obtain ⟨v6, rfl, g6⟩ := k59_openM hM
  obtain ⟨A6, c6, rfl⟩ := Kd.R_slice g6
  exact ⟨ad, A6, c6, e, hc 0 _ rfl, by rw [← add_field _ _ 1 (by omega)]; exact hc 1 _ rfl, by rw [← add_field _ _ 2 (by omega)]; exact hc 2 _ rfl, by rw [← add_field _ _ 3 (by omega)]; exact hc 3 _ rfl, by rw [← add_field _ _ 4 (by omega)]; exact hc 4 _ rfl, by rw [← add_field _ _ 5 (by omega)]; exact hc 5 _ rfl, by rw [← add_field _ _ 6 (by omega)]; exact hc 6 _ rfl, g6⟩
/-- The cells of what is given, as the document has it. -/
def xc (x : S59) (v : Value) : Array Value := #[.int .i64 x.f0, .string x.f1, .int .i64 x.f2.f0.f0, .int .i64 x.f2.f0.f1, .int .i64 x.f2.f0.f2, .string x.f2.f1, v]
theorem info3p : (Tryd.prog.info? 3).map (fun i => (i.zero, i.size, i.bytes)) = some (some (.int .i64 0), (Kd.int .i64).sz, 8) := by kernel_rfl
theorem rd59 (l : List S59) (i : Nat) (h : i < l.length) : rd_T59 l (i : Int) = l[i] := by
  unfold rd_T59
  rw [Int.toNat_natCast, List.getD_eq_getElem?_getD, List.getElem?_eq_getElem h]
  rfl
theorem take_one {α : Type} (l : List α) (i : Nat) (h : i < l.length) : l.take (i + 1) = l.take i ++ [l[i]] := by
  rw [List.take_add_one, List.getElem?_eq_getElem h]
  rfl
set_option maxHeartbeats 8000000 in
theorem offer18_no {w : World} (rm : Int) {A AO Ag : Option Addr} {n c nO cO cg : Nat} {L : List S59} {os : List Int} (x : S59) (hD : DRow w A n L) (hn : L.length = n) (hc : n ≤ c) (hnl : n ≤ 1000000) (hO : (Kd.int .i64).C w AO nO os) (hno : os.length = nO) (hcO : nO ≤ cO) (hnol : nO ≤ 1000000) (hg : k104.R 104 w 0 (fun _ => True) (.slice Ag x.f2.f2.length cg) x.f2.f2) (may : Bool) (hmay : ∀ w' : World, Below w.heap.size w w' → Calls Tryd.prog 31 #[.agg (xc x (.slice Ag x.f2.f2.length cg))] w' fun e w'' => e = .returned (.bool may) ∧ Below w'.heap.size w' w'') (hm : may = false) :
    Calls Tryd.prog 18 #[.agg (qd rm (.slice A n c) (.slice AO nO cO)), .agg (xc x (.slice Ag x.f2.f2.length cg))] w fun e w' => e = .returned (.tuple #[.agg (qd rm (.slice A n c) (.slice AO nO cO)), .int .i64 1]) ∧ Below w.heap.size w w' := by
  have hu48 := Tryd.underlying48
  have hu59 := Tryd.underlying59
  have HM := Aside0.mk hmay
  clear hmay hD hO hg hn hno
  rw [hm] at HM
  clear hm
  unfold qd xc
  go_enter Tryd.func18, Tryd.ntmps18
  go_wp2_with (first
    | ((with_reducible refine gate_dst (N := 2) rfl ?_); refine box_event ?hg (N := 2) ?hd (cs := (qd rm (.slice A n c) (.slice AO nO cO))) (t := 48) ?hr ?_; (case hd => rfl); (case hg => rfl); (case hr => first | (go_simp; done) | (go_simp; rfl)); intro g1 hg1 w1 kg1 bg1; have Gg1 := Aside0.mk hg1; clear hg1; have HK1 := Aside0.mk kg1; have HB1 := Aside0.mk bg1; clear kg1 bg1)
    | ((with_reducible refine gate_dst (N := 3) rfl ?_); refine box_event ?hg (N := 3) ?hd (cs := (xc x (.slice Ag x.f2.f2.length cg))) (t := 59) ?hr ?_; (case hd => rfl); (case hg => rfl); (case hr => first | (go_simp; done) | (go_simp; rfl)); intro g3 hg3 w2 kg3 bg3; have Gg3 := Aside0.mk hg3; clear hg3; have HK3 := Aside0.mk kg3; have HK1' := Aside0.mk (keepB HK1.out bg3); have HB2 := Aside0.mk (HB1.out.trans (bg3.mono HB1.out.size)); have HN31 := Aside0.mk (show g3 ≠ g1 from fun e => by have h1 := blk_lt HK1.out; have h2 := Gg3.out; omega); clear kg3 bg3)
    | ((with_reducible refine gate_dst (N := 4) rfl ?_); refine box_event ?hg (N := 4) ?hd (cs := (qd 0 (.slice none 0 0) (.slice none 0 0))) (t := 48) ?hr ?_; (case hd => rfl); (case hg => rfl); (case hr => first | (go_simp; done) | (go_simp; rfl)); intro g2 hg2 w3 kg2 bg2; have Gg2 := Aside0.mk hg2; clear hg2; have HK2 := Aside0.mk kg2; have HK1'' := Aside0.mk (keepB HK1'.out bg2); have HK3' := Aside0.mk (keepB HK3.out bg2); have HB3 := Aside0.mk (HB2.out.trans (bg2.mono HB2.out.size)); have HN := Aside0.mk (show g2 ≠ g1 ∧ g2 ≠ g3 from ⟨fun e => by have h1 := blk_lt HK1'.out; have h2 := Gg2.out; omega, fun e => by have h1 := blk_lt HK3.out; have h2 := Gg2.out; omega⟩); clear kg2 bg2)
    | ((with_reducible refine gate_dst (N := 10) rfl ?_); refine wpList_load_row rfl 59 (.tmp 3) rfl g3 rfl 59 _ (0, 0) _ HK3'.out Tryd.underlying59 rfl info59s ?_)
    | ((with_reducible refine gate_dst (N := 11) rfl ?_); refine goesL_ (some 11) rfl rfl Tryd.func31 (by kernel_rfl) rfl #[.agg (xc x (.slice Ag x.f2.f2.length cg))] rfl (by first | (simp only [List.map_toArray, List.map_cons, List.map_nil]; rfl) | rfl) ?_; refine (HM.out _ HB3.out).mono ?_; rintro e w4 ⟨rfl, hb⟩; have HB4 := Aside0.mk (HB3.out.trans (hb.mono HB3.out.size)); have HK1 := Aside0.mk (keepB HK1''.out hb); have HK3 := Aside0.mk (keepB HK3'.out hb); have HK2' := Aside0.mk (keepB HK2.out hb); clear hb; refine ⟨_, rfl, ?_⟩)
    | ((with_reducible refine gate_dst (N := 13) rfl ?_); refine wpList_load_row rfl 48 (.tmp 2) rfl g1 rfl 48 _ (0, 0) _ HK1.out Tryd.underlying48 rfl info48s ?_)
    | ((with_reducible refine gate_store (t := 48) (p := 4) rfl ?_); refine wpList_store_row rfl 48 (.tmp 4) (.tmp 13) rfl g2 (qd rm (.slice A n c) (.slice AO nO cO)) rfl rfl 48 (qd 0 (.slice none 0 0) (.slice none 0 0)) HK2'.out info48s rfl (by unfold qd; rw [List.all_toArray]; rfl) ?_))
  refine bodyPost_ret (results_ct rfl _ _ g2 48 (qd rm (.slice A n c) (.slice AO nO cO)) (0, 0) _ rfl (setRow_heap _ _ _ _ _ _ HK2'.out) Tryd.underlying48 rfl info48s) rfl ?_
  exact ⟨rfl, below_setRow HB4.out (Nat.le_trans HB2.out.size (Nat.le_of_eq Gg2.out.symm)) _⟩
set_option maxHeartbeats 8000000 in
theorem offer18_full {w : World} (rm : Int) {A AO Ag : Option Addr} {n c nO cO cg : Nat} {L : List S59} {os : List Int} (x : S59) (hD : DRow w A n L) (hn : L.length = n) (hc : n ≤ c) (hnl : n ≤ 1000000) (hO : (Kd.int .i64).C w AO nO os) (hno : os.length = nO) (hcO : nO ≤ cO) (hnol : nO ≤ 1000000) (hg : k104.R 104 w 0 (fun _ => True) (.slice Ag x.f2.f2.length cg) x.f2.f2) (may : Bool) (hmay : ∀ w' : World, Below w.heap.size w w' → Calls Tryd.prog 31 #[.agg (xc x (.slice Ag x.f2.f2.length cg))] w' fun e w'' => e = .returned (.bool may) ∧ Below w'.heap.size w' w'') (hm : may = true) (hf : rm ≤ (n : Int)) :
    Calls Tryd.prog 18 #[.agg (qd rm (.slice A n c) (.slice AO nO cO)), .agg (xc x (.slice Ag x.f2.f2.length cg))] w fun e w' => ∃ Av cv, e = .returned (.tuple #[.agg (qd rm (.slice A n c) (.slice Av (nO + 1) cv)), .int .i64 6]) ∧ (Kd.int .i64).R 3 w' 0 (fun _ => True) (.slice Av (nO + 1) cv) (os ++ [x.f0]) ∧ Below w.heap.size w w' := by
  have hu48 := Tryd.underlying48
  have hu59 := Tryd.underlying59
  have HM := Aside0.mk hmay
  have HO := Aside0.mk hO
  have HNO := Aside0.mk hno
  have d1 : decide (rm ≤ (n : Int)) = true := decide_eq_true hf
  clear hmay hD hO hg hn hno hf
  rw [hm] at HM
  clear hm
  unfold qd xc
  go_enter Tryd.func18, Tryd.ntmps18
  go_wp2_with (first
    | ((with_reducible refine gate_dst (N := 2) rfl ?_); refine box_event ?hg (N := 2) ?hd (cs := (qd rm (.slice A n c) (.slice AO nO cO))) (t := 48) ?hr ?_; (case hd => rfl); (case hg => rfl); (case hr => first | (go_simp; done) | (go_simp; rfl)); intro g1 hg1 w1 kg1 bg1; have Gg1 := Aside0.mk hg1; clear hg1; have HK1 := Aside0.mk kg1; have HB1 := Aside0.mk bg1; clear kg1 bg1)
    | ((with_reducible refine gate_dst (N := 3) rfl ?_); refine box_event ?hg (N := 3) ?hd (cs := (xc x (.slice Ag x.f2.f2.length cg))) (t := 59) ?hr ?_; (case hd => rfl); (case hg => rfl); (case hr => first | (go_simp; done) | (go_simp; rfl)); intro g3 hg3 w2 kg3 bg3; have Gg3 := Aside0.mk hg3; clear hg3; have HK3 := Aside0.mk kg3; have HK1' := Aside0.mk (keepB HK1.out bg3); have HB2 := Aside0.mk (HB1.out.trans (bg3.mono HB1.out.size)); have HN31 := Aside0.mk (show g3 ≠ g1 from fun e => by have h1 := blk_lt HK1.out; have h2 := Gg3.out; omega); clear kg3 bg3)
    | ((with_reducible refine gate_dst (N := 4) rfl ?_); refine box_event ?hg (N := 4) ?hd (cs := (qd 0 (.slice none 0 0) (.slice none 0 0))) (t := 48) ?hr ?_; (case hd => rfl); (case hg => rfl); (case hr => first | (go_simp; done) | (go_simp; rfl)); intro g2 hg2 w3 kg2 bg2; have Gg2 := Aside0.mk hg2; clear hg2; have HK2 := Aside0.mk kg2; have HK1'' := Aside0.mk (keepB HK1'.out bg2); have HK3' := Aside0.mk (keepB HK3.out bg2); have HB3 := Aside0.mk (HB2.out.trans (bg2.mono HB2.out.size)); have HN := Aside0.mk (show g2 ≠ g1 ∧ g2 ≠ g3 from ⟨fun e => by have h1 := blk_lt HK1'.out; have h2 := Gg2.out; omega, fun e => by have h1 := blk_lt HK3.out; have h2 := Gg2.out; omega⟩); clear kg2 bg2)
    | ((with_reducible refine gate_dst (N := 10) rfl ?_); refine wpList_load_row rfl 59 (.tmp 3) rfl g3 rfl 59 _ (0, 0) _ HK3'.out Tryd.underlying59 rfl info59s ?_)
    | ((with_reducible refine gate_dst (N := 11) rfl ?_); refine goesL_ (some 11) rfl rfl Tryd.func31 (by kernel_rfl) rfl #[.agg (xc x (.slice Ag x.f2.f2.length cg))] rfl (by first | (simp only [List.map_toArray, List.map_cons, List.map_nil]; rfl) | rfl) ?_; refine (HM.out _ HB3.out).mono ?_; rintro e w4 ⟨rfl, hb⟩; have HB4 := Aside0.mk (HB3.out.trans (hb.mono HB3.out.size)); have HK1 := Aside0.mk (keepB HK1''.out hb); have HK3 := Aside0.mk (keepB HK3'.out hb); have HK2' := Aside0.mk (keepB HK2.out hb); clear hb; have p0 := (blk_cell HK1.out 0).trans (show (qd rm (.slice A n c) (.slice AO nO cO))[0]? = some (.int .i64 rm) from rfl); have p1 := (blk_cell HK1.out 1).trans (show (qd rm (.slice A n c) (.slice AO nO cO))[1]? = some (.slice A n c) from rfl); refine ⟨_, rfl, ?_⟩))
  clear p0 p1 d1
  have HBs := Aside0.mk (show w.heap.size ≤ g1 ∧ w.heap.size ≤ g3 ∧ w.heap.size ≤ g2 from ⟨Nat.le_of_eq Gg1.out.symm, Nat.le_trans HB1.out.size (Nat.le_of_eq Gg3.out.symm), Nat.le_trans HB2.out.size (Nat.le_of_eq Gg2.out.symm)⟩)
  go_loopg [6, 7] nO (fun kq v6 v7 w' => ∃ i : Nat, v7 = .int .i64 i ∧ Aside0 (i + kq = nO) ∧ Aside0 ((Kd.int .i64).R 3 w' w4.heap.size (fun _ => True) v6 (os.take i)) ∧ Aside0 (Below w4.heap.size w4 w'))
  case atStart => exact ⟨0, rfl, ⟨by omega⟩, ⟨Kd.R_nil _ _ _ _ _⟩, ⟨Below.refl _ _⟩⟩
  case round =>
    obtain ⟨i, rfl, HI, HR, HB⟩ := hrel
    have hi := HI.out
    have p2 := (blk_cell (keepB HK1.out HB.out) 2).trans (show (qd rm (.slice A n c) (.slice AO nO cO))[2]? = some (.slice AO nO cO) from rfl)
    have hne : ∀ k, u6.ownBlock = some k → w4.heap.size ≤ k := fun k hk => by obtain ⟨inner, hi⟩ := Kd.R_own HR.out; exact own_base hi k hk
    have HNE := Aside0.mk hne
    clear hne
    cases gk with
    | zero =>
      have d2 : decide ((i : Int) < (nO : Int)) = false := decide_eq_false (by omega)
      have d3 : decide (i < nO) = false := decide_eq_false (by omega)
      have q0 := (blk_cell (keepB HK3.out HB.out) 0).trans (show (xc x (.slice Ag x.f2.f2.length cg))[0]? = some (.int .i64 x.f0) from rfl)
      go_wp2_with (first
        | ((with_reducible refine gate_dst (N := 39) rfl ?_); at_builtin; refine Kd.R_append (Kd.int .i64) (w0 := wr) w4.heap.size rfl (.tmp 35) (.tmp 38) 46 3 _ 8 rfl Tryd.underlying46 info3p rfl (by decide) (by omega) u6 (os.take i) x.f0 [.int .i64 x.f0] (fun _ => True) (fun k => False) rfl rfl rfl (fun k hk => hk.elim) (fun _ _ => trivial) HR.out (Below.refl _ _) HB.out.size (by rw [List.length_take]; omega) ?_; intro v7 W7 hr7 hb7 hg7 hat7; rw [List.take_of_length_le (by have := HNO.out; omega)] at hr7; obtain ⟨Av, cv, rfl, _, hr7⟩ := R_named (n := nO + 1) hr7 (by rw [List.length_append, HNO.out]; rfl); have HR7 := Aside0.mk hr7; have HB7 := Aside0.mk (Mods.below (F := fun k => w4.heap.size ≤ k) ((Mods.of_below HB.out).grown hg7 (fun k hk => .inl (HNE.out k hk))) (Nat.le_refl _) (fun _ h => h)); clear hr7 hb7 hg7 hat7; have HK17 := Aside0.mk (keepB HK1.out HB7.out); have HK27 := Aside0.mk (keepB HK2'.out HB7.out); have p2 := (blk_cell HK17.out 2).trans (show (qd rm (.slice A n c) (.slice AO nO cO))[2]? = some (.slice AO nO cO) from rfl); have f2 := blk_frozen HK17.out 2)
        | ((with_reducible refine gate_dst (N := 42) rfl ?_); refine wpList_load_row rfl 48 (.tmp 2) rfl g1 rfl 48 _ (0, 0) _ (show (W7.setCell ⟨g1, 2, none⟩ (.slice Av (nO + 1) cv)).heap[g1]? = some (.cells (qd rm (.slice A n c) (.slice Av (nO + 1) cv)) 48 (0, 0)) from blk_set HK17.out 2 _) Tryd.underlying48 rfl info48s ?_)
        | ((with_reducible refine gate_store (t := 48) (p := 4) rfl ?_); refine wpList_store_row rfl 48 (.tmp 4) (.tmp 42) rfl g2 (qd rm (.slice A n c) (.slice Av (nO + 1) cv)) rfl rfl 48 (qd 0 (.slice none 0 0) (.slice none 0 0)) ((Below.heap_setCell W7 ⟨g1, 2, none⟩ (.slice Av (nO + 1) cv) g2 HN.out.1).trans HK27.out) info48s rfl (by unfold qd; rw [List.all_toArray]; rfl) ?_))
      refine bodyPost_ret (results_ct rfl _ _ g2 48 (qd rm (.slice A n c) (.slice Av (nO + 1) cv)) (0, 0) _ rfl (setRow_heap _ _ _ _ _ _ ((Below.heap_setCell W7 ⟨g1, 2, none⟩ (.slice Av (nO + 1) cv) g2 HN.out.1).trans HK27.out)) Tryd.underlying48 rfl info48s) rfl ?_
      have hb7 := HB4.out.trans (HB7.out.mono HB4.out.size)
      have hr := R_setRow (Kd.R_set (Kd.R_lower HR7.out (Nat.zero_le _)) HK17.out (by decide) 2 (.slice Av (nO + 1) cv)) ((Below.heap_setCell W7 ⟨g1, 2, none⟩ (.slice Av (nO + 1) cv) g2 HN.out.1).trans HK27.out) (by decide) (qd rm (.slice A n c) (.slice Av (nO + 1) cv))
      exact ⟨Av, cv, rfl, hr, below_setRow (below_cell hb7 (p := ⟨g1, 2, none⟩) HBs.out.1 _) HBs.out.2.2 _⟩
    | succ k1 =>
      have d2 : decide ((i : Int) < (nO : Int)) = true := decide_eq_true (by omega)
      have d3 : decide (i < nO) = true := decide_eq_true (by omega)
      have i1 : (0 : Int) ≤ (i : Int) := by omega
      have i2 : (i : Int) < (nO : Int) := by omega
      have hib : i ≤ 1000000 := by omega
      obtain ⟨ad, rfl, z0⟩ := Kd.at_int (Kd.C_below HO.out (HB4.out.trans (HB.out.mono HB4.out.size))) (i : Int) i1 i2
      have HT := Aside0.mk (take_one os i (by have := HNO.out; omega))
      have hrd : rd os (i : Int) = os[i]'(by have := HNO.out; omega) := by
        unfold rd
        rw [Int.toNat_natCast, List.getD_eq_getElem?_getD, List.getElem?_eq_getElem (by have := HNO.out; omega)]
        rfl
      obtain ⟨y, hy⟩ : ∃ y, y = os[i]'(by have := HNO.out; omega) := ⟨_, rfl⟩
      rw [hrd, ← hy] at z0
      rw [← hy] at HT
      rw [Int.toNat_natCast] at z0
      clear hrd hy
      go_wp2_with (first
        | ((with_reducible refine gate_dst (N := 34) rfl ?_); at_builtin; refine Kd.R_append (Kd.int .i64) (w0 := wr) w4.heap.size rfl (.tmp 27) (.tmp 33) 46 3 _ 8 rfl Tryd.underlying46 info3p rfl (by decide) (by omega) u6 (os.take i) y [.int .i64 y] (fun _ => True) (fun k => False) rfl rfl rfl (fun k hk => hk.elim) (fun _ _ => trivial) HR.out (Below.refl _ _) HB.out.size (by rw [List.length_take]; omega) ?_; intro v7 W7 hr7 hb7 hg7 hat7; rw [← HT.out] at hr7; have HR7 := Aside0.mk hr7; have HB7 := Aside0.mk (Mods.below (F := fun k => w4.heap.size ≤ k) ((Mods.of_below HB.out).grown hg7 (fun k hk => .inl (HNE.out k hk))) (Nat.le_refl _) (fun _ h => h)); clear hr7 hb7 hg7 hat7))
      go_roundg k1
      case measure => omega
      case rel => exact ⟨i + 1, rfl, ⟨by omega⟩, HR7, HB7⟩
end Go.Proofs.YtmcochnofkjhaaaDoor.QU
/- The document's Offer, where something comes in. By hand. -/
namespace Go.Proofs.YtmcochnofkjhaaaDoor.QU
open Go.RowKit Go.Proofs.YtmcochnofkjhaaaDoorW.PrintWords Go.Proofs.YtmcochnofkjhaaaDoorW.PrintLast Go.Proofs.YtmcochnofkjhaaaDoorW.PrintMore Go.Proofs.YtmcochnofkjhaaaDoor.PAll
set_option linter.unusedVariables false
set_option linter.unusedSimpArgs false
set_option maxRecDepth 100000
set_option maxHeartbeats 8000000 in
theorem offer18_ok {w : World} (rm : Int) {A AO Ag : Option Addr} {n c nO cO cg : Nat} {L : List S59} {os : List Int} (x : S59) (hD : DRow w A n L) (hn : L.length = n) (hc : n ≤ c) (hnl : n ≤ 1000000) (hO : (Kd.int .i64).C w AO nO os) (hno : os.length = nO) (hcO : nO ≤ cO) (hnol : nO ≤ 1000000) (hg : k104.R 104 w 0 (fun _ => True) (.slice Ag x.f2.f2.length cg) x.f2.f2) (may : Bool) (hmay : ∀ w' : World, Below w.heap.size w w' → Calls Tryd.prog 31 #[.agg (xc x (.slice Ag x.f2.f2.length cg))] w' fun e w'' => e = .returned (.bool may) ∧ Below w'.heap.size w' w'') (hm : may = true) (hf : ¬ rm ≤ (n : Int)) :
    Calls Tryd.prog 18 #[.agg (qd rm (.slice A n c) (.slice AO nO cO)), .agg (xc x (.slice Ag x.f2.f2.length cg))] w fun e w' => ∃ Av cv, e = .returned (.tuple #[.agg (qd rm (.slice Av (n + 1) cv) (.slice AO nO cO)), .int .i64 0]) ∧ k59.R 59 w' 0 (fun _ => True) (.slice Av (n + 1) cv) (L ++ [x]) ∧ Below w.heap.size w w' := by
  have hu48 := Tryd.underlying48
  have hu59 := Tryd.underlying59
  have hu57 := Tryd.underlying57
  have HM := Aside0.mk hmay
  have HD := Aside0.mk hD
  have HG := Aside0.mk hg
  have HNL := Aside0.mk hn
  have d1 : decide (rm ≤ (n : Int)) = false := decide_eq_false hf
  clear hmay hD hO hg hn hno hf
  rw [hm] at HM
  clear hm
  unfold qd xc
  go_enter Tryd.func18, Tryd.ntmps18
  go_wp2_with (first
    | ((with_reducible refine gate_dst (N := 2) rfl ?_); refine box_event ?hg (N := 2) ?hd (cs := (qd rm (.slice A n c) (.slice AO nO cO))) (t := 48) ?hr ?_; (case hd => rfl); (case hg => rfl); (case hr => first | (go_simp; done) | (go_simp; rfl)); intro g1 hg1 w1 kg1 bg1; have Gg1 := Aside0.mk hg1; clear hg1; have HK1 := Aside0.mk kg1; have HB1 := Aside0.mk bg1; clear kg1 bg1)
    | ((with_reducible refine gate_dst (N := 3) rfl ?_); refine box_event ?hg (N := 3) ?hd (cs := (xc x (.slice Ag x.f2.f2.length cg))) (t := 59) ?hr ?_; (case hd => rfl); (case hg => rfl); (case hr => first | (go_simp; done) | (go_simp; rfl)); intro g3 hg3 w2 kg3 bg3; have Gg3 := Aside0.mk hg3; clear hg3; have HK3 := Aside0.mk kg3; have HK1' := Aside0.mk (keepB HK1.out bg3); have HB2 := Aside0.mk (HB1.out.trans (bg3.mono HB1.out.size)); have HN31 := Aside0.mk (show g3 ≠ g1 from fun e => by have h1 := blk_lt HK1.out; have h2 := Gg3.out; omega); clear kg3 bg3)
    | ((with_reducible refine gate_dst (N := 4) rfl ?_); refine box_event ?hg (N := 4) ?hd (cs := (qd 0 (.slice none 0 0) (.slice none 0 0))) (t := 48) ?hr ?_; (case hd => rfl); (case hg => rfl); (case hr => first | (go_simp; done) | (go_simp; rfl)); intro g2 hg2 w3 kg2 bg2; have Gg2 := Aside0.mk hg2; clear hg2; have HK2 := Aside0.mk kg2; have HK1'' := Aside0.mk (keepB HK1'.out bg2); have HK3' := Aside0.mk (keepB HK3.out bg2); have HB3 := Aside0.mk (HB2.out.trans (bg2.mono HB2.out.size)); have HN := Aside0.mk (show g2 ≠ g1 ∧ g2 ≠ g3 from ⟨fun e => by have h1 := blk_lt HK1'.out; have h2 := Gg2.out; omega, fun e => by have h1 := blk_lt HK3.out; have h2 := Gg2.out; omega⟩); clear kg2 bg2)
    | ((with_reducible refine gate_dst (N := 10) rfl ?_); refine wpList_load_row rfl 59 (.tmp 3) rfl g3 rfl 59 _ (0, 0) _ HK3'.out Tryd.underlying59 rfl info59s ?_)
    | ((with_reducible refine gate_dst (N := 11) rfl ?_); refine goesL_ (some 11) rfl rfl Tryd.func31 (by kernel_rfl) rfl #[.agg (xc x (.slice Ag x.f2.f2.length cg))] rfl (by first | (simp only [List.map_toArray, List.map_cons, List.map_nil]; rfl) | rfl) ?_; refine (HM.out _ HB3.out).mono ?_; rintro e w4 ⟨rfl, hb⟩; have HB4 := Aside0.mk (HB3.out.trans (hb.mono HB3.out.size)); have HK1 := Aside0.mk (keepB HK1''.out hb); have HK3 := Aside0.mk (keepB HK3'.out hb); have HK2' := Aside0.mk (keepB HK2.out hb); clear hb; have p0 := (blk_cell HK1.out 0).trans (show (qd rm (.slice A n c) (.slice AO nO cO))[0]? = some (.int .i64 rm) from rfl); have p1 := (blk_cell HK1.out 1).trans (show (qd rm (.slice A n c) (.slice AO nO cO))[1]? = some (.slice A n c) from rfl); refine ⟨_, rfl, ?_⟩))
  clear p0 p1 d1
  have HBs := Aside0.mk (show w.heap.size ≤ g1 ∧ w.heap.size ≤ g3 ∧ w.heap.size ≤ g2 from ⟨Nat.le_of_eq Gg1.out.symm, Nat.le_trans HB1.out.size (Nat.le_of_eq Gg3.out.symm), Nat.le_trans HB2.out.size (Nat.le_of_eq Gg2.out.symm)⟩)
  go_loopg [8, 9] n (fun kq v8 v9 w' => ∃ i : Nat, v9 = .int .i64 i ∧ Aside0 (i + kq = n) ∧ Aside0 (k59.R 59 w' 0 (fun _ => True) v8 (L.take i)) ∧ Aside0 (∀ k, v8.ownBlock = some k → w4.heap.size ≤ k) ∧ Aside0 (Below w4.heap.size w4 w'))
  case atStart => exact ⟨0, rfl, ⟨by omega⟩, ⟨Kd.R_nil _ _ _ _ _⟩, ⟨fun k hk => by simp [Value.ownBlock] at hk⟩, ⟨Below.refl _ _⟩⟩
  case round =>
    obtain ⟨i, rfl, HI, HR, HNE, HB⟩ := hrel
    have hi := HI.out
    have p1 := (blk_cell (keepB HK1.out HB.out) 1).trans (show (qd rm (.slice A n c) (.slice AO nO cO))[1]? = some (.slice A n c) from rfl)
    cases gk with
    | zero =>
      have d2 : decide ((i : Int) < (n : Int)) = false := decide_eq_false (by omega)
      have d3 : decide (i < n) = false := decide_eq_false (by omega)
      have HGw := Aside0.mk (Kd.R_bound HG.out)
      go_wp2_with (first
        | ((with_reducible refine gate_dst (N := 59) rfl ?_); refine wpList_load_row rfl 59 (.tmp 3) rfl g3 rfl 59 _ (0, 0) _ (show wr.heap[g3]? = some (.cells #[.int .i64 x.f0, .string x.f1, .int .i64 x.f2.f0.f0, .int .i64 x.f2.f0.f1, .int .i64 x.f2.f0.f2, .string x.f2.f1, .slice Ag x.f2.f2.length cg] 59 (0, 0)) from keepB HK3.out HB.out) Tryd.underlying59 rfl info59s ?_)
        | ((with_reducible refine gate_dst (N := 61) rfl ?_); at_builtin; refine Kd.R_append k59 (w0 := wr) 0 rfl (.tmp 58) (.tmp 60) 45 59 _ 88 rfl Tryd.underlying45 info59p rfl (by decide) (by omega) u8 (L.take i) x [.int .i64 x.f0, .string x.f1, .int .i64 x.f2.f0.f0, .int .i64 x.f2.f0.f1, .int .i64 x.f2.f0.f2, .string x.f2.f1, .slice Ag x.f2.f2.length cg] (fun _ => True) (fun k => some k ≠ u8.ownBlock) rfl rfl (k59_mkM _ _ _ x (Kd.R_mono (Kd.R_below HGw.out (HB4.out.trans (HB.out.mono HB4.out.size))) (fun k hk e => by have h1 := HNE.out k e.symm; have h2 := hk.2.2.1; have h3 := HB4.out.size; omega))) (fun k hk => ⟨trivial, hk⟩) (fun _ _ => trivial) HR.out (Below.refl _ _) (Nat.zero_le _) (by rw [List.length_take]; omega) ?_; intro v7 W7 hr7 hb7 hg7 hat7; rw [List.take_of_length_le (by have := HNL.out; omega)] at hr7; obtain ⟨Av, cv, rfl, _, hr7⟩ := R_named (n := n + 1) hr7 (by rw [List.length_append, HNL.out]; rfl); have HR7 := Aside0.mk hr7; have HB7 := Aside0.mk (Mods.below (F := fun k => w4.heap.size ≤ k) ((Mods.of_below HB.out).grown hg7 (fun k hk => .inl (HNE.out k hk))) (Nat.le_refl _) (fun _ h => h)); clear hr7 hb7 hg7 hat7; have HK17 := Aside0.mk (keepB HK1.out HB7.out); have HK27 := Aside0.mk (keepB HK2'.out HB7.out); have p1 := (blk_cell HK17.out 1).trans (show (qd rm (.slice A n c) (.slice AO nO cO))[1]? = some (.slice A n c) from rfl); have f1 := blk_frozen HK17.out 1)
        | ((with_reducible refine gate_dst (N := 64) rfl ?_); refine wpList_load_row rfl 48 (.tmp 2) rfl g1 rfl 48 _ (0, 0) _ (show (W7.setCell ⟨g1, 1, none⟩ (.slice Av (n + 1) cv)).heap[g1]? = some (.cells (qd rm (.slice Av (n + 1) cv) (.slice AO nO cO)) 48 (0, 0)) from blk_set HK17.out 1 _) Tryd.underlying48 rfl info48s ?_)
        | ((with_reducible refine gate_store (t := 48) (p := 4) rfl ?_); refine wpList_store_row rfl 48 (.tmp 4) (.tmp 64) rfl g2 (qd rm (.slice Av (n + 1) cv) (.slice AO nO cO)) rfl rfl 48 (qd 0 (.slice none 0 0) (.slice none 0 0)) ((Below.heap_setCell W7 ⟨g1, 1, none⟩ (.slice Av (n + 1) cv) g2 HN.out.1).trans HK27.out) info48s rfl (by unfold qd; rw [List.all_toArray]; rfl) ?_))
      refine bodyPost_ret (results_ct rfl _ _ g2 48 (qd rm (.slice Av (n + 1) cv) (.slice AO nO cO)) (0, 0) _ rfl (setRow_heap _ _ _ _ _ _ ((Below.heap_setCell W7 ⟨g1, 1, none⟩ (.slice Av (n + 1) cv) g2 HN.out.1).trans HK27.out)) Tryd.underlying48 rfl info48s) rfl ?_
      have hb7 := HB4.out.trans (HB7.out.mono HB4.out.size)
      have hr := R_setRow (Kd.R_set HR7.out HK17.out (k59_types (by decide) (by decide)) 1 (.slice Av (n + 1) cv)) ((Below.heap_setCell W7 ⟨g1, 1, none⟩ (.slice Av (n + 1) cv) g2 HN.out.1).trans HK27.out) (k59_types (by decide) (by decide)) (qd rm (.slice Av (n + 1) cv) (.slice AO nO cO))
      exact ⟨Av, cv, rfl, hr, below_setRow (below_cell hb7 (p := ⟨g1, 1, none⟩) HBs.out.1 _) HBs.out.2.2 _⟩
    | succ k1 =>
      have d2 : decide ((i : Int) < (n : Int)) = true := decide_eq_true (by omega)
      have d3 : decide (i < n) = true := decide_eq_true (by omega)
      have i1 : (0 : Int) ≤ (i : Int) := by omega
      have i2 : (i : Int) < (n : Int) := by omega
      have hib : i ≤ 1000000 := by omega
      obtain ⟨ad, A6, c6, rfl, z0, z1, z2, z3, z4, z5, z6, g6⟩ := HD.out.elem i (by omega)
      have hbw := HB4.out.trans (HB.out.mono HB4.out.size)
      replace g6 := Kd.R_mono (Kd.R_below (Kd.R_bound g6) hbw) (fun k hk => (Nat.lt_of_lt_of_le hk.2.2.1 HB4.out.size : k < w4.heap.size))
      replace z0 := cellB hbw z0
      replace z1 := cellB hbw z1
      replace z2 := cellB hbw z2
      replace z3 := cellB hbw z3
      replace z4 := cellB hbw z4
      replace z5 := cellB hbw z5
      replace z6 := cellB hbw z6
      clear hbw
      have HT := Aside0.mk (take_one L i (by have := HNL.out; omega))
      obtain ⟨G, hG⟩ : ∃ G, G = L[i]'(by have := HNL.out; omega) := ⟨_, rfl⟩
      rw [rd59 L i (by have := HNL.out; omega), ← hG] at z0 z1 z2 z3 z4 z5 z6 g6
      rw [← hG] at HT
      have HGo := Aside0.mk g6
      clear hG g6
      go_wp2_with (first
        | ((with_reducible refine gate_dst (N := 57) rfl ?_); at_builtin; refine Kd.R_append k59 (w0 := wr) 0 rfl (.tmp 50) (.tmp 56) 45 59 _ 88 rfl Tryd.underlying45 info59p rfl (by decide) (by omega) u8 (L.take i) G [.int .i64 G.f0, .string G.f1, .int .i64 G.f2.f0.f0, .int .i64 G.f2.f0.f1, .int .i64 G.f2.f0.f2, .string G.f2.f1, .slice A6 G.f2.f2.length c6] (fun _ => True) (fun k => some k ≠ u8.ownBlock) rfl rfl (k59_mkM _ _ _ G (Kd.R_mono (Kd.R_bound (show k104.R 104 wr 0 (fun k => k < w4.heap.size) (.slice A6 G.f2.f2.length c6) G.f2.f2 from HGo.out)) (fun k hk e => by have h1 := HNE.out k e.symm; have h2 := hk.1; omega))) (fun k hk => ⟨trivial, hk⟩) (fun _ _ => trivial) HR.out (Below.refl _ _) (Nat.zero_le _) (by rw [List.length_take]; omega) ?_; intro v7 W7 hr7 hb7 hg7 hat7; rw [← HT.out] at hr7; have HR7 := Aside0.mk hr7; have HB7 := Aside0.mk (Mods.below (F := fun k => w4.heap.size ≤ k) ((Mods.of_below HB.out).grown hg7 (fun k hk => .inl (HNE.out k hk))) (Nat.le_refl _) (fun _ h => h)); have HN7 := Aside0.mk (fun k (hk : v7.ownBlock = some k) => (hat7.elim (fun e => HNE.out k (e ▸ hk)) (fun ⟨b, e, hb⟩ => by rw [e] at hk; injection hk with hk; have := HB.out.size; omega) : w4.heap.size ≤ k)); clear hr7 hb7 hg7 hat7))
      go_roundg k1
      case measure => omega
      case rel => exact ⟨i + 1, rfl, ⟨by omega⟩, HR7, HN7, HB7⟩
end Go.Proofs.YtmcochnofkjhaaaDoor.QU
/- The document's Forget. By hand. -/
namespace Go.Proofs.YtmcochnofkjhaaaDoor.QU
open Go.RowKit Go.Proofs.YtmcochnofkjhaaaDoorW.PrintWords Go.Proofs.YtmcochnofkjhaaaDoorW.PrintLast Go.Proofs.YtmcochnofkjhaaaDoorW.PrintMore Go.Proofs.YtmcochnofkjhaaaDoor.PAll
set_option linter.unusedVariables false
set_option linter.unusedSimpArgs false
set_option maxRecDepth 100000
theorem filt_next {α : Type} (p : α → Bool) (l : List α) (i : Nat) (h : i < l.length) : (l.take (i + 1)).filter p = (l.take i).filter p ++ (if p l[i] then [l[i]] else []) := by
 rw [take_one l i h, List.filter_append]
 congr 1
 simp [List.filter_cons]
theorem filt_len {α : Type} (p : α → Bool) (l : List α) (i : Nat) : ((l.take i).filter p).length ≤ l.length := Nat.le_trans (List.length_filter_le _ _) (by rw [List.length_take]; omega)
theorem R_mods {α : Type} {d : Kd α} {e base g t : Nat} {w w' : World} {ok : Nat → Prop} {v : Value} {xs : List α} {cs : Array Value} (h : d.R e w base ok v xs) (hb : w.heap[g]? = some (.cells cs t (0, 0))) (ht : ∀ q, q ∈ e :: d.E → q ≠ t) (hm : Mods (fun k => k = g) w w') : d.R e w' base ok v xs :=
 Kd.R_mono (Kd.R_step (Kd.R_types h hb ht) (fun k hk hlt => hm.block k hlt hk.2)) (fun k hk => hk.1)
set_option maxHeartbeats 16000000 in
theorem forget22_is {w : World} (rm : Int) {A AO : Option Addr} {n c nO cO : Nat} {L : List S59} {os : List Int} (sub : Int) (hD : DRow w A n L) (hn : L.length = n) (hc : n ≤ c) (hnl : n ≤ 1000000) (hO : (Kd.int .i64).C w AO nO os) (hno : os.length = nO) (hcO : nO ≤ cO) (hnol : nO ≤ 1000000) :
  Calls Tryd.prog 22 #[.agg (qd rm (.slice A n c) (.slice AO nO cO)), .int .i64 sub] w fun e w' => ∃ v u, e = .returned (.agg (qd rm v u)) ∧ k59.R 59 w' 0 (fun _ => True) v (L.filter (fun x => !(x.f0 == sub))) ∧ (Kd.int .i64).R 3 w' 0 (fun _ => True) u (os.filter (fun x => !(x == sub))) ∧ Below w.heap.size w w' := by
 have hu48 := Tryd.underlying48
 have hu59 := Tryd.underlying59
 have hu57 := Tryd.underlying57
 have HD := Aside0.mk hD
 have HO := Aside0.mk hO
 have HNL := Aside0.mk hn
 have HNO := Aside0.mk hno
 clear hD hO hn hno
 unfold qd
 go_enter Tryd.func22, Tryd.ntmps22
 go_wp2_with (first
  | ((with_reducible refine gate_dst (N := 2) rfl ?_); refine box_event ?hg (N := 2) ?hd (cs := (qd rm (.slice A n c) (.slice AO nO cO))) (t := 48) ?hr ?_; (case hd => rfl); (case hg => rfl); (case hr => first | (go_simp; done) | (go_simp; rfl)); intro g1 hg1 w1 kg1 bg1; have Gg1 := Aside0.mk hg1; clear hg1; have HK1 := Aside0.mk kg1; have HB1 := Aside0.mk bg1; clear kg1 bg1)
  | ((with_reducible refine gate_dst (N := 4) rfl ?_); refine box_event ?hg (N := 4) ?hd (cs := (qd 0 (.slice none 0 0) (.slice none 0 0))) (t := 48) ?hr ?_; (case hd => rfl); (case hg => rfl); (case hr => first | (go_simp; done) | (go_simp; rfl)); intro g4 hg4 w2 kg4 bg4; have Gg4 := Aside0.mk hg4; clear hg4; have HK4 := Aside0.mk kg4; have HK1' := Aside0.mk (keepB HK1.out bg4); have HB2 := Aside0.mk (HB1.out.trans (bg4.mono HB1.out.size)); have hk := keepB HK1.out bg4; have p0 := (blk_cell hk 0).trans (show (qd rm (.slice A n c) (.slice AO nO cO))[0]? = some (.int .i64 rm) from rfl); clear kg4 bg4 hk)
  | ((with_reducible refine gate_dst (N := 5) rfl ?_); refine box_event ?hg (N := 5) ?hd (cs := (qd 0 (.slice none 0 0) (.slice none 0 0))) (t := 48) ?hr ?_; (case hd => rfl); (case hg => rfl); (case hr => first | (go_simp; done) | (go_simp; rfl)); intro g5 hg5 w3 kg5 bg5; have Gg5 := Aside0.mk hg5; clear hg5; have HK5 := Aside0.mk kg5; have HK1 := Aside0.mk (keepB HK1'.out bg5); have HK4' := Aside0.mk (keepB HK4.out bg5); have HB3 := Aside0.mk (HB2.out.trans (bg5.mono HB2.out.size)); have HN := Aside0.mk (show g5 ≠ g1 ∧ g5 ≠ g4 from ⟨fun e => by have h1 := blk_lt HK1'.out; have h2 := Gg5.out; omega, fun e => by have h1 := blk_lt HK4.out; have h2 := Gg5.out; omega⟩); clear kg5 bg5 p0)
  | ((with_reducible refine gate_store (t := 48) (p := 5) rfl ?_); refine wpList_store_row rfl 48 (.tmp 5) (.tmp 10) rfl g5 (qd rm (.slice none 0 0) (.slice none 0 0)) rfl rfl 48 (qd 0 (.slice none 0 0) (.slice none 0 0)) HK5.out info48s rfl (by unfold qd; rw [List.all_toArray]; rfl) ?_))
 have HBs := Aside0.mk (show w.heap.size ≤ g1 ∧ w.heap.size ≤ g4 ∧ w.heap.size ≤ g5 from ⟨Nat.le_of_eq Gg1.out.symm, Nat.le_trans HB1.out.size (Nat.le_of_eq Gg4.out.symm), Nat.le_trans HB2.out.size (Nat.le_of_eq Gg5.out.symm)⟩)
 obtain ⟨w4, hw4⟩ : ∃ w4, w4 = w3.setRow g5 (qd rm (.slice none 0 0) (.slice none 0 0)) := ⟨_, rfl⟩
 rw [← hw4]
 have HX4 := Aside0.mk (show w4.heap[g5]? = some (.cells (qd rm (.slice none 0 0) (.slice none 0 0)) 48 (0, 0)) by rw [hw4]; exact setRow_heap _ _ _ _ _ _ HK5.out)
 have HX1 := Aside0.mk (show w4.heap[g1]? = some (.cells (qd rm (.slice A n c) (.slice AO nO cO)) 48 (0, 0)) by rw [hw4, setRow_other _ _ _ _ (fun e => HN.out.1 e.symm)]; exact HK1.out)
 have HXr := Aside0.mk (show w4.heap[g4]? = some (.cells (qd 0 (.slice none 0 0) (.slice none 0 0)) 48 (0, 0)) by rw [hw4, setRow_other _ _ _ _ (fun e => HN.out.2 e.symm)]; exact HK4'.out)
 have HB4 := Aside0.mk (show Below w.heap.size w w4 by rw [hw4]; exact below_setRow HB3.out HBs.out.2.2 _)
 clear hw4 HK5 HK1 HK4' HB3 HK1' HK4 HB2
 go_loopg [6] n (fun kq v6 w' => ∃ (i : Nat) (u : Value), v6 = .int .i64 i ∧ Aside0 (i + kq = n) ∧ Aside0 (k59.R 59 w' 0 (fun _ => True) u ((L.take i).filter (fun x => !(x.f0 == sub)))) ∧ Aside0 (∀ k, u.ownBlock = some k → w4.heap.size ≤ k) ∧ Aside0 (w'.heap[g5]? = some (.cells (qd rm u (.slice none 0 0)) 48 (0, 0))) ∧ Aside0 (Mods (fun k => k = g5) w4 w'))
 case atStart => exact ⟨0, _, rfl, ⟨by omega⟩, ⟨Kd.R_nil _ _ _ _ _⟩, ⟨fun k hk => by simp [Value.ownBlock] at hk⟩, HX4, ⟨Mods.refl _ _⟩⟩
 case round =>
  obtain ⟨i, u, rfl, HI, HR, HNE, HK5, HM⟩ := hrel
  have hi := HI.out
  have HX1r := Aside0.mk (mods_keep HX1.out HM.out (fun e => HN.out.1 e.symm))
  have HXrr := Aside0.mk (mods_keep HXr.out HM.out (fun e => HN.out.2 e.symm))
  have HBr := Aside0.mk (show Below w.heap.size w wr from HB4.out.trans (HM.out.below HB4.out.size (fun k hk => by subst hk; exact HBs.out.2.2)))
  have p1 := (blk_cell HX1r.out 1).trans (show (qd rm (.slice A n c) (.slice AO nO cO))[1]? = some (.slice A n c) from rfl)
  cases gk with
  | zero =>
   have d2 : decide ((i : Int) < (n : Int)) = false := decide_eq_false (by omega)
   have d3 : decide (i < n) = false := decide_eq_false (by omega)
   have hr := HR.out
   rw [List.take_of_length_le (by have := HNL.out; omega)] at hr
   have HRL := Aside0.mk hr
   clear hr HR
   go_wp2
   clear p1 d2 d3
   obtain ⟨w5, hw5⟩ : ∃ w5, w5 = wr := ⟨_, rfl⟩
   rw [← hw5] at HRL HK5 HX1r HXrr HBr ⊢
   clear hw5 HM hi HI
   obtain ⟨Au, cu, rfl⟩ := Kd.R_slice HRL.out
   obtain ⟨nu, hnu⟩ : ∃ nu, nu = (L.filter (fun x => !(x.f0 == sub))).length := ⟨_, rfl⟩
   rw [← hnu] at HRL HK5
   clear hnu
   go_loopg [7] nO (fun kq v7 w' => ∃ (i : Nat) (u2 : Value), v7 = .int .i64 i ∧ Aside0 (i + kq = nO) ∧ Aside0 ((Kd.int .i64).R 3 w' 0 (fun _ => True) u2 ((os.take i).filter (fun x => !(x == sub)))) ∧ Aside0 (∀ k, u2.ownBlock = some k → w5.heap.size ≤ k) ∧ Aside0 (w'.heap[g5]? = some (.cells (qd rm (.slice Au nu cu) u2) 48 (0, 0))) ∧ Aside0 (Mods (fun k => k = g5) w5 w'))
   case atStart => exact ⟨0, _, rfl, ⟨by omega⟩, ⟨Kd.R_nil _ _ _ _ _⟩, ⟨fun k hk => by simp [Value.ownBlock] at hk⟩, HK5, ⟨Mods.refl _ _⟩⟩
   case round =>
    obtain ⟨i, u2, rfl, HI, HR, HNE2, HK6, HM⟩ := hrel
    have hi := HI.out
    have HY1 := Aside0.mk (mods_keep HX1r.out HM.out (fun e => HN.out.1 e.symm))
    have HYr := Aside0.mk (mods_keep HXrr.out HM.out (fun e => HN.out.2 e.symm))
    have HB6 := Aside0.mk (show Below w.heap.size w wr from HBr.out.trans (HM.out.below HBr.out.size (fun k hk => by subst hk; exact HBs.out.2.2)))
    have p2 := (blk_cell HY1.out 2).trans (show (qd rm (.slice A n c) (.slice AO nO cO))[2]? = some (.slice AO nO cO) from rfl)
    obtain ⟨A2, c2, rfl⟩ := Kd.R_slice HR.out
    obtain ⟨n2, hn2⟩ : ∃ n2, n2 = ((os.take i).filter (fun x => !(x == sub))).length := ⟨_, rfl⟩
    rw [← hn2] at HR HNE2 HK6
    clear hn2
    cases gk with
    | zero =>
     have d2 : decide ((i : Int) < (nO : Int)) = false := decide_eq_false (by omega)
     have d3 : decide (i < nO) = false := decide_eq_false (by omega)
     have hr := HR.out
     rw [List.take_of_length_le (by have := HNO.out; omega)] at hr
     have HRO := Aside0.mk hr
     clear hr HR
     go_wp2_with (first
      | ((with_reducible refine gate_dst (N := 60) rfl ?_); refine wpList_load_row rfl 48 (.tmp 5) rfl g5 rfl 48 _ (0, 0) _ HK6.out Tryd.underlying48 rfl info48s ?_)
      | ((with_reducible refine gate_store (t := 48) (p := 4) rfl ?_); refine wpList_store_row rfl 48 (.tmp 4) (.tmp 60) rfl g4 (qd rm (.slice Au nu cu) (.slice A2 n2 c2)) rfl rfl 48 (qd 0 (.slice none 0 0) (.slice none 0 0)) HYr.out info48s rfl (by unfold qd; rw [List.all_toArray]; rfl) ?_))
     refine bodyPost_ret (results_cell_row rfl _ _ g4 48 (qd rm (.slice Au nu cu) (.slice A2 n2 c2)) (0, 0) _ rfl (setRow_heap _ _ _ _ _ _ HYr.out) Tryd.underlying48 rfl info48s) rfl ?_
     exact ⟨_, _, rfl, R_setRow (R_mods HRL.out HK5.out (k59_types (by decide) (by decide)) HM.out) HYr.out (k59_types (by decide) (by decide)) _, R_setRow HRO.out HYr.out (by decide) _, below_setRow HB6.out HBs.out.2.1 _⟩
    | succ k1 =>
     have d2 : decide ((i : Int) < (nO : Int)) = true := decide_eq_true (by omega)
     have d3 : decide (i < nO) = true := decide_eq_true (by omega)
     have i1 : (0 : Int) ≤ (i : Int) := by omega
     have i2 : (i : Int) < (nO : Int) := by omega
     have hib : i ≤ 1000000 := by omega
     obtain ⟨ad, rfl, z0⟩ := Kd.at_int HO.out (i : Int) i1 i2
     have HT := Aside0.mk (filt_next (fun x : Int => !(x == sub)) os i (by have := HNO.out; omega))
     have HFl := Aside0.mk (filt_len (fun x : Int => !(x == sub)) os i)
     have hrd : rd os (i : Int) = os[i]'(by have := HNO.out; omega) := by
      unfold rd
      rw [Int.toNat_natCast, List.getD_eq_getElem?_getD, List.getElem?_eq_getElem (by have := HNO.out; omega)]
      rfl
     obtain ⟨y, hy⟩ : ∃ y, y = os[i]'(by have := HNO.out; omega) := ⟨_, rfl⟩
     rw [hrd, ← hy] at z0
     rw [← hy] at HT
     rw [Int.toNat_natCast] at z0
     have HZ := Aside0.mk z0
     have z0' := cellB HB6.out z0
     clear hrd hy z0
     by_cases hp : (y == sub) = true
     ·have d4 : (y != sub) = false := by rw [bne, hp]; rfl
      have hT := HT.out
      rw [if_neg (by simp [hp]), List.append_nil] at hT
      have HT2 := Aside0.mk hT
      clear hT hp HT
      go_wp2
      go_roundg k1
      case measure => omega
      case rel => exact ⟨i + 1, .slice A2 n2 c2, rfl, ⟨by omega⟩, ⟨by rw [HT2.out]; exact HR.out⟩, HNE2, HK6, HM⟩
     ·have d4 : (y != sub) = true := by simpa using hp
      have hT := HT.out
      rw [if_pos (by simp [hp])] at hT
      have HT2 := Aside0.mk hT
      clear hT hp HT
      have HMd := Aside0.mk HM.out.drew
      have HBd := Aside0.mk (below_drew1 HB6.out)
      have HK5d := Aside0.mk (blk_drew HK6.out)
      have HX1d := Aside0.mk (blk_drew HY1.out)
      go_wp2
      refine start_ (n := 11) (S := fun w' => w'.heap[g1]? = some (.cells (qd rm (.slice A n c) (.slice (some ad) nO cO)) 48 (0, 0)) ∧ w'.heap[g5]? = some (.cells (qd rm (.slice Au nu cu) (.slice A2 n2 c2)) 48 (0, 0)) ∧ Below w.heap.size w w') (ds := [10]) #[false, false, false, false, false, false, false, false, false, false, false] (by kernel_rfl) rfl rfl ⟨HX1d.out, HK5d.out, HBd.out⟩ (fun hHeld => ?_)
      refine pure_ (i := 0) (N := some 50) (v := ?_) (a' := ?_) (fB 11 1) rfl rfl (by kernel_rfl) (fun _ _ _ h => h) (Or.inl ⟨by rfl, ?_⟩) ?_ ?_
      rotate_left
      ·intro w'; go_simp; with_reducible rfl
      rotate_left
      ·go_simp; rfl
      refine pure_ (i := 2) (N := some 52) (v := ?_) (a' := ?_) (fB 11 5) rfl rfl (by kernel_rfl) (fun _ _ _ h => h) (Or.inl ⟨by rfl, ?_⟩) ?_ ?_
      rotate_left
      ·intro w'; go_simp; with_reducible rfl
      rotate_left
      ·go_simp; rfl
      refine pure_ (i := 4) (N := some 54) (v := ?_) (a' := ?_) (fB 11 21) rfl rfl (by kernel_rfl) (fun _ _ _ h => h) (Or.inl ⟨by rfl, ?_⟩) ?_ ?_
      rotate_left
      ·intro w'; go_simp; with_reducible rfl
      rotate_left
      ·go_simp; rfl
      refine take_ (i := 1) (N := some 51) (v := ?_) (a' := ?_) (fB 11 23) rfl rfl (by kernel_rfl) (fun _ _ _ h => h) (Or.inl ⟨by rfl, ?_⟩) hHeld ?_ ?_
      rotate_left
      ·rintro w' ⟨s0, s1, s2⟩
       have y0 := (blk_cell s1 2).trans (show (qd rm (.slice Au nu cu) (.slice A2 n2 c2))[2]? = some (.slice A2 n2 c2) from rfl)
       go_simp; with_reducible rfl
      rotate_left
      ·go_simp; rfl
      refine take_ (i := 3) (N := some 53) (v := ?_) (a' := ?_) (fB 11 31) rfl rfl (by kernel_rfl) (fun _ _ _ h => h) (Or.inl ⟨by rfl, ?_⟩) hHeld ?_ ?_
      rotate_left
      ·rintro w' ⟨s0, s1, s2⟩
       have y0 := (blk_cell s0 2).trans (show (qd rm (.slice A n c) (.slice (some ad) nO cO))[2]? = some (.slice (some ad) nO cO) from rfl)
       go_simp; with_reducible rfl
      rotate_left
      ·go_simp; rfl
      refine pure_ (i := 5) (N := some 55) (v := ?_) (a' := ?_) (fB 11 63) rfl rfl (by kernel_rfl) (fun _ _ _ h => h) (Or.inl ⟨by rfl, ?_⟩) ?_ ?_
      rotate_left
      ·intro w'; go_simp; with_reducible rfl
      rotate_left
      ·go_simp; rfl
      refine take_ (i := 6) (N := some 56) (v := ?_) (a' := ?_) (fB 11 127) rfl rfl (by kernel_rfl) (fun _ _ _ h => h) (Or.inl ⟨by rfl, ?_⟩) hHeld ?_ ?_
      rotate_left
      ·rintro w' ⟨s0, s1, s2⟩
       have y0 := cellB s2 HZ.out
       go_simp; with_reducible rfl
      rotate_left
      ·go_simp; rfl
      refine one_ (i := 7) (N := some 57) (fB 11 255) rfl rfl (by kernel_rfl) (by decide) (fun K hK => ?_)
      refine event_step (v := .slice (some ⟨wr.drew.heap.size, 0, none⟩) 1 1) (w1 := wr.drew.alloc (.cells ([.int .i64 y]).toArray 3 (0, 0))) (by rfl) (by first | (go_simp; done) | (go_simp; rfl)) ?_
      refine hK.out _ _ ⟨blk_alloc HX1d.out _, blk_alloc HK5d.out _, below_alloc HBd.out _⟩ (fun hHeld => ?_)
      clear hK K
      refine norm_ (a' := ?_) ?_ ?_
      rotate_left
      ·show Act.put _ (some 57) _ = _
       go_simp
       rfl
      refine one_ (i := 8) (N := some 58) (fB 11 511) rfl rfl (by kernel_rfl) (by decide) (fun K hK => ?_)
      refine Kd.R_append_step (Kd.int .i64) (w0 := wr.drew) 0 (by rfl) (.tmp 51) (.tmp 57) 46 3 _ 8 rfl Tryd.underlying46 info3p rfl (by decide) (by omega) (.slice A2 n2 c2) ((os.take i).filter (fun x => !(x == sub))) y [.int .i64 y] (fun _ => True) (fun k => False) rfl rfl rfl (fun k hk => hk.elim) (fun _ _ => trivial) (Kd.R_below HR.out (below_drew1 (Below.refl _ _))) (Below.refl _ _) (Nat.zero_le _) (by have h1 := HFl.out; have h2 := HNO.out; omega) ?_
      intro v7 W7 hr7 hb7 hg7 hat7
      rw [← HT2.out] at hr7
      have HM7 := Aside0.mk (HMd.out.grown hg7 (fun k hk => .inr (HNE2.out k hk)))
      have HN7 := Aside0.mk (fun k (hk : v7.ownBlock = some k) => (hat7.elim (fun e => HNE2.out k (e ▸ hk)) (fun ⟨b, e, hb⟩ => by rw [e] at hk; injection hk with hk; have h1 := HM.out.size; have h2 : wr.drew.heap.size = wr.heap.size := rfl; omega) : w5.heap.size ≤ k))
      have hx1 := mods_keep HX1r.out HM7.out (fun e => HN.out.1 e.symm)
      have hne5 : some g5 ≠ (Value.slice A2 n2 c2).ownBlock := fun e => by have h1 := HNE2.out g5 e.symm; have h2 := blk_lt HK5.out; omega
      have hk5 : W7.heap[g5]? = some (.cells (qd rm (.slice Au nu cu) (.slice A2 n2 c2)) 48 (0, 0)) := (hg7.block g5 (blk_lt HK5d.out) hne5).trans HK5d.out
      have HK57 := Aside0.mk hk5
      have hb7w : Below w.heap.size w W7 := HBr.out.trans (HM7.out.below HBr.out.size (fun k hk => by subst hk; exact HBs.out.2.2))
      have HR7 := Aside0.mk hr7
      obtain ⟨Av, cv, rfl⟩ := Kd.R_slice hr7
      obtain ⟨nv, hnv⟩ : ∃ nv, nv = ((os.take (i + 1)).filter (fun x => !(x == sub))).length := ⟨_, rfl⟩
      rw [← hnv] at HR7 HN7 ⊢
      clear hr7 hb7 hg7 hat7 hne5 hnv
      refine hK.out _ _ ⟨hx1, hk5, hb7w⟩ (fun hHeld => ?_)
      clear hK K hx1 hk5 hb7w
      refine norm_ (a' := ?_) ?_ ?_
      rotate_left
      ·show Act.put _ (some 58) _ = _
       go_simp
       rfl
      refine pure_ (i := 9) (N := some 59) (v := ?_) (a' := ?_) (fB 11 1023) rfl rfl (by kernel_rfl) (fun _ _ _ h => h) (Or.inl ⟨by rfl, ?_⟩) ?_ ?_
      rotate_left
      ·intro w'; go_simp; with_reducible rfl
      rotate_left
      ·go_simp; rfl
      refine last_ (i := 10) (N := none) (fB 11 2047) rfl rfl (by kernel_rfl) (by decide) (fun K hK => ?_)
      have c7 := (blk_cell HK57.out 2).trans (show (qd rm (.slice Au nu cu) (.slice A2 n2 c2))[2]? = some (.slice A2 n2 c2) from rfl)
      have f7 := blk_frozen HK57.out 2
      refine skip_ (w1 := ?_) (by rfl) rfl ?_ ?_
      rotate_left
      ·go_simp
       rfl
      refine hK.out _ _ ?_
      clear hK K
      refine done_ (by kernel_rfl) ?_
      go_wp2
      go_roundg k1
      case measure => omega
      case rel => exact ⟨i + 1, .slice Av nv cv, rfl, ⟨by omega⟩, ⟨Kd.R_set HR7.out HK57.out (by decide) 2 _⟩, HN7, ⟨blk_set HK57.out 2 _⟩, ⟨HM7.out.set (.inl rfl) _⟩⟩
  | succ k1 =>
   have d2 : decide ((i : Int) < (n : Int)) = true := decide_eq_true (by omega)
   have d3 : decide (i < n) = true := decide_eq_true (by omega)
   have i1 : (0 : Int) ≤ (i : Int) := by omega
   have i2 : (i : Int) < (n : Int) := by omega
   have hib : i ≤ 1000000 := by omega
   obtain ⟨ad, A6, c6, rfl, z0, z1, z2, z3, z4, z5, z6, g6⟩ := HD.out.elem i (by omega)
   have HT := Aside0.mk (filt_next (fun x : S59 => !(x.f0 == sub)) L i (by have := HNL.out; omega))
   have HFl := Aside0.mk (filt_len (fun x : S59 => !(x.f0 == sub)) L i)
   obtain ⟨G, hG⟩ : ∃ G, G = L[i]'(by have := HNL.out; omega) := ⟨_, rfl⟩
   rw [rd59 L i (by have := HNL.out; omega), ← hG] at z0 z1 z2 z3 z4 z5 z6 g6
   rw [← hG] at HT
   have HGo := Aside0.mk (Kd.R_mono (Kd.R_below (Kd.R_bound g6) HBr.out) (fun k hk => (⟨Nat.lt_of_lt_of_le hk.2.2.1 HB4.out.size, hk.2.2.1⟩ : k < w4.heap.size ∧ k < w.heap.size)))
   have HZ := Aside0.mk (And.intro z0 (And.intro z1 (And.intro z2 (And.intro z3 (And.intro z4 (And.intro z5 z6))))))
   have z0' := cellB HBr.out z0
   clear hG g6 z0 z1 z2 z3 z4 z5 z6
   by_cases hp : (G.f0 == sub) = true
   ·have d4 : (G.f0 != sub) = false := by rw [bne, hp]; rfl
    have hT := HT.out
    rw [if_neg (by simp [hp]), List.append_nil] at hT
    have HT2 := Aside0.mk hT
    clear hT hp HT
    go_wp2
    go_roundg k1
    case measure => omega
    case rel => exact ⟨i + 1, u, rfl, ⟨by omega⟩, ⟨by rw [HT2.out]; exact HR.out⟩, HNE, HK5, HM⟩
   ·have d4 : (G.f0 != sub) = true := by simpa using hp
    have hT := HT.out
    rw [if_pos (by simp [hp])] at hT
    have HT2 := Aside0.mk hT
    clear hT hp HT
    have HMd := Aside0.mk HM.out.drew
    have HBd := Aside0.mk (below_drew1 HBr.out)
    have HK5d := Aside0.mk (blk_drew HK5.out)
    have HX1d := Aside0.mk (blk_drew HX1r.out)
    obtain ⟨Au, cu, rfl⟩ := Kd.R_slice HR.out
    obtain ⟨nu, hnu⟩ : ∃ nu, nu = ((L.take i).filter (fun x => !(x.f0 == sub))).length := ⟨_, rfl⟩
    rw [← hnu] at HR HNE HK5 HK5d
    clear hnu
    go_wp2
    refine start_ (n := 11) (S := fun w' => w'.heap[g1]? = some (.cells (qd rm (.slice (some ad) n c) (.slice AO nO cO)) 48 (0, 0)) ∧ w'.heap[g5]? = some (.cells (qd rm (.slice Au nu cu) (.slice none 0 0)) 48 (0, 0)) ∧ Below w.heap.size w w') (ds := [10]) #[false, false, false, false, false, false, false, false, false, false, false] (by kernel_rfl) rfl rfl ⟨HX1d.out, HK5d.out, HBd.out⟩ (fun hHeld => ?_)
    refine pure_ (i := 0) (N := some 26) (v := ?_) (a' := ?_) (fB 11 1) rfl rfl (by kernel_rfl) (fun _ _ _ h => h) (Or.inl ⟨by rfl, ?_⟩) ?_ ?_
    rotate_left
    ·intro w'; go_simp; with_reducible rfl
    rotate_left
    ·go_simp; rfl
    refine pure_ (i := 2) (N := some 28) (v := ?_) (a' := ?_) (fB 11 5) rfl rfl (by kernel_rfl) (fun _ _ _ h => h) (Or.inl ⟨by rfl, ?_⟩) ?_ ?_
    rotate_left
    ·intro w'; go_simp; with_reducible rfl
    rotate_left
    ·go_simp; rfl
    refine pure_ (i := 4) (N := some 30) (v := ?_) (a' := ?_) (fB 11 21) rfl rfl (by kernel_rfl) (fun _ _ _ h => h) (Or.inl ⟨by rfl, ?_⟩) ?_ ?_
    rotate_left
    ·intro w'; go_simp; with_reducible rfl
    rotate_left
    ·go_simp; rfl
    refine take_ (i := 1) (N := some 27) (v := ?_) (a' := ?_) (fB 11 23) rfl rfl (by kernel_rfl) (fun _ _ _ h => h) (Or.inl ⟨by rfl, ?_⟩) hHeld ?_ ?_
    rotate_left
    ·rintro w' ⟨s0, s1, s2⟩
     have y0 := (blk_cell s1 1).trans (show (qd rm (.slice Au nu cu) (.slice none 0 0))[1]? = some (.slice Au nu cu) from rfl)
     go_simp; with_reducible rfl
    rotate_left
    ·go_simp; rfl
    refine take_ (i := 3) (N := some 29) (v := ?_) (a' := ?_) (fB 11 31) rfl rfl (by kernel_rfl) (fun _ _ _ h => h) (Or.inl ⟨by rfl, ?_⟩) hHeld ?_ ?_
    rotate_left
    ·rintro w' ⟨s0, s1, s2⟩
     have y0 := (blk_cell s0 1).trans (show (qd rm (.slice (some ad) n c) (.slice AO nO cO))[1]? = some (.slice (some ad) n c) from rfl)
     go_simp; with_reducible rfl
    rotate_left
    ·go_simp; rfl
    refine pure_ (i := 5) (N := some 31) (v := ?_) (a' := ?_) (fB 11 63) rfl rfl (by kernel_rfl) (fun _ _ _ h => h) (Or.inl ⟨by rfl, ?_⟩) ?_ ?_
    rotate_left
    ·intro w'; go_simp; with_reducible rfl
    rotate_left
    ·go_simp; rfl
    refine take_ (i := 6) (N := some 32) (v := ?_) (a' := ?_) (fB 11 127) rfl rfl (by kernel_rfl) (fun _ _ _ h => h) (Or.inl ⟨by rfl, ?_⟩) hHeld ?_ ?_
    rotate_left
    ·rintro w' ⟨s0, s1, s2⟩
     have y0 := cellB s2 HZ.out.1
     have y1 := cellB s2 HZ.out.2.1
     have y2 := cellB s2 HZ.out.2.2.1
     have y3 := cellB s2 HZ.out.2.2.2.1
     have y4 := cellB s2 HZ.out.2.2.2.2.1
     have y5 := cellB s2 HZ.out.2.2.2.2.2.1
     have y6 := cellB s2 HZ.out.2.2.2.2.2.2
     go_simp; with_reducible rfl
    rotate_left
    ·go_simp; rfl
    refine one_ (i := 7) (N := some 33) (fB 11 255) rfl rfl (by kernel_rfl) (by decide) (fun K hK => ?_)
    refine event_step (v := .slice (some ⟨wr.drew.heap.size, 0, none⟩) 1 1) (w1 := wr.drew.alloc (.cells ([.int .i64 G.f0, .string G.f1, .int .i64 G.f2.f0.f0, .int .i64 G.f2.f0.f1, .int .i64 G.f2.f0.f2, .string G.f2.f1, .slice A6 G.f2.f2.length c6]).toArray 59 (0, 0))) (by rfl) (by first | (go_simp; done) | (go_simp; rfl)) ?_
    refine hK.out _ _ ⟨blk_alloc HX1d.out _, blk_alloc HK5d.out _, below_alloc HBd.out _⟩ (fun hHeld => ?_)
    clear hK K
    refine norm_ (a' := ?_) ?_ ?_
    rotate_left
    ·show Act.put _ (some 33) _ = _
     go_simp
     rfl
    refine one_ (i := 8) (N := some 34) (fB 11 511) rfl rfl (by kernel_rfl) (by decide) (fun K hK => ?_)
    refine Kd.R_append_step k59 (w0 := wr.drew) 0 (by rfl) (.tmp 27) (.tmp 33) 45 59 _ 88 rfl Tryd.underlying45 info59p rfl (by decide) (by omega) (.slice Au nu cu) ((L.take i).filter (fun x => !(x.f0 == sub))) G [.int .i64 G.f0, .string G.f1, .int .i64 G.f2.f0.f0, .int .i64 G.f2.f0.f1, .int .i64 G.f2.f0.f2, .string G.f2.f1, .slice A6 G.f2.f2.length c6] (fun _ => True) (fun k => some k ≠ (Value.slice Au nu cu).ownBlock) rfl rfl (k59_mkM _ _ _ G (Kd.R_mono (Kd.R_bound (Kd.R_below HGo.out (below_drew1 (Below.refl _ _)))) (fun k hk e => by have h1 := HNE.out k e.symm; have h2 := hk.1.1; omega))) (fun k hk => ⟨trivial, hk⟩) (fun _ _ => trivial) (Kd.R_below HR.out (below_drew1 (Below.refl _ _))) (Below.refl _ _) (Nat.zero_le _) (by have h1 := HFl.out; have h2 := HNL.out; omega) ?_
    intro v7 W7 hr7 hb7 hg7 hat7
    rw [← HT2.out] at hr7
    have HM7 := Aside0.mk (HMd.out.grown hg7 (fun k hk => .inr (HNE.out k hk)))
    have HN7 := Aside0.mk (fun k (hk : v7.ownBlock = some k) => (hat7.elim (fun e => HNE.out k (e ▸ hk)) (fun ⟨b, e, hb⟩ => by rw [e] at hk; injection hk with hk; have h1 := HM.out.size; have h2 : wr.drew.heap.size = wr.heap.size := rfl; omega) : w4.heap.size ≤ k))
    have hx1 := mods_keep HX1.out HM7.out (fun e => HN.out.1 e.symm)
    have hne5 : some g5 ≠ (Value.slice Au nu cu).ownBlock := fun e => by have h1 := HNE.out g5 e.symm; have h2 := blk_lt HX4.out; omega
    have hk5 : W7.heap[g5]? = some (.cells (qd rm (.slice Au nu cu) (.slice none 0 0)) 48 (0, 0)) := (hg7.block g5 (blk_lt HK5d.out) hne5).trans HK5d.out
    have HK57 := Aside0.mk hk5
    have hb7w : Below w.heap.size w W7 := HB4.out.trans (HM7.out.below HB4.out.size (fun k hk => by subst hk; exact HBs.out.2.2))
    have HR7 := Aside0.mk hr7
    obtain ⟨Av, cv, rfl⟩ := Kd.R_slice hr7
    obtain ⟨nv, hnv⟩ : ∃ nv, nv = ((L.take (i + 1)).filter (fun x => !(x.f0 == sub))).length := ⟨_, rfl⟩
    rw [← hnv] at HR7 HN7 ⊢
    clear hr7 hb7 hg7 hat7 hne5 hnv
    refine hK.out _ _ ⟨hx1, hk5, hb7w⟩ (fun hHeld => ?_)
    clear hK K hx1 hk5 hb7w
    refine norm_ (a' := ?_) ?_ ?_
    rotate_left
    ·show Act.put _ (some 34) _ = _
     go_simp
     rfl
    refine pure_ (i := 9) (N := some 35) (v := ?_) (a' := ?_) (fB 11 1023) rfl rfl (by kernel_rfl) (fun _ _ _ h => h) (Or.inl ⟨by rfl, ?_⟩) ?_ ?_
    rotate_left
    ·intro w'; go_simp; with_reducible rfl
    rotate_left
    ·go_simp; rfl
    refine last_ (i := 10) (N := none) (fB 11 2047) rfl rfl (by kernel_rfl) (by decide) (fun K hK => ?_)
    have c7 := (blk_cell HK57.out 1).trans (show (qd rm (.slice Au nu cu) (.slice none 0 0))[1]? = some (.slice Au nu cu) from rfl)
    have f7 := blk_frozen HK57.out 1
    refine skip_ (w1 := ?_) (by rfl) rfl ?_ ?_
    rotate_left
    ·go_simp
     rfl
    refine hK.out _ _ ?_
    clear hK K
    refine done_ (by kernel_rfl) ?_
    go_wp2
    go_roundg k1
    case measure => omega
    case rel => exact ⟨i + 1, .slice Av nv cv, rfl, ⟨by omega⟩, ⟨Kd.R_set HR7.out HK57.out (k59_types (by decide) (by decide)) 1 _⟩, HN7, ⟨blk_set HK57.out 1 _⟩, ⟨HM7.out.set (.inl rfl) _⟩⟩
end Go.Proofs.YtmcochnofkjhaaaDoor.QU
