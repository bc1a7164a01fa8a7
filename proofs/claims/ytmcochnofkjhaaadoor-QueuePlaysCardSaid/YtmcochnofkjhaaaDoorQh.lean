/- The queue in a law's world; the page's example. By hand. -/
import Derived.Test.YtmcochnofkjhaaaDoorQf
namespace Go.Proofs.YtmcochnofkjhaaaDoor.QU
open Go.RowKit Go.Proofs.YtmcochnofkjhaaaDoorW.PrintWords Go.Proofs.YtmcochnofkjhaaaDoorW.PrintLast Go.Proofs.YtmcochnofkjhaaaDoorW.PrintMore Go.Proofs.YtmcochnofkjhaaaDoor.PAll
set_option linter.unusedVariables false
set_option linter.unusedSimpArgs false
set_option maxRecDepth 100000
/-- A queue that was made since the world w0. -/
structure QS (w0 w : World) (g m : Nat) (q : Qu) (v : Value) : Prop where
  qu : QAt w g q v m
  bel : Below w0.heap.size w0 w
  low : ∀ k, lf g v m k → w0.heap.size ≤ k
section
variable {w0 w w' : World} {g m : Nat} {q q' : Qu} {v v' : Value}
theorem QS.below (h : QS w0 w g m q v) (hb : Below w.heap.size w w') : QS w0 w' g m q v := ⟨h.qu.below hb, h.bel.trans (hb.mono h.bel.size), h.low⟩
theorem QS.step (h : QS w0 w g m q v) (s : QStep w g v m q' v' w') : QS w0 w' g m q' v' :=
  ⟨s.qu, h.bel.trans (s.mods.below h.bel.size h.low), fun k hk => by
    rcases hk with e | e | hk
    · exact h.low k (.inl e)
    · exact h.low k (.inr (.inl e))
    · exact (s.own k hk).elim (fun e => h.low k (.inr (.inr e))) (fun e => Nat.le_trans h.bel.size e)⟩
theorem offerS (h : QS w0 w g m q v) {k : Nat} (hq : Bq q k) (hk : k < 1000000) (hT : NC.TabW w0) (G : S36) {A : Option Addr} {c : Nat} (hC : k87.C w A G.f2.f2.length G.f2.f2) (hc : G.f2.f2.length ≤ c) (hl : G.f2.f2.length ≤ 1000000) (hw0 : (Lit.int .i64 G.f0).wf = true)
    {cn : Int} (hcn : name_Check.f G.f1 = some cn) {kk : Nat} {bn : Bool} (hbn : event_Check.f kk G.f2.f0.f0 G.f2.f0.f1 G.f2.f0.f2 G.f2.f1 G.f2.f2 = some bn) :
    Calls Tryd.prog 9 #[.pointer (some ⟨g, 0, none⟩), .agg (gc G (.slice A G.f2.f2.length c))] w fun e w' => e = .returned (.int .i64 (offE q G cn bn)) ∧ ∃ v', QS w0 w' g m (offQ q G cn bn) v' :=
  (offer_is h.qu hq hk (hT.below h.bel) G hC hc hl hw0 hcn hbn).mono (fun e w' ⟨he, v', hs⟩ => ⟨he, v', h.step hs⟩)
theorem pollS (h : QS w0 w g m q v) {k : Nat} (hq : Bq q k) (most : Int) :
    Calls Tryd.prog 11 #[.pointer (some ⟨g, 0, none⟩), .int .i64 most] w fun e w' => ∃ o v', e = .returned o ∧ k36.R 36 w' 0 (fun _ => True) o (q.l.take (pollN q most)) ∧ QS w0 w' g m { q with l := q.l.drop (pollN q most) } v' :=
  (poll_is h.qu hq most).mono (fun e w' ⟨o, v', he, hr, hs⟩ => ⟨o, v', he, hr, h.step hs⟩)
end
/-- The page's offers. -/
def gv (i : Int) : S36 := ⟨7, ⟨#[116]⟩, ⟨⟨1, 1, i⟩, ⟨#[116]⟩, []⟩⟩
theorem nm_t : name_Check.f ⟨#[116]⟩ = some 0 := by kernel_rfl
theorem ev_t1 : event_Check.f 3 1 1 1 ⟨#[116]⟩ [] = some true := by kernel_rfl
theorem ev_t2 : event_Check.f 3 1 1 2 ⟨#[116]⟩ [] = some true := by kernel_rfl
theorem ev_t3 : event_Check.f 3 1 1 3 ⟨#[116]⟩ [] = some true := by kernel_rfl
theorem one_is (w : World) (i : Int) : Calls Tryd.prog 10 #[.int .i64 i] w fun e w' => ∃ A c, e = .returned (.agg #[.int .i64 1, .int .i64 1, .int .i64 i, .string ⟨#[116]⟩, .slice A 0 c]) ∧ k87.C w' A 0 [] ∧ Below w.heap.size w w' :=
  (caduceuslaw18_one.calls i 1 1 i ⟨#[116]⟩ [] w rfl).mono (fun e w' ⟨v, he, hr, hb⟩ => by
    obtain ⟨A, c, rfl⟩ := Kd.R_slice hr
    exact ⟨A, c, he, (Kd.R_reads' hr).2.2, hb⟩)
set_option maxHeartbeats 8000000 in
theorem awake_is (w : World) (hT : NC.TabW w) : Calls Tryd.prog 8 #[] w fun e w' => e = .returned (.bool true) ∧ Below w.heap.size w w' := by
  have hu33 := Tryd.underlying33
  have hu30 := Tryd.underlying30
  have hu36 := Tryd.underlying36
  have HT := Aside0.mk hT
  clear hT
  go_enter Tryd.func8, Tryd.ntmps8
  go_wp2_with (first
    | ((with_reducible refine gate_dst (N := 6) rfl ?_); refine goesL_ (some 6) rfl rfl Tryd.func7 (by kernel_rfl) rfl #[.int .i64 2] rfl (by first | (simp only [List.map_toArray, List.map_cons, List.map_nil]; rfl) | rfl) ?_; refine (new_yes w 2 (by decide) (by decide)).mono ?_; rintro e w1 ⟨g, m, rfl, hq, hg, hm, hb⟩; have HS0 := Aside0.mk (show QS w w1 g m ⟨2, [], [], 0⟩ (.slice none 0 0) from ⟨hq, hb, fun k hk => hk.elim (fun e => e ▸ hg) (fun hk => hk.elim (fun e => e ▸ hm) (fun e => by simp [Value.ownBlock] at e))⟩); clear hq hg hm hb; refine ⟨_, rfl, ?_⟩)
    | ((with_reducible refine gate_dst (N := 8) rfl ?_); refine goesL_ (some 8) rfl rfl Tryd.func10 (by kernel_rfl) rfl #[.int .i64 1] rfl (by first | (simp only [List.map_toArray, List.map_cons, List.map_nil]; rfl) | rfl) ?_; refine (one_is _ 1).mono ?_; rintro e u1 ⟨A1, c1, rfl, hc, hb⟩; have HC1 := Aside0.mk hc; have HS1' := Aside0.mk (HS0.out.below hb); clear hc hb; refine ⟨_, rfl, ?_⟩)
    | ((with_reducible refine gate_dst (N := 10) rfl ?_); refine goesL_ (some 10) rfl rfl Tryd.func9 (by kernel_rfl) rfl #[.pointer (some ⟨g, 0, none⟩), .agg #[.int .i64 7, .string ⟨#[116]⟩, .int .i64 1, .int .i64 1, .int .i64 1, .string ⟨#[116]⟩, .slice A1 0 c1]] rfl (by first | (simp only [List.map_toArray, List.map_cons, List.map_nil]; rfl) | rfl) ?_; refine ((show Calls Tryd.prog 9 #[.pointer (some ⟨g, 0, none⟩), .agg #[.int .i64 7, .string ⟨#[116]⟩, .int .i64 1, .int .i64 1, .int .i64 1, .string ⟨#[116]⟩, .slice A1 0 c1]] u1 fun e w' => e = .returned (.int .i64 0) ∧ ∃ v', QS w w' g m ⟨2, [gv 1], [], 0⟩ v' from offerS (k := 10) HS1'.out (q := ⟨2, [], [], 0⟩) (by constructor <;> decide) (by decide) HT.out (gv 1) HC1.out (Nat.zero_le _) (Nat.zero_le _) (by decide) nm_t ev_t1)).mono ?_; rintro e w2 ⟨rfl, v1, hs⟩; have HS1 := Aside0.mk (show QS w w2 g m ⟨2, [gv 1], [], 0⟩ v1 from hs); clear hs; refine ⟨_, rfl, ?_⟩)
    | ((with_reducible refine gate_dst (N := 12) rfl ?_); refine goesL_ (some 12) rfl rfl Tryd.func10 (by kernel_rfl) rfl #[.int .i64 2] rfl (by first | (simp only [List.map_toArray, List.map_cons, List.map_nil]; rfl) | rfl) ?_; refine (one_is _ 2).mono ?_; rintro e u2 ⟨A2, c2, rfl, hc, hb⟩; have HC2 := Aside0.mk hc; have HS2' := Aside0.mk (HS1.out.below hb); clear hc hb; refine ⟨_, rfl, ?_⟩)
    | ((with_reducible refine gate_dst (N := 14) rfl ?_); refine goesL_ (some 14) rfl rfl Tryd.func9 (by kernel_rfl) rfl #[.pointer (some ⟨g, 0, none⟩), .agg #[.int .i64 7, .string ⟨#[116]⟩, .int .i64 1, .int .i64 1, .int .i64 2, .string ⟨#[116]⟩, .slice A2 0 c2]] rfl (by first | (simp only [List.map_toArray, List.map_cons, List.map_nil]; rfl) | rfl) ?_; refine ((show Calls Tryd.prog 9 #[.pointer (some ⟨g, 0, none⟩), .agg #[.int .i64 7, .string ⟨#[116]⟩, .int .i64 1, .int .i64 1, .int .i64 2, .string ⟨#[116]⟩, .slice A2 0 c2]] u2 fun e w' => e = .returned (.int .i64 0) ∧ ∃ v', QS w w' g m ⟨2, [gv 1, gv 2], [], 0⟩ v' from offerS (k := 10) HS2'.out (q := ⟨2, [gv 1], [], 0⟩) (by constructor <;> decide) (by decide) HT.out (gv 2) HC2.out (Nat.zero_le _) (Nat.zero_le _) (by decide) nm_t ev_t2)).mono ?_; rintro e w3 ⟨rfl, v2, hs⟩; have HS2 := Aside0.mk (show QS w w3 g m ⟨2, [gv 1, gv 2], [], 0⟩ v2 from hs); clear hs; refine ⟨_, rfl, ?_⟩)
    | ((with_reducible refine gate_dst (N := 16) rfl ?_); refine goesL_ (some 16) rfl rfl Tryd.func10 (by kernel_rfl) rfl #[.int .i64 3] rfl (by first | (simp only [List.map_toArray, List.map_cons, List.map_nil]; rfl) | rfl) ?_; refine (one_is _ 3).mono ?_; rintro e u3 ⟨A3, c3, rfl, hc, hb⟩; have HC3 := Aside0.mk hc; have HS3' := Aside0.mk (HS2.out.below hb); clear hc hb; refine ⟨_, rfl, ?_⟩)
    | ((with_reducible refine gate_dst (N := 18) rfl ?_); refine goesL_ (some 18) rfl rfl Tryd.func9 (by kernel_rfl) rfl #[.pointer (some ⟨g, 0, none⟩), .agg #[.int .i64 7, .string ⟨#[116]⟩, .int .i64 1, .int .i64 1, .int .i64 3, .string ⟨#[116]⟩, .slice A3 0 c3]] rfl (by first | (simp only [List.map_toArray, List.map_cons, List.map_nil]; rfl) | rfl) ?_; refine ((show Calls Tryd.prog 9 #[.pointer (some ⟨g, 0, none⟩), .agg #[.int .i64 7, .string ⟨#[116]⟩, .int .i64 1, .int .i64 1, .int .i64 3, .string ⟨#[116]⟩, .slice A3 0 c3]] u3 fun e w' => e = .returned (.int .i64 6) ∧ ∃ v', QS w w' g m ⟨2, [gv 1, gv 2], [7], 1⟩ v' from offerS (k := 10) HS3'.out (q := ⟨2, [gv 1, gv 2], [], 0⟩) (by constructor <;> decide) (by decide) HT.out (gv 3) HC3.out (Nat.zero_le _) (Nat.zero_le _) (by decide) nm_t ev_t3)).mono ?_; rintro e w4 ⟨rfl, v3, hs⟩; have HS3 := Aside0.mk (show QS w w4 g m ⟨2, [gv 1, gv 2], [7], 1⟩ v3 from hs); clear hs; refine ⟨_, rfl, ?_⟩)
    | ((with_reducible refine gate_dst (N := 20) rfl ?_); refine goesL_ (some 20) rfl rfl Tryd.func11 (by kernel_rfl) rfl #[.pointer (some ⟨g, 0, none⟩), .int .i64 5] rfl (by first | (simp only [List.map_toArray, List.map_cons, List.map_nil]; rfl) | rfl) ?_; refine (pollS (k := 10) HS3.out (by constructor <;> decide) 5).mono ?_; rintro e w5 ⟨o, v5, rfl, hr, hs⟩; obtain ⟨A5, c5, rfl, hc5, hF⟩ := RW.of_R (show k36.R 36 w5 0 (fun _ => True) o [gv 1, gv 2] from hr); have HS5 := Aside0.mk (show QS w w5 g m ⟨2, [], [7], 1⟩ v5 from hs); have hF5 := Kd.F_now hF; obtain ⟨ad5, A6, c6, rfl, _⟩ := at_T36 hF5 1 (by decide) (by decide); have HF5 := Aside0.mk hF5; clear hr hs hF hc5 hF5; refine ⟨_, rfl, ?_⟩)
    | ((with_reducible refine gate_dst (N := 33) rfl ?_); refine gate_guard (by rfl) ?_; dsimp only; refine goesL_ (some 33) rfl rfl Tryd.func13 (by kernel_rfl) rfl #[.pointer (some ⟨g, 0, none⟩), .int .i64 7] rfl (by first | (simp only [List.map_toArray, List.map_cons, List.map_nil]; rfl) | rfl) ?_; refine ((show Calls Tryd.prog 13 #[.pointer (some ⟨g, 0, none⟩), .int .i64 7] w5 fun e w' => e = .returned (.int .i64 1) ∧ Below w5.heap.size w5 w' from over_is HS5.out.qu 7 (by decide))).mono ?_; rintro e w6 ⟨rfl, hb⟩; have HS6 := Aside0.mk (HS5.out.below hb); obtain ⟨_, A6, c6, hA6, _, _, _, _, hx, _⟩ := at_T36 (Kd.C_below HF5.out hb) 1 (by decide) (by decide); cases hA6; simp only [show (rd_T36 [gv 1, gv 2] 1).f2.f0.f2 = 2 from rfl, show Int.toNat 1 * 7 = 7 from rfl] at hx; replace hx : w6.cell? ⟨ad5.block, ad5.off + 9 + 2, none⟩ = some (.int .i64 2) := hx; clear hb; refine ⟨_, rfl, ?_⟩)
    | ((with_reducible refine gate_dst (N := 52) rfl ?_); refine gate_guard (by rfl) ?_; dsimp only; refine goesL_ (some 52) rfl rfl Tryd.func14 (by kernel_rfl) rfl #[.pointer (some ⟨g, 0, none⟩)] rfl (by first | (simp only [List.map_toArray, List.map_cons, List.map_nil]; rfl) | rfl) ?_; refine ((show Calls Tryd.prog 14 #[.pointer (some ⟨g, 0, none⟩)] w6 fun e w' => e = .returned (.int .i64 0) ∧ Below w6.heap.size w6 w' from len_is HS6.out.qu)).mono ?_; rintro e w7 ⟨rfl, hb⟩; have HS7 := Aside0.mk (HS6.out.below hb); clear hb; refine ⟨_, rfl, ?_⟩))
  go_ret
  exact ⟨rfl, HS7.out.bel⟩
end Go.Proofs.YtmcochnofkjhaaaDoor.QU
