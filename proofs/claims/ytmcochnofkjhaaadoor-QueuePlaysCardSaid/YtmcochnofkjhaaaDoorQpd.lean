/- QueuePlays' walk, as its row wants it. By hand. -/
import Derived.Test.YtmcochnofkjhaaaDoorQpc
namespace Go.Proofs.YtmcochnofkjhaaaDoor.QU
open Go.RowKit Go.Proofs.YtmcochnofkjhaaaDoor.PAll Go.Proofs.YtmcochnofkjhaaaDoorW.PrintWords Go.Proofs.YtmcochnofkjhaaaDoorW.PrintLast Go.Proofs.YtmcochnofkjhaaaDoorW.PrintMore Go.Proofs.YtmcochnofkjhaaaDoor.NQ
set_option linter.unusedVariables false
set_option linter.unusedSimpArgs false
set_option maxRecDepth 100000
set_option maxHeartbeats 8000000 in
theorem queuePlays_out (x : Int) (hx : x < 1 ∨ 100 < x) (A : Option Addr) (c n : Nat) (sub : Int) (W : World) (hT : NC.TabW W) :
    Calls Tryd.prog 5 #[.int .i64 x, .slice A n c, .int .i64 sub] W fun e w' => e = .returned (.bool true) ∧ Below W.heap.size W w' := by
  have HT := Aside0.mk hT
  have HNW := Aside0.mk (new_no W x hx)
  clear hT
  by_cases h1 : x < 1
  · have d1 : decide (x < 1) = true := decide_eq_true h1
    clear hx
    go_enter Tryd.func5, Tryd.ntmps5
    go_wp2_with (first
      | ((with_reducible refine gate_dst (N := 16) rfl ?_); refine goesL_ (some 16) rfl rfl Tryd.func7 (by kernel_rfl) rfl #[.int .i64 x] rfl (by first | (simp only [List.map_toArray, List.map_cons, List.map_nil]; rfl) | rfl) ?_; refine (HNW.out).mono ?_; rintro e w1 ⟨rfl, hb⟩; have HB1 := Aside0.mk hb; clear hb; refine ⟨_, rfl, ?_⟩)
      | ((with_reducible refine gate_dst (N := 23) rfl ?_); refine goesL_ (some 23) rfl rfl Tryd.func8 (by kernel_rfl) rfl #[] rfl (by simp) ?_; refine (awake_is _ (HT.out.below HB1.out)).mono ?_; rintro e w2 ⟨rfl, hb⟩; have HB2 := Aside0.mk (HB1.out.trans (hb.mono HB1.out.size)); clear hb; refine ⟨_, rfl, ?_⟩))
    go_ret
    exact ⟨rfl, HB2.out⟩
  · have d1 : decide (x < 1) = false := decide_eq_false h1
    have d2 : decide (100 < x) = true := decide_eq_true (by omega)
    clear hx
    go_enter Tryd.func5, Tryd.ntmps5
    go_wp2_with (first
      | ((with_reducible refine gate_dst (N := 16) rfl ?_); refine goesL_ (some 16) rfl rfl Tryd.func7 (by kernel_rfl) rfl #[.int .i64 x] rfl (by first | (simp only [List.map_toArray, List.map_cons, List.map_nil]; rfl) | rfl) ?_; refine (HNW.out).mono ?_; rintro e w1 ⟨rfl, hb⟩; have HB1 := Aside0.mk hb; clear hb; refine ⟨_, rfl, ?_⟩)
      | ((with_reducible refine gate_dst (N := 23) rfl ?_); refine goesL_ (some 23) rfl rfl Tryd.func8 (by kernel_rfl) rfl #[] rfl (by simp) ?_; refine (awake_is _ (HT.out.below HB1.out)).mono ?_; rintro e w2 ⟨rfl, hb⟩; have HB2 := Aside0.mk (HB1.out.trans (hb.mono HB1.out.size)); clear hb; refine ⟨_, rfl, ?_⟩))
    go_ret
    exact ⟨rfl, HB2.out⟩
theorem queuePlays.walk (x : Int) (A : Option Addr) (c : Nat) (l : List S51) (sub : Int) (W : World) (hx : (Lit.int .i64 x).wf = true) (hr : k51.C W A l.length l) (hc : l.length ≤ c) (hg : ∀ z ∈ l, ((Lit.int .i64 z.f0).wf = true) ∧ ((Lit.int .i64 z.f1).wf = true) ∧ (((Lit.int .i64 z.f2.f0).wf = true) ∧ (z.f2.f1.size ≤ maxLen) ∧ ((((Lit.int .i64 z.f2.f2.f0.f0).wf = true) ∧ ((Lit.int .i64 z.f2.f2.f0.f1).wf = true) ∧ ((Lit.int .i64 z.f2.f2.f0.f2).wf = true)) ∧ (z.f2.f2.f1.size ≤ maxLen) ∧ (∀ y ∈ z.f2.f2.f2, (y.f0.size ≤ maxLen) ∧ (((Lit.int .i64 y.f1.f0).wf = true) ∧ ((Lit.int .i64 y.f1.f1).wf = true) ∧ (y.f1.f2.size ≤ maxLen)))))) (hm : l.length ≤ maxLen) (hs : (Lit.int .i64 sub).wf = true) (hT : NC.TabW W) :
    Calls Tryd.prog 5 #[.int .i64 x, .slice A l.length c, .int .i64 sub] W fun e w' => e = .returned (.bool true) ∧ Below W.heap.size W w' := by
  by_cases h : x < 1 ∨ 100 < x
  · exact queuePlays_out x h A c l.length sub W hT
  · obtain ⟨rm, rfl⟩ : ∃ rm : Nat, x = (rm : Int) := ⟨x.toNat, by omega⟩
    exact queuePlays_in rm (by omega) (by omega) A c l sub W hr hc (fun y hy => ⟨(hg y hy).2.1, (hg y hy).2.2.1⟩) hs hT
end Go.Proofs.YtmcochnofkjhaaaDoor.QU
