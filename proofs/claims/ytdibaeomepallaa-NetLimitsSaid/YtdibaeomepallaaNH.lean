/- The net, by hand: slices.Clone, Row. -/
import Derived.Test.YtdibaeomepallaaNG
import Derived.Lib.SliceRun
namespace Go.Proofs.Ytdibaeomepallaa.NW
open Go.RowKit Go.Proofs.YtdibaeomepallaaW.PrintWords Go.Proofs.YtdibaeomepallaaW.PrintLast Go.Proofs.YtdibaeomepallaaW.PrintMore Go.Proofs.Ytdibaeomepallaa.PAll
set_option linter.unusedVariables false
set_option linter.unusedSimpArgs false
set_option maxRecDepth 100000
theorem C_none_nil {α : Type} {d : Kd α} {w : World} {n : Nat} {xs : List α} (h : Kd.C d w none n xs) : xs = [] := by
  rcases Nat.eq_zero_or_pos n with h0 | h0
  · subst h0
    exact List.eq_nil_of_length_eq_zero h.1
  · obtain ⟨ad, h, _⟩ := h.2.2 h0
    cases h
theorem R_lit0 {α : Type} (d : Kd α) (e : Nat) (w : World) (base : Nat) (hb : base ≤ w.heap.size) : d.R e (w.alloc (.cells #[] e)) base (fun _ => True) (.slice (some ⟨w.heap.size, 0, none⟩) 0 0) [] := by
  refine ⟨fun _ _ => trivial, [], ?_, Reps.none _ _⟩
  have h2 := World.ownsRow_lit (base := base) (e := e) (size := d.sz) w #[] 0 hb (by decide) (by simp)
  simpa using h2
set_option maxHeartbeats 4000000 in
theorem clone_is (A0 : Option Addr) (c0 : Nat) (l0 : List Pk) (w : World) (hr0 : Kd.C k28 w A0 l0.length l0) (hc0 : l0.length ≤ c0) (hl : l0.length ≤ 1000) :
    Calls Try.prog 70 #[.slice A0 l0.length c0] w fun e w' => ∃ v0_ : Value, e = .returned (v0_) ∧ Kd.R k28 28 w' w.heap.size (fun _ => True) v0_ l0 ∧ Below w.heap.size w w' := by
  have hu28 := Try.underlying28
  have hnil := fun (W : World) (A : Option Addr) (n : Nat) => Lib.run_eql_slice_nil W 50 28 A n c0 0 0 Try.underlying50
  have HR := Aside0.mk hr0
  have HC := Aside0.mk hc0
  have HB := Aside0.mk (Below.refl w.heap.size w)
  have HL := Aside0.mk hl
  clear hr0 hc0 hl
  cases A0 with
  | none =>
    obtain rfl := C_none_nil HR.out
    go_enter Try.func70, Try.ntmps70
    go_wp2
    go_ret
    exact ⟨_, rfl, Kd.R_nil _ _ _ _ _, HB.out⟩
  | some ad =>
    have HO := Aside0.mk (R_lit0 k28 28 w w.heap.size (Nat.le_refl _))
    have HB1 := Aside0.mk (below_alloc HB.out (.cells #[] 28))
    go_enter Try.func70, Try.ntmps70
    go_wp2_with ((with_reducible refine gate_builtin (b := .append) (xs := #[.tmp 5, .tmp 6]) rfl ?_); at_builtin; refine Kd.R_append_rows k28 (w0 := w) w.heap.size rfl (.tmp 5) (.tmp 6) 50 28 _ 64 rfl Try.underlying50 info28 rfl (by decide) (by omega) _ [] l0 _ _ _ (fun _ => True) (fun _ => False) rfl rfl HO.out (Kd.C_below HR.out HB1.out) (fun x cs h => by rw [k28_open h]; exact k28_mkM _ _ _ x) (fun _ h => h.elim) (fun _ _ => trivial) HB1.out (by simp) (by have := HL.out; simp; omega) ?_; intro v1 w1 h1 h2 h3 h4; have HV := Aside0.mk h1; have HB2 := Aside0.mk h2; clear h1 h2 h3 h4)
    go_ret
    exact ⟨_, rfl, by simpa using HV.out, HB2.out⟩
theorem row_C {w : World} {v : Value} {xs : List Pk} (h : Row w v xs) : ∃ A c, v = .slice A xs.length c ∧ xs.length ≤ c ∧ Kd.C k28 w A xs.length xs := by
  have hx : xs.length ≤ 9223372036854775807 := by
    rcases h with ⟨rfl, _⟩ | ⟨g, cap, cur, rfl, hh, h2, h3, _⟩
    · simp
    · unfold maxLen at h3; omega
  cases hxs : xs with
  | nil =>
    subst hxs
    rcases h with ⟨_, A, rfl, _⟩ | ⟨g, cap, cur, rfl, hh, h2, h3, _⟩
    · exact ⟨A, 0, rfl, Nat.le_refl _, rfl, by simp, fun h => absurd h (by simp)⟩
    · exact ⟨_, cap, rfl, h2, rfl, by simp, fun h => absurd h (by simp)⟩
  | cons x0 r0 =>
    rw [← hxs]
    obtain ⟨b, c, rfl, _⟩ := row_pk h (i := 0) (p := x0) (by rw [hxs]; rfl)
    have hc : xs.length ≤ c := by
      rcases h with ⟨rfl, _⟩ | ⟨g, cap, cur, he, hh, h2, h3, _⟩
      · cases hxs
      · injection he with _ _ he; subst he; exact h2
    refine ⟨_, c, rfl, hc, rfl, hx, fun _ => ⟨_, rfl, fun j p hj => ⟨pk p, rfl, k28_mk w p, fun i u hu => ?_⟩⟩⟩
    obtain ⟨b', c', he, hp⟩ := row_pk h hj
    cases he
    have := hp i u hu
    rw [add_plain]
    exact this
end Go.Proofs.Ytdibaeomepallaa.NW
