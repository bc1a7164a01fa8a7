/- The net, by hand: Clear. -/
import Derived.Test.YtdibaeomepallaaNJ
import Derived.IntWalk
namespace Go.Proofs.Ytdibaeomepallaa.NW
open Go.RowKit Go.Proofs.YtdibaeomepallaaW.PrintWords Go.Proofs.YtdibaeomepallaaW.PrintLast Go.Proofs.YtdibaeomepallaaW.PrintMore Go.Proofs.Ytdibaeomepallaa.PAll
set_option linter.unusedVariables false
set_option linter.unusedSimpArgs false
set_option maxRecDepth 100000
/-- Each row is short. -/
def Short (q : List (List Pk)) : Prop := ∀ (i : Nat) (xs : List Pk), q[i]? = some xs → xs.length ≤ 1000
/-- The rows behind the first n rounds of Clear. -/
def clrQ (q : List (List Pk)) (of : Nat) : Nat → List (List Pk)
  | 0 => q
  | n + 1 => ((clrQ q of n).set (of * 16 + n) []).set (n * 16 + of) []
def clrK (q : List (List Pk)) (of : Nat) : Nat → Nat
  | 0 => 0
  | n + 1 => clrK q of n + (((clrQ q of n).getD (of * 16 + n) []).length + ((clrQ q of n).getD (n * 16 + of) []).length)
theorem clrQ_row {q : List (List Pk)} {of : Nat} (hq : Short q) : ∀ n, Short (clrQ q of n) := by
  intro n
  induction n with
  | zero => exact hq
  | succ n ih =>
    intro i xs h
    unfold clrQ at h
    rw [List.getElem?_set, List.getElem?_set] at h
    split at h
    · split at h
      · injection h with h; subst h; simp
      · cases h
    · split at h
      · split at h
        · injection h with h; subst h; simp
        · cases h
      · exact ih i xs h
theorem clrQ_getD {q : List (List Pk)} {of : Nat} (hq : Short q) (n i : Nat) : ((clrQ q of n).getD i []).length ≤ 1000 := by
  rw [List.getD_eq_getElem?_getD]
  cases h : (clrQ q of n)[i]? with
  | none => simp
  | some xs => exact clrQ_row hq n i xs h
theorem clrK_le {q : List (List Pk)} {of : Nat} (hq : Short q) (n : Nat) : clrK q of n ≤ 2000 * n := by
  induction n with
  | zero => simp [clrK]
  | succ n ih =>
    unfold clrK
    have := clrQ_getD hq (of := of) n (of * 16 + n)
    have := clrQ_getD hq (of := of) n (n * 16 + of)
    omega
theorem row_nil0 (w : World) : Row w (.slice none 0 0) [] := .inl ⟨rfl, none, rfl, fun a ha => by cases ha⟩
theorem NetAt.wipe {w : World} {g : Nat} {vs : List Value} {q : List (List Pk)} {ap : List Bool} (h : NetAt w g vs q ap) {i : Nat} (hi : i < 256) : NetAt (w.setCell ⟨g, i, none⟩ (.slice none 0 0)) g (vs.set i (.slice none 0 0)) (q.set i []) ap := by
  obtain ⟨v, hv⟩ : ∃ v, vs[i]? = some v := ⟨_, List.getElem?_eq_getElem (by rw [h.lv]; exact hi)⟩
  exact h.put hv (w1 := w) ⟨rfl, rfl, rfl, Nat.le_refl _, fun _ _ _ => rfl⟩ (row_nil0 w) (.inl rfl)
theorem NetIn.wipe {F : Nat → Prop} {g : Nat} {vs : List Value} (h : NetIn F g vs) (i : Nat) : NetIn F g (vs.set i (.slice none 0 0)) := h.put (fun _ hk => hk) (fun k hk => by cases hk)
set_option maxHeartbeats 1000000 in
theorem clear_ok {w : World} {F : Nat → Prop} {g : Nat} {q : List (List Pk)} {ap : List Bool} (h : NetW w F g q ap) (of : Nat) (h1 : 1 ≤ of) (h15 : of ≤ 15) (hq : Short q) :
    Calls Try.prog 20 #[.pointer (some ⟨g, 0, none⟩), .int .i64 of] w fun e w' => e = .returned (.int .i64 (clrK q of 16)) ∧ NetW w' F g (clrQ q of 16) ap ∧ Mods (fun k => k = g) w w' := by
  have hu117 := Try.underlying117
  have hu113 := Try.underlying113
  have hu112 := Try.underlying112
  have hn : net_node.f of = some true := by rw [node_is, decide_eq_true (by omega)]
  have HQ := Aside0.mk hq
  have HN := Aside0.mk h
  clear h hq
  have o0 : (0 : Int) ≤ (of : Int) := by omega
  have o16 : (of : Int) < 16 := by omega
  go_enter Try.func20, Try.ntmps20
  go_wp2_with ((with_reducible refine gate_callee (f := 61) rfl ?_); refine gate_guard (by rfl) ?_; dsimp only; refine goesL_ (some 11) rfl rfl Try.func61 (by kernel_rfl) rfl #[.int .i64 of] rfl (by (try simp only [List.map_toArray, List.map_cons, List.map_nil]); rfl) ?_; refine (net_node.calls of true _ hn).mono ?_; rintro e w11 ⟨rfl, hd11⟩; have hb11 := hd11.below; clear hd11; refine ⟨_, rfl, ?_⟩)
  go_loopg [5, 14] 16 (fun kq v5 v14 w' => ∃ i : Nat, v14 = .int .i64 i ∧ v5 = .int .i64 (clrK q of i) ∧ Aside0 (NetW w' F g (clrQ q of i) ap) ∧ Aside0 (i + kq = 16) ∧ Aside0 (Mods (fun k => k = g) w w'))
  case atStart => exact ⟨0, rfl, rfl, ⟨HN.out.below hb11⟩, ⟨rfl⟩, ⟨Mods.of_below hb11⟩⟩
  case round =>
    obtain ⟨i, rfl, rfl, HW, HK, HM⟩ := hrel
    cases gk with
    | zero =>
      have e : i = 16 := by have := HK.out; omega
      subst e
      go_wp2
      go_ret
      exact ⟨rfl, HW.out, HM.out⟩
    | succ k1 =>
      have hi : i < 16 := by have := HK.out; omega
      have d1 : decide ((i : Int) < 16) = true := decide_eq_true (by omega)
      have i0 : (0 : Int) ≤ (i : Int) := by omega
      have i16 : (i : Int) < 16 := by omega
      obtain ⟨vs, h, hin⟩ := HW.out
      obtain ⟨x1, hq1⟩ : ∃ xs, (clrQ q of i)[of * 16 + i]? = some xs := ⟨_, List.getElem?_eq_getElem (by rw [h.lq]; omega)⟩
      obtain ⟨x2, hq2⟩ : ∃ xs, (clrQ q of i)[i * 16 + of]? = some xs := ⟨_, List.getElem?_eq_getElem (by rw [h.lq]; omega)⟩
      obtain ⟨v1, hv1⟩ : ∃ v, vs[of * 16 + i]? = some v := ⟨_, List.getElem?_eq_getElem (by rw [h.lv]; omega)⟩
      obtain ⟨v2, hv2⟩ : ∃ v, vs[i * 16 + of]? = some v := ⟨_, List.getElem?_eq_getElem (by rw [h.lv]; omega)⟩
      obtain ⟨A1, c1, rfl⟩ := h.slice hv1 hq1
      obtain ⟨A2, c2, rfl⟩ := h.slice hv2 hq2
      have hl1 := clrQ_row HQ.out i _ _ hq1
      have hl2 := clrQ_row HQ.out i _ _ hq2
      have hkk := clrK_le HQ.out (of := of) i
      have HS := Aside0.mk (show clrK q of (i + 1) = clrK q of i + (x1.length + x2.length) by
        rw [clrK, List.getD_eq_getElem?_getD, List.getD_eq_getElem?_getD, hq1, hq2]
        rfl)
      have C1 := h.cell hv1
      have C2 := h.cell hv2
      have H := Aside0.mk h
      clear h hq1 hq2
      have s1 : IntKind.i64.wrap ((x1.length : Int) + (x2.length : Int)) = (x1.length : Int) + (x2.length : Int) := IntWalk.i64_in _ (by omega)
      have s2 : IntKind.i64.wrap ((clrK q of i : Int) + ((x1.length : Int) + (x2.length : Int))) = (clrK q of i : Int) + ((x1.length : Int) + (x2.length : Int)) := IntWalk.i64_in _ (by omega)
      go_wp2
      go_quiet (fail)
      clear s1 s2
      go_wp2
      have hD := pw_below_drewN (Below.refl wr.heap.size wr) nq
      have h17 := H.out.below hD
      have HM17 := Aside0.mk (HM.out.then_below hD)
      clear C1 C2 hD
      generalize wr.drewN nq = w17 at *
      have h18 := h17.below (w1 := w17.drew) (below_drew1 (Below.refl _ _))
      have c1 := h18.cell hv1
      have c2 := h18.cell hv2
      have f1 := blk_frozen h18.blk (of * 16 + i)
      have f2 := blk_frozen h18.blk (i * 16 + of)
      have hs1 := h17.wipe (i := of * 16 + i) (by omega)
      have hs2 := h17.wipe (i := i * 16 + of) (by omega)
      have hsb := hs1.wipe (i := i * 16 + of) (by omega)
      obtain ⟨u3, e3⟩ : ∃ v, (vs.set (of * 16 + i) (.slice none 0 0))[i * 16 + of]? = some v := ⟨_, List.getElem?_eq_getElem (by simp [h18.lv]; omega)⟩
      obtain ⟨u4, e4⟩ : ∃ v, (vs.set (i * 16 + of) (.slice none 0 0))[of * 16 + i]? = some v := ⟨_, List.getElem?_eq_getElem (by simp [h18.lv]; omega)⟩
      have c3 := (hs1.below (below_drew1 (Below.refl _ _))).cell e3
      have f3 := blk_frozen (blk_drew hs1.blk) (i * 16 + of)
      have c4 := (hs2.below (below_drew1 (Below.refl _ _))).cell e4
      have f4 := blk_frozen (blk_drew hs2.blk) (of * 16 + i)
      have HB := Aside0.mk hsb
      have HI := Aside0.mk ((hin.wipe (of * 16 + i)).wipe (i * 16 + of))
      have HM18 := Aside0.mk ((HM17.out.set (p := ⟨g, of * 16 + i, none⟩) (.inl rfl) (.slice none 0 0)).set (p := ⟨g, i * 16 + of, none⟩) (.inl rfl) (.slice none 0 0))
      clear hs1 hs2 hsb h18 h17 e3 e4 hv1 hv2
      go_region
      go_wp2
      go_roundg k1
      case measure => omega
      case rel => exact ⟨i + 1, by first | rfl | simp, by rw [HS.out]; simp, ⟨_, HB.out.below (below_drew1 (Below.refl _ _)), HI.out⟩, ⟨by have := HK.out; omega⟩, ⟨HM18.out.drew⟩⟩
end Go.Proofs.Ytdibaeomepallaa.NW
