-- Written by a program of this session over the kit's printer (with contracts of the session's own).
import Derived.Test.YtpdalofhekmbeaaGreatDoorPViewKeepsx0
import Derived.Test.YtpdalofhekmbeaaGreatDoorPViewKeepsx1
import Derived.Test.YtpdalofhekmbeaaGreatDoorPViewKeepsx3
import Derived.Test.YtpdalofhekmbeaaGreatDoorPViewKeepsx4
import Derived.Test.YtpdalofhekmbeaaGreatDoorPViewKeepsx5
import Derived.Test.YtpdalofhekmbeaaGreatDoorPViewKeepsx13
import Derived.Test.YtpdalofhekmbeaaGreatDoorPViewKeepsx16
namespace Go.Proofs.YtpdalofhekmbeaaGreatDoor.PViewKeeps
open Go.RowKit Go.Proofs.YtpdalofhekmbeaaGreatDoorW.PrintWords Go.Proofs.YtpdalofhekmbeaaGreatDoorW.PrintLast Go.Proofs.YtpdalofhekmbeaaGreatDoorW.PrintMore
attribute [local go_sem] max2_int min2_int max_two min_two max_three min_three max_four min_four   -- for this text's walks alone
set_option linter.unusedVariables false
set_option linter.unusedSimpArgs false

attribute [local go_sem high] eqA52
/-! ### view_Gone: function 11 (a contract of this session's own) -/
section
attribute [local go_sem] Oper.semAt_some
/-- Is a member in a list? -/
def memM (l : List S53) (m : S53) : Bool := l.any (fun x => m.f0 == x.f0 && (m.f1 == x.f1 && (m.f2 == x.f2)))
theorem idxM_is (l : List S53) (m : S53) (hl : l.length ≤ 1099511627776) : ∀ (r : List S53) (i k : Nat), l.drop i = r → i + r.length = l.length → r.length < k →
    ∃ v, api_Member_51.l0 k l (l.length : Int) (i : Int) m.f0 m.f1 m.f2 = some v ∧ decide (v ≥ 0) = memM r m := by
  intro r
  induction r with
  | nil =>
    intro i k hd hi hk
    obtain ⟨k, rfl⟩ : ∃ q, k = q + 1 := ⟨k - 1, by simp at hk; omega⟩
    refine ⟨-1, ?_, by simp [memM]⟩
    simp only [api_Member_51.l0]
    rw [if_neg (by simp at hi; omega)]
  | cons x r ih =>
    intro i k hd hi hk
    obtain ⟨k, rfl⟩ : ∃ q, k = q + 1 := ⟨k - 1, by simp at hk; omega⟩
    obtain ⟨hx, hlt, hd2⟩ := rdM_drop hd
    simp only [api_Member_51.l0]
    rw [if_pos (by omega), if_pos (by omega), if_pos (by omega), hx]
    by_cases he : (m.f0 == x.f0 && (m.f1 == x.f1 && (m.f2 == x.f2))) = true
    · rw [if_pos he]
      exact ⟨i, rfl, by simp [memM, he]⟩
    · rw [if_neg he]
      have hw : wrap64 ((i : Int) + 1) = ((i + 1 : Nat) : Int) := by unfold wrap64; omega
      rw [hw]
      obtain ⟨v, hv, hm⟩ := ih (i + 1) k hd2 (by simp at hi; omega) (by simp at hk; omega)
      refine ⟨v, hv, ?_⟩
      have he' : (m.f0 == x.f0 && (m.f1 == x.f1 && (m.f2 == x.f2))) = false := by simpa using he
      rw [hm]
      simp only [memM, List.any_cons, he', Bool.false_or]
theorem hasM_is (k : Nat) (l : List S53) (m : S53) (hl : l.length ≤ 1099511627776) (hk : l.length < k) : api_Member_27.f k l m.f0 m.f1 m.f2 = some (memM l m) := by
  unfold api_Member_27.f api_Member_51.f
  obtain ⟨v, hv, hm⟩ := idxM_is l m hl l 0 k rfl (by omega) hk
  have hv' : api_Member_51.l0 k l (l.length : Int) 0 m.f0 m.f1 m.f2 = some v := hv
  rw [hv', Option.bind_some, hm]
theorem keepsOthers_below {W W' : World} (h : Below W.heap.size W W') : KeepsOthers W W' := ⟨h.size, fun k o hk _ => (h.block k (Array.getElem?_eq_some_iff.1 hk).1).trans hk⟩

def goneOf (l0 l1 : List S53) : List Int := ((l0.filter (·.f2)).filter (fun m => !memM l1 m)).map (·.f0)
def goneP (l1 : List S53) (pre : List S53) : List Int := (pre.filter (fun m => !memM l1 m)).map (·.f0)
theorem goneP_snoc (l1 pre : List S53) (x : S53) : goneP l1 (pre ++ [x]) = if memM l1 x then goneP l1 pre else goneP l1 pre ++ [x.f0] := by
  unfold goneP
  rw [List.filter_append, List.map_append]
  by_cases h : memM l1 x = true
  · simp [h]
  · simp [h]
theorem goneP_le (l1 pre : List S53) : (goneP l1 pre).length ≤ pre.length := by unfold goneP; rw [List.length_map]; exact List.length_filter_le _ _
def view_Gone.f (k : Nat) (a0_0 : Int) (l0_1 : List S53) (a1_0 : Int) (l1_1 : List S53) : Option (List Int) := (view_Check.f k a0_0 l0_1).bind fun t1 => if t1 = true then ((view_Check.f k a1_0 l1_1).bind fun t2 => if t2 = true then (if l0_1.length ≤ 1099511627776 then (if l1_1.length ≤ 1099511627776 then (if l1_1.length < k then some (goneOf l0_1 l1_1) else none) else none) else none) else some []) else some []
theorem view_Gone.mono : ∀ a0 a1 a2 a3 k, LeO (view_Gone.f k a0 a1 a2 a3) (view_Gone.f (k + 1) a0 a1 a2 a3) := by
  intro a0 a1 a2 a3 k
  unfold view_Gone.f
  refine LeO.bind (view_Check.mono _ _ _) fun _ => LeO.ite (LeO.bind (view_Check.mono _ _ _) fun _ => LeO.ite (LeO.ite (LeO.ite ?_ (LeO.refl _)) (LeO.refl _)) (LeO.refl _)) (LeO.refl _)
  intro r h
  by_cases hk : a3.length < k
  · rw [if_pos hk] at h
    rw [if_pos (by omega)]
    exact h
  · rw [if_neg hk] at h
    cases h
set_option maxHeartbeats 8000000 in
set_option maxRecDepth 100000 in
theorem view_Gone.calls (k : Nat) (a0_0 : Int) (A0_1 : Option Addr) (c0_1 : Nat) (l0_1 : List (S53)) (a1_0 : Int) (A1_1 : Option Addr) (c1_1 : Nat) (l1_1 : List (S53)) (r : List Int) (w : World) (hr0_1 : Kd.C k53 w A0_1 l0_1.length l0_1) (hc0_1 : l0_1.length ≤ c0_1) (hr1_1 : Kd.C k53 w A1_1 l1_1.length l1_1) (hc1_1 : l1_1.length ≤ c1_1) (h : view_Gone.f k a0_0 l0_1 a1_0 l1_1 = some r) :
    Calls Tryz.prog 11 #[.agg #[.int .i64 a0_0, .slice A0_1 l0_1.length c0_1], .agg #[.int .i64 a1_0, .slice A1_1 l1_1.length c1_1]] w fun e w' => ∃ v0_ : Value, e = .returned (v0_) ∧ Kd.R (Kd.int .i64) 3 w' w.heap.size (fun _ => True) v0_ r ∧ Below w.heap.size w w' := by
  have hu24 := Tryz.underlying24
  have hu53 := Tryz.underlying53
  unfold view_Gone.f at h
  obtain ⟨t1, h1, h⟩ := Option.bind_eq_some_iff.mp h
  have hB1 := below_alloc (below_alloc (Below.refl w.heap.size w) (.cells #[.int .i64 a0_0, .slice A0_1 l0_1.length c0_1] 24)) (.cells #[.int .i64 a1_0, .slice A1_1 l1_1.length c1_1] 24)
  obtain ⟨w1, hw1⟩ : ∃ w1, (w.alloc (.cells #[.int .i64 a0_0, .slice A0_1 l0_1.length c0_1] 24)).alloc (.cells #[.int .i64 a1_0, .slice A1_1 l1_1.length c1_1] 24) = w1 := ⟨_, rfl⟩
  have hx0 : w1.cell? ⟨w.heap.size, 0, none⟩ = some (.int .i64 a0_0) := by rw [← hw1]; simp
  have hx1 : w1.cell? ⟨w.heap.size, 1, none⟩ = some (.slice A0_1 l0_1.length c0_1) := by rw [← hw1]; simp
  have hy0 : w1.cell? ⟨w.heap.size + 1, 0, none⟩ = some (.int .i64 a1_0) := by rw [← hw1]; simp
  have hy1 : w1.cell? ⟨w.heap.size + 1, 1, none⟩ = some (.slice A1_1 l1_1.length c1_1) := by rw [← hw1]; simp
  rw [hw1] at hB1
  have hA1 := view_Check.calls k a0_0 A0_1 c0_1 l0_1 t1 _ (Kd.C_below hr0_1 hB1) hc0_1 h1
  clear h1
  refine (callsIn_wide (n := 5)).1 ?_
  refine callsIn_of_wp_marks Tryz.func11 rfl trivial ?_ rfl
  simp only [Tryz.ntmps11, List.size_toArray, List.length_cons, List.length_nil, Nat.reduceAdd, Nat.reduceSub, Array.replicate_succ, Array.replicate_zero, List.push_toArray, List.append_toArray, List.nil_append, List.cons_append]
  cases t1 with
  | false =>
    rw [if_neg (by decide)] at h
    obtain rfl := Option.some.inj h
    clear h
    gi_wp2_with (first | (refine ⟨trivial, ?_⟩; gi_at_call 25; refine (callsIn_wide.2 hA1).mono ?_; rintro e w5 ⟨rfl, hb⟩))
    refine ⟨trivial, ?_⟩
    gi_wp2
    exact ⟨_, results_tmp rfl _ _ _, _, rfl, Kd.R_nil _ _ _ _ _, hB1.trans (hb.mono hB1.size)⟩
  | true =>
    rw [if_pos rfl] at h
    obtain ⟨t2, h2, h⟩ := Option.bind_eq_some_iff.mp h
    have hA2 : ∀ w5, Below w.heap.size w w5 → Calls Tryz.prog 25 #[.agg #[.int .i64 a1_0, .slice A1_1 l1_1.length c1_1]] w5 _ := fun w5 hb5 => view_Check.calls k a1_0 A1_1 c1_1 l1_1 t2 w5 (Kd.C_below hr1_1 hb5) hc1_1 h2
    clear h2
    cases t2 with
    | false =>
      rw [if_neg (by decide)] at h
      obtain rfl := Option.some.inj h
      clear h
      gi_wp2_with (first
        | (refine ⟨trivial, ?_⟩; gi_at_call 25; refine (callsIn_wide.2 hA1).mono ?_; rintro e w5 ⟨rfl, hb⟩; clear hA1; have hb5 := hB1.trans (hb.mono hB1.size); have hA3 := hA2 w5 hb5; have hu0 := (hb.cell (World.block_lt_of_cell? _ _ hy0)).trans hy0; have hu1 := (hb.cell (World.block_lt_of_cell? _ _ hy1)).trans hy1)
        | (refine ⟨trivial, ?_⟩; gi_at_call 25; refine (callsIn_wide.2 hA3).mono ?_; rintro e w6 ⟨rfl, hb6⟩))
      exact ⟨_, results_tmp rfl _ _ _, _, rfl, Kd.R_nil _ _ _ _ _, hb5.trans (hb6.mono hb5.size)⟩
    | true =>
      rw [if_pos rfl] at h
      by_cases hl : l0_1.length ≤ 1099511627776
      case neg =>
        rw [if_neg hl] at h
        cases h
      rw [if_pos hl] at h
      by_cases hl1 : l1_1.length ≤ 1099511627776
      case neg =>
        rw [if_neg hl1] at h
        cases h
      rw [if_pos hl1] at h
      by_cases hk : l1_1.length < k
      case neg =>
        rw [if_neg hk] at h
        cases h
      rw [if_pos hk] at h
      obtain rfl := Option.some.inj h
      clear h
      obtain ⟨i0, hi, hz0, hz1, hz2⟩ := info_parts info3
      gi_wp2_with (first
        | (refine ⟨trivial, ?_⟩; gi_at_call 25; refine (callsIn_wide.2 hA1).mono ?_; rintro e w5 ⟨rfl, hb⟩; clear hA1; have hb5 := hB1.trans (hb.mono hB1.size); have hA3 := hA2 w5 hb5; have hu0 := (hb.cell (World.block_lt_of_cell? _ _ hy0)).trans hy0; have hu1 := (hb.cell (World.block_lt_of_cell? _ _ hy1)).trans hy1; have hv0 := (hb.cell (World.block_lt_of_cell? _ _ hx0)).trans hx0; have hv1 := (hb.cell (World.block_lt_of_cell? _ _ hx1)).trans hx1)
        | (refine ⟨trivial, ?_⟩; gi_at_call 25; refine (callsIn_wide.2 hA3).mono ?_; rintro e w6 ⟨rfl, hb6⟩; clear hA3; have hb7 := hb5.trans (hb6.mono hb5.size); have hp0 := (hb6.cell (World.block_lt_of_cell? _ _ hv0)).trans hv0; have hp1 := (hb6.cell (World.block_lt_of_cell? _ _ hv1)).trans hv1; have hq1 := (hb6.cell (World.block_lt_of_cell? _ _ hu1)).trans hu1; have hs0 := (below_alloc (Below.refl w6.heap.size w6) (.cells #[.slice none 0 0] 27)).cell (World.block_lt_of_cell? _ _ hp0) |>.trans hp0; have hs1 := (below_alloc (Below.refl w6.heap.size w6) (.cells #[.slice none 0 0] 27)).cell (World.block_lt_of_cell? _ _ hp1) |>.trans hp1)
        | (refine ⟨trivial, ?_⟩; gi_at_call 26; refine (up_in Fence.wide _ trivial rfl _ _ _ _ _).mono ?_; rintro e w7 ⟨rfl, rfl⟩))
      have hsz5 : w.heap.size < w6.heap.size := by have := hB1.size; have := hb.size; have := hb6.size; have e1 : w1.heap.size = w.heap.size + 2 := by rw [← hw1]; simp
                                                   omega
      have bO := Boxed.new w6 27 (.slice none 0 0)
      obtain ⟨W0, hW0⟩ : ∃ W0, (w6.alloc (.cells #[.slice none 0 0] 27)).alloc (.cells #[.int .i64 a0_0, .slice A0_1 l0_1.length c0_1] 24) = W0 := ⟨_, rfl⟩
      have hBW0 : Below w6.heap.size w6 W0 := by rw [← hW0]; exact below_alloc (below_alloc (Below.refl _ _) _) _
      have hszW : W0.heap.size = w6.heap.size + 2 := by rw [← hW0]; simp
      have bO0 : Boxed W0 w6.heap.size 27 (.slice none 0 0) := by rw [← hW0]; exact bO.alloc _
      have hBs : W0.cell? ⟨w6.heap.size + 1, 1, none⟩ = some (.slice A0_1 l0_1.length c0_1) := by rw [← hW0]; simp
      have hr0' := Kd.C_below hr0_1 hb7
      have hr1' := Kd.C_below hr1_1 hb7
      rw [hW0]
      clear hW0 bO hv0 hv1 hy0 hy1 hb hx0 hx1 hu0 hu1 hs0 hs1 hp0 hp1 hb5 hb6 hA2
      refine wpIn_rangeFunc_ownH rfl (by omega) (gf := 50) (lb := #[.pointer (some ⟨w6.heap.size + 1, 0, none⟩)]) rfl trivial (enters_of Tryz.func50 (by kernel_rfl) rfl)
        (up_stops Fence.wide _ trivial rfl (by omega) (w6.heap.size + 1) A0_1 c0_1 l0_1 w6 W0 hr0' hBW0 hBs) belowK_t (belowK_b (by omega)) (Below.refl _ _) (fun _ => rfl)
        (fun pre W => (∃ v, Boxed W w6.heap.size 27 v ∧ W.ownsRow w6.heap.size 3 1 v (goneP l1_1 pre).length ((goneP l1_1 pre).map (Value.int .i64)) ∧ True) ∧ Below w6.heap.size w6 W)
        (fun _ _ _ => False)
        (OwnFrom.and (Own.from (holdsRow_own w6.heap.size w6.heap.size 27 3 1 (fun (pre : List S53) => (goneP l1_1 pre).length) (fun (pre : List S53) => (goneP l1_1 pre).map (Value.int .i64)) (fun _ _ => True)) _) (ownFrom_below (Nat.le_refl _) (by omega)))
        (fun _ _ _ _ _ hs _ _ => hs)
        ⟨⟨_, bO0, World.ownsRow_nil _ _ _ _, trivial⟩, hBW0⟩
        (fun x a' W => ∃ Bx, w6.heap.size < Bx ∧ BoxM W Bx x ∧ a' = { tmps := #[.agg #[.int .i64 a0_0, .slice A0_1 l0_1.length c0_1], .agg #[.int .i64 a1_0, .slice A1_1 l1_1.length c1_1], .pointer (some ⟨w.heap.size, 0, none⟩), .pointer (some ⟨w.heap.size + 1, 0, none⟩), .slice none 0 0, .pointer (some ⟨w6.heap.size, 0, none⟩), .pointer (some ⟨Bx, 0, none⟩), .agg #[.int .i64 a0_0, .slice A0_1 l0_1.length c0_1], .bool true, .bool false, .bool false, .agg #[.int .i64 a1_0, .slice A1_1 l1_1.length c1_1], .bool true, .bool false, .bool false, .agg #[.int .i64 a0_0, .slice A0_1 l0_1.length c0_1], .func (.func 50) #[] #[.pointer (some ⟨w6.heap.size + 1, 0, none⟩)], .agg #[.int .i64 x.f0, .int .i64 x.f1, .bool x.f2], undef, undef, undef, undef, undef, undef, undef, undef, undef, undef, undef], defers := [] })
        (fun x a' _ X Y row hs hg hr => by obtain ⟨Bx, h1, h2, h3⟩ := hs; exact ⟨Bx, h1, h2.own hg (fun r e => (hr r e).2), h3⟩)
        ?assign ?body ?done ?stop
      case assign =>
        rintro l pre x W K ⟨⟨v, hv, hrow, _⟩, hB⟩ hK
        have hvl := hv.lt
        simp only [agM]
        gi_wp2
        exact hK _ _ ((KeepsOthers.alloc _ _).from _) ((Below.refl _ W).alloc hB.size _) ⟨⟨v, hv.alloc _, hrow.alloc _, trivial⟩, hB.alloc hB.size _⟩ ⟨W.heap.size, hvl, BoxM.new W x, rfl⟩
      case body =>
        rintro l pre x a' W hl2 ⟨r, hr⟩ ⟨⟨v, hv, hrow, _⟩, hB⟩ ⟨Bx, hBx, bX, rfl⟩ hlt
        have hx0 := bX.cell0
        have hx1 := bX.cell1
        have hx2 := bX.cell2
        have hq2 := (hB.cell (World.block_lt_of_cell? _ _ hq1)).trans hq1
        have hcon := api_Member_27.calls k A1_1 c1_1 l1_1 x.f0 x.f1 x.f2 (memM l1_1 x) W (Kd.C_below hr1' hB) hc1_1 (hasM_is k l1_1 x hl1 hk)
        have hsn := goneP_snoc l1_1 pre x
        have hgl := goneP_le l1_1 pre
        by_cases hm : memM l1_1 x = true
        · rw [hm] at hcon
          rw [if_pos hm] at hsn
          gi_wp2_with (refine ⟨trivial, ?_⟩; gi_at_call 27; refine (CallsIn.inRound l (callsIn_wide.2 hcon)).mono ?_; rintro e w' ⟨rfl, hb⟩)
          exact ⟨(keepsOthers_below hb).from _, hb.mono hB.size, ⟨v, (hb.block _ hv.lt).trans hv, by rw [hsn]; exact pw_own_below hrow hb, trivial⟩, hB.trans (hb.mono hB.size)⟩
        · rw [if_neg hm] at hsn
          have hm' : memM l1_1 x = false := by simpa using hm
          rw [hm'] at hcon
          gi_wp2_with (first
            | (refine ⟨trivial, ?_⟩; gi_at_call 27; refine (CallsIn.inRound l (callsIn_wide.2 hcon)).mono ?_; rintro e W5 ⟨rfl, hb⟩; have hwv : Boxed W5 w6.heap.size 27 v := (hb.block _ hv.lt).trans hv; have hwr := pw_own_below hrow hb; have hc := hwv.cell; have hz0 := (hb.cell (World.block_lt_of_cell? _ _ hx0)).trans hx0; have hBz := hB.trans (hb.mono hB.size))
            | (gi_at_builtin; refine wpListIn_append_own _ rfl _ _ 27 rfl w6.heap.size 3 i0 (.int .i64 0) 1 8 Tryz.underlying27 hi (by assumption) hz1 hz2 rfl (by decide) _ _ _ rfl (hwr.alloc _) ⟨W5.heap.size, 0, none⟩ 1 1 [.int .i64 x.f0] rfl rfl (cell_one_new _ _ _) (by simp [Value.oneCell']) (by unfold maxLen; omega) (by omega) (by have := hBz.size; simp; omega) ?_; intro v' w1 hown' hgrow _; obtain ⟨g', cap', rfl⟩ := ownsRow_succ hown'; obtain ⟨hv1, hv2, hr2, hk2, hb2⟩ := hwv.appended (by decide) hwr hBz.size (by omega) hown' hgrow; have hc1 := hv1.cell; have hf1 := hv1.frozen))
          exact ⟨(keepsOthers_below hb).trans hk2 |>.from _, (hb.mono hB.size).trans hb2, ⟨_, hv2, by rw [hsn, List.length_append, List.map_append]; exact hr2, trivial⟩, hBz.trans hb2⟩
      case done =>
        rintro D ys W hD rfl ⟨⟨v, hv, hrow, _⟩, hB⟩ hK
        have hc := hv.cell
        gi_wp2
        refine ⟨by simp, .inl ⟨_, _, rfl, run_takeDeferred hK, ?_⟩⟩
        refine ⟨_, results_tmp rfl _ _ _, v, rfl, ?_, (hb7.trans (hB.mono hb7.size)).trans (belowK_b (w := w) (Nat.le_refl _) W D _ _ (by omega) hK rfl rfl)⟩
        have ho := ownsRow_putObj hrow (.deferred none) hK rfl
        refine Kd.R_lower (Kd.R_of_own (xs := goneOf l0_1 l1_1) ?_ (fun _ _ => trivial)) hb7.size
        exact ho
      case stop =>
        rintro D c pre W _ _ h _
        exact h.elim
end

/-! ### caduceusref14_Gone: function 12 -/
mutual
def caduceusref14_Gone.l0 : Nat → List Int → Int → Int → List (S52) → Int → List (S52) → Option (List Int)
 | 0, _, _, _, _, _, _ => none
 | k + 1, x5, x6, x353000, x353001, x354000, x354001 => if x6 < (x353001.length : Int) then ((caduceusref14_Check.f k x353000 x353001).bind fun t354 => (if t354 = true then ((caduceusref14_Check.f k x354000 x354001).bind fun t355 => (caduceusref14_Gone.j1 k x5 x6 t355 x353000 x353001 x354000 x354001)) else (caduceusref14_Gone.j1 k x5 x6 false x353000 x353001 x354000 x354001))) else (caduceusref14_Gone.j1 k x5 x6 false x353000 x353001 x354000 x354001)
def caduceusref14_Gone.j1 : Nat → List Int → Int → Bool → Int → List (S52) → Int → List (S52) → Option (List Int)
 | 0, _, _, _, _, _, _, _ => none
 | k + 1, x5, x6, x21, x353000, x353001, x354000, x354001 => if x21 = true then (caduceusref14_Gone.l1 k x5 x6 false 0 x353000 x353001 x354000 x354001) else (some x5)
def caduceusref14_Gone.l1 : Nat → List Int → Int → Bool → Int → Int → List (S52) → Int → List (S52) → Option (List Int)
 | 0, _, _, _, _, _, _, _, _ => none
 | k + 1, x5, x6, x7, x8, x353000, x353001, x354000, x354001 => if x8 < (x354001.length : Int) then (if x7 = true then (caduceusref14_Gone.l1 k x5 x6 true (wrap64 (x8 + 1)) x353000 x353001 x354000 x354001) else (if 0 ≤ x8 then (if 0 ≤ x6 then (if x6 < (x353001.length : Int) then (caduceusref14_Gone.l1 k x5 x6 (((rd_T52 x354001 x8).f0) == ((rd_T52 x353001 x6).f0) && (((rd_T52 x354001 x8).f1) == ((rd_T52 x353001 x6).f1) && (((rd_T52 x354001 x8).f2) == ((rd_T52 x353001 x6).f2)))) (wrap64 (x8 + 1)) x353000 x353001 x354000 x354001) else (none)) else (none)) else (none))) else (if 0 ≤ x6 then (if x6 < (x353001.length : Int) then (if (rd_T52 x353001 x6).f2 = true then (if x7 = true then (caduceusref14_Gone.l0 k x5 (wrap64 (x6 + 1)) x353000 x353001 x354000 x354001) else (if x5.length < 17592186044416 then (caduceusref14_Gone.l0 k (x5 ++ [(rd_T52 x353001 x6).f0]) (wrap64 (x6 + 1)) x353000 x353001 x354000 x354001) else (none))) else (caduceusref14_Gone.l0 k x5 (wrap64 (x6 + 1)) x353000 x353001 x354000 x354001)) else (none)) else (none))
end
def caduceusref14_Gone.f (k : Nat) (a0_0 : Int) (l0_1 : List (S52)) (a1_0 : Int) (l1_1 : List (S52)) : Option (List Int) := caduceusref14_Gone.l0 k ([] : List Int) 0 a0_0 l0_1 a1_0 l1_1
theorem caduceusref14_Gone.mono_l : ∀ k, (∀ y0 y1 y2 y3 y4 y5, LeO (caduceusref14_Gone.l0 k y0 y1 y2 y3 y4 y5) (caduceusref14_Gone.l0 (k + 1) y0 y1 y2 y3 y4 y5)) ∧ (∀ y0 y1 y2 y3 y4 y5 y6, LeO (caduceusref14_Gone.j1 k y0 y1 y2 y3 y4 y5 y6) (caduceusref14_Gone.j1 (k + 1) y0 y1 y2 y3 y4 y5 y6)) ∧ (∀ y0 y1 y2 y3 y4 y5 y6 y7, LeO (caduceusref14_Gone.l1 k y0 y1 y2 y3 y4 y5 y6 y7) (caduceusref14_Gone.l1 (k + 1) y0 y1 y2 y3 y4 y5 y6 y7))
 | 0 => ⟨fun _ _ _ _ _ _ r h => by simp [caduceusref14_Gone.l0] at h, fun _ _ _ _ _ _ _ r h => by simp [caduceusref14_Gone.j1] at h, fun _ _ _ _ _ _ _ _ r h => by simp [caduceusref14_Gone.l1] at h⟩
 | k + 1 => by
  obtain ⟨ih0, ih1, ih2⟩ := caduceusref14_Gone.mono_l k
  refine ⟨?_, ?_, ?_⟩
  ·intro y0 y1 y2 y3 y4 y5
   unfold caduceusref14_Gone.l0
   repeat' first
   | (with_reducible exact ih1 _ _ _ _ _ _ _)
   | (with_reducible exact caduceusref14_Check.mono _ _ _)
   | (with_reducible refine LeO.ite ?_ ?_)
   | (with_reducible refine LeO.bind ?_ (fun _ => ?_))

  ·intro y0 y1 y2 y3 y4 y5 y6
   unfold caduceusref14_Gone.j1
   repeat' first
   | (with_reducible exact ih2 _ _ _ _ _ _ _ _)
   | (with_reducible exact LeO.refl _)
   | (with_reducible refine LeO.ite ?_ ?_)

  ·intro y0 y1 y2 y3 y4 y5 y6 y7
   unfold caduceusref14_Gone.l1
   repeat' first
   | (with_reducible exact ih0 _ _ _ _ _ _)
   | (with_reducible exact ih2 _ _ _ _ _ _ _ _)
   | (with_reducible exact LeO.refl _)
   | (with_reducible refine LeO.ite ?_ ?_)

theorem caduceusref14_Gone.mono : ∀ a0 a1 a2 a3 k, LeO (caduceusref14_Gone.f k a0 a1 a2 a3) (caduceusref14_Gone.f (k + 1) a0 a1 a2 a3) := by
 intro a0 a1 a2 a3 k
 obtain ⟨ih0, ih1, ih2⟩ := caduceusref14_Gone.mono_l k
 unfold caduceusref14_Gone.f
 repeat' first
   | (with_reducible exact ih0 _ _ _ _ _ _)

set_option maxHeartbeats 8000000 in
set_option maxRecDepth 100000 in
theorem caduceusref14_Gone.calls (k : Nat) (a0_0 : Int) (A0_1 : Option Addr) (c0_1 : Nat) (l0_1 : List (S52)) (a1_0 : Int) (A1_1 : Option Addr) (c1_1 : Nat) (l1_1 : List (S52)) (r : List Int) (w : World) (hr0_1 : Kd.C k52 w A0_1 l0_1.length l0_1) (hc0_1 : l0_1.length ≤ c0_1) (hr1_1 : Kd.C k52 w A1_1 l1_1.length l1_1) (hc1_1 : l1_1.length ≤ c1_1) (h : caduceusref14_Gone.f k a0_0 l0_1 a1_0 l1_1 = some r) :
  Calls Tryz.prog 12 #[.agg #[.int .i64 a0_0, .slice A0_1 l0_1.length c0_1], .agg #[.int .i64 a1_0, .slice A1_1 l1_1.length c1_1]] w fun e w' => ∃ v0_ : Value, e = .returned (v0_) ∧ Kd.R (Kd.int .i64) 3 w' w.heap.size (fun _ => True) v0_ r ∧ Below w.heap.size w w' := by
 have hu31 := Tryz.underlying31
 have hu52 := Tryz.underlying52
 have HR0_1 := Aside0.mk hr0_1
 have HC0_1 := Aside0.mk hc0_1
 clear hr0_1 hc0_1
 have HR1_1 := Aside0.mk hr1_1
 have HC1_1 := Aside0.mk hc1_1
 clear hr1_1 hc1_1
 have HB := Aside0.mk (Below.refl w.heap.size w)
 have H : (caduceusref14_Gone.l0 k ([] : List Int) 0 a0_0 l0_1 a1_0 l1_1) = some r := h
 clear h
 have H' := Aside0.mk H
 clear H
 go_enter Tryz.func12, Tryz.ntmps12
 go_wp2_with (first | ((with_reducible refine gate_dst (N := 2) rfl ?_); refine box_event ?hg (N := 2) ?hd (cs := #[.int .i64 a0_0, .slice A0_1 l0_1.length c0_1]) (t := 31) ?hr ?_; (case hd => rfl); (case hg => rfl); (case hr => first | (go_simp; done) ); intro gb352 hg w3 hbox hb; have n0_ := Aside0.mk (below_step (by repeat (first | (with_reducible first | exact HB.out ) )) hb); have n1_ := Aside0.mk (hbox); have n2_ := Aside0.mk ((by rw [hg]; exact (below_size (by repeat (first | (with_reducible first | exact HB.out ) ))) : w.heap.size ≤ gb352)); have n3_ := Aside0.mk ((by rw [hg]; exact (below_size (by repeat (first | (with_reducible first | exact HB.out ) ))) : w.heap.size ≤ gb352)); clear HB; have HB := n0_; have BK352 := n1_; have GW352 := n2_; have GE352 := n3_; clear n0_ n1_ n2_ n3_; clear hb hbox hg) | ((with_reducible refine gate_dst (N := 3) rfl ?_); refine box_event ?hg (N := 3) ?hd (cs := #[.int .i64 a1_0, .slice A1_1 l1_1.length c1_1]) (t := 31) ?hr ?_; (case hd => rfl); (case hg => rfl); (case hr => first | (go_simp; done) ); intro gb353 hg w4 hbox hb; have n0_ := Aside0.mk (blk_below (g := gb352) (o := .cells #[.int .i64 a0_0, .slice A0_1 l0_1.length c0_1] 31 (0, 0)) (by (with_reducible repeat (fail)); exact BK352.out) hb); have n1_ := Aside0.mk (below_step (by repeat (first | (with_reducible first | exact HB.out ) )) hb); have n2_ := Aside0.mk (hbox); have n3_ := Aside0.mk ((by rw [hg]; exact (below_size (by repeat (first | (with_reducible first | exact HB.out ) ))) : w.heap.size ≤ gb353)); have n4_ := Aside0.mk ((by rw [hg]; exact (below_size (by repeat (first | (with_reducible first | exact HB.out ) ))) : w.heap.size ≤ gb353)); have n5_ := Aside0.mk ((by rw [hg]; exact Nat.ne_of_lt (blk_lt (g := gb352) (o := .cells #[.int .i64 a0_0, .slice A0_1 l0_1.length c0_1] 31 (0, 0)) (by (with_reducible repeat (fail)); exact BK352.out)) : gb352 ≠ gb353)); have n6_ := Aside0.mk ((by rw [hg]; exact Nat.ne_of_gt (blk_lt (g := gb352) (o := .cells #[.int .i64 a0_0, .slice A0_1 l0_1.length c0_1] 31 (0, 0)) (by (with_reducible repeat (fail)); exact BK352.out)) : gb353 ≠ gb352)); clear BK352; clear HB; have BK352 := n0_; have HB := n1_; have BK353 := n2_; have GW353 := n3_; have GE353 := n4_; have NB352_353 := n5_; have NB353_352 := n6_; clear n0_ n1_ n2_ n3_ n4_ n5_ n6_; clear hb hbox hg))
 go_loopg [5, 6] k (fun kq v5 v6 w' => ∃ (x5_1 : List Int) (x6_1 : Int), v6 = .int .i64 x6_1 ∧ Aside0 (caduceusref14_Gone.l0 kq x5_1 x6_1 a0_0 l0_1 a1_0 l1_1 = some r) ∧ Aside0 (kq ≤ k) ∧ Aside0 (Kd.R (Kd.int .i64) 3 w' w.heap.size (fun _ => True) v5 x5_1) ∧ Aside0 (w'.heap[gb352]? = some (.cells #[.int .i64 a0_0, (.slice A0_1 l0_1.length c0_1)] 31 (0, 0))) ∧ Aside0 (w'.heap[gb353]? = some (.cells #[.int .i64 a1_0, (.slice A1_1 l1_1.length c1_1)] 31 (0, 0))) ∧ Aside0 (Below w.heap.size w w'))
 case atStart => exact ⟨(([] : List Int)), (0), (by first | rfl ), H', ⟨Nat.le_refl _⟩, ⟨by first | exact Kd.R_nil _ _ _ _ _ ⟩, ⟨by (with_reducible repeat (fail)); exact BK352.out⟩, ⟨by (with_reducible repeat (fail)); exact BK353.out⟩, ⟨by repeat (first | (with_reducible first | exact HB.out ) )⟩⟩
 case round =>
  clear H'
  try clear c1
  try clear p2
  obtain ⟨x5_1, x6_1, rfl, HA, HK1, HO_5, BK352, BK353, HB⟩ := hrel
  cases gk with
  | zero => exact absurd HA.out (by simp [caduceusref14_Gone.l0])
  | succ k1 =>
   have H := HA.out
   clear HA
   simp only [caduceusref14_Gone.l0] at H
   have HC5 := Aside0.mk H
   clear H
   go_upto_region 3 with (fail)
   go_cut [21] (fun v21 wc => ∃ (kq : Nat) (x21_4 : Bool), v21 = .bool x21_4 ∧ Aside0 (caduceusref14_Gone.j1 kq x5_1 x6_1 x21_4 a0_0 l0_1 a1_0 l1_1 = some r) ∧ Aside0 (kq ≤ k1) ∧ Aside0 (Kd.R (Kd.int .i64) 3 wc w.heap.size (fun _ => True) u5 x5_1) ∧ Aside0 (wc.heap[gb352]? = some (.cells #[.int .i64 a0_0, (.slice A0_1 l0_1.length c0_1)] 31 (0, 0))) ∧ Aside0 (wc.heap[gb353]? = some (.cells #[.int .i64 a1_0, (.slice A1_1 l1_1.length c1_1)] 31 (0, 0))) ∧ Aside0 (Below w.heap.size w wc))
   case first =>
    have H := HC5.out
    clear HC5
    by_cases c6 : x6_1 < (l0_1.length : Int)
    ·rw [if_pos c6] at H
     have c6b0 : decide (x6_1 < (l0_1.length : Int)) = true := decide_eq_true c6
     clear c6
     (first | skip)
     replace H := Option.bind_eq_some_iff.mp H
     obtain ⟨t354, A70, H⟩ := H
     replace H : (if t354 = true then ((caduceusref14_Check.f k1 a1_0 l1_1).bind fun t355 => (caduceusref14_Gone.j1 k1 x5_1 x6_1 t355 a0_0 l0_1 a1_0 l1_1)) else (caduceusref14_Gone.j1 k1 x5_1 x6_1 false a0_0 l0_1 a1_0 l1_1)) = some r := H
     have A7 := Aside0.mk A70
     clear A70
     by_cases c8 : t354 = true
     ·subst c8
      have H1 : ((caduceusref14_Check.f k1 a1_0 l1_1).bind fun t355 => (caduceusref14_Gone.j1 k1 x5_1 x6_1 t355 a0_0 l0_1 a1_0 l1_1)) = some r := by rw [if_pos rfl] at H; exact H
      clear H
      have H := H1
      clear H1
      replace H := Option.bind_eq_some_iff.mp H
      obtain ⟨t355, A90, H⟩ := H
      replace H : (caduceusref14_Gone.j1 k1 x5_1 x6_1 t355 a0_0 l0_1 a1_0 l1_1) = some r := H
      have A9 := Aside0.mk A90
      clear A90
      have H' := Aside0.mk H
      clear H
      have hnb10 := NB352_353.out
      have hnc10 := NB353_352.out
      have hcz11_0 : wr.cell? ⟨gb352, 0, none⟩ = some (.int .i64 a0_0) := (blk_cell BK352.out 0).trans rfl
      have hcz11_1 : wr.cell? ⟨gb352, 1, none⟩ = some (.slice A0_1 l0_1.length c0_1) := (blk_cell BK352.out 1).trans rfl
      have hfz11_0 := blk_frozen BK352.out 0
      have hfz11_1 := blk_frozen BK352.out 1
      go_wp2_with (first | (go_at_call 28; (with_reducible refine (caduceusref14_Check.calls k1 a0_0 _ _ l0_1 true _ ?side1 ?side2 A7.out).mono ?_); (case side1 => repeat (first | exact (Kd.C_below HR0_1.out HB.out) )); (case side2 => exact HC0_1.out); rintro e w12 ⟨rfl, hb⟩; have n0_ := Aside0.mk (Kd.R_below (by (with_reducible repeat (fail)); exact HO_5.out) hb); have n1_ := Aside0.mk (blk_below (g := gb352) (o := .cells #[.int .i64 a0_0, .slice A0_1 l0_1.length c0_1] 31 (0, 0)) (by (with_reducible repeat (fail)); exact BK352.out) hb); have n2_ := Aside0.mk (blk_below (g := gb353) (o := .cells #[.int .i64 a1_0, .slice A1_1 l1_1.length c1_1] 31 (0, 0)) (by (with_reducible repeat (fail)); exact BK353.out) hb); have n3_ := Aside0.mk (below_step (by repeat (first | (with_reducible first | exact HB.out ) )) hb); clear HO_5; clear BK352; clear BK353; clear HB; have HO_5 := n0_; have BK352 := n1_; have BK353 := n2_; have HB := n3_; clear n0_ n1_ n2_ n3_; (try clear hb); (try clear hb2); (try clear hk); (try clear hi); have hcz13_0 : w12.cell? ⟨gb353, 0, none⟩ = some (.int .i64 a1_0) := (blk_cell BK353.out 0).trans rfl; have hcz13_1 : w12.cell? ⟨gb353, 1, none⟩ = some (.slice A1_1 l1_1.length c1_1) := (blk_cell BK353.out 1).trans rfl; have hfz13_0 := blk_frozen BK353.out 0; have hfz13_1 := blk_frozen BK353.out 1) | (go_at_call 28; (with_reducible refine (caduceusref14_Check.calls k1 a1_0 _ _ l1_1 t355 _ ?side1 ?side2 A9.out).mono ?_); (case side1 => repeat (first | exact (Kd.C_below HR1_1.out HB.out) )); (case side2 => exact HC1_1.out); rintro e w14 ⟨rfl, hb⟩; have n0_ := Aside0.mk (Kd.R_below (by (with_reducible repeat (fail)); exact HO_5.out) hb); have n1_ := Aside0.mk (blk_below (g := gb352) (o := .cells #[.int .i64 a0_0, .slice A0_1 l0_1.length c0_1] 31 (0, 0)) (by (with_reducible repeat (fail)); exact BK352.out) hb); have n2_ := Aside0.mk (blk_below (g := gb353) (o := .cells #[.int .i64 a1_0, .slice A1_1 l1_1.length c1_1] 31 (0, 0)) (by (with_reducible repeat (fail)); exact BK353.out) hb); have n3_ := Aside0.mk (below_step (by repeat (first | (with_reducible first | exact HB.out ) )) hb); clear HO_5; clear BK352; clear BK353; clear HB; have HO_5 := n0_; have BK352 := n1_; have BK353 := n2_; have HB := n3_; clear n0_ n1_ n2_ n3_; (try clear hb); (try clear hb2); (try clear hk); (try clear hi)))
      go_meet
      case rel => exact ⟨_, (t355), (by first | rfl ), H', ⟨by have := HK1.out; first | omega ⟩, ⟨by (with_reducible repeat (fail)); exact HO_5.out⟩, ⟨by (with_reducible repeat (fail)); exact BK352.out⟩, ⟨by (with_reducible repeat (fail)); exact BK353.out⟩, ⟨by repeat (first | (with_reducible first | exact HB.out ) )⟩⟩
     ·replace c8 := Bool.eq_false_iff.mpr c8
      subst c8
      have H1 : (caduceusref14_Gone.j1 k1 x5_1 x6_1 false a0_0 l0_1 a1_0 l1_1) = some r := by rw [if_neg (show ¬ (false = true) by decide)] at H; exact H
      clear H
      have H := H1
      clear H1
      have H' := Aside0.mk H
      clear H
      have hnb15 := NB352_353.out
      have hnc15 := NB353_352.out
      have hcz16_0 : wr.cell? ⟨gb352, 0, none⟩ = some (.int .i64 a0_0) := (blk_cell BK352.out 0).trans rfl
      have hcz16_1 : wr.cell? ⟨gb352, 1, none⟩ = some (.slice A0_1 l0_1.length c0_1) := (blk_cell BK352.out 1).trans rfl
      have hfz16_0 := blk_frozen BK352.out 0
      have hfz16_1 := blk_frozen BK352.out 1
      go_wp2_with (first | (go_at_call 28; (with_reducible refine (caduceusref14_Check.calls k1 a0_0 _ _ l0_1 false _ ?side1 ?side2 A7.out).mono ?_); (case side1 => repeat (first | exact (Kd.C_below HR0_1.out HB.out) )); (case side2 => exact HC0_1.out); rintro e w17 ⟨rfl, hb⟩; have n0_ := Aside0.mk (Kd.R_below (by (with_reducible repeat (fail)); exact HO_5.out) hb); have n1_ := Aside0.mk (blk_below (g := gb352) (o := .cells #[.int .i64 a0_0, .slice A0_1 l0_1.length c0_1] 31 (0, 0)) (by (with_reducible repeat (fail)); exact BK352.out) hb); have n2_ := Aside0.mk (blk_below (g := gb353) (o := .cells #[.int .i64 a1_0, .slice A1_1 l1_1.length c1_1] 31 (0, 0)) (by (with_reducible repeat (fail)); exact BK353.out) hb); have n3_ := Aside0.mk (below_step (by repeat (first | (with_reducible first | exact HB.out ) )) hb); clear HO_5; clear BK352; clear BK353; clear HB; have HO_5 := n0_; have BK352 := n1_; have BK353 := n2_; have HB := n3_; clear n0_ n1_ n2_ n3_; (try clear hb); (try clear hb2); (try clear hk); (try clear hi)))
      go_meet
      case rel => exact ⟨_, (false), (by first | rfl ), H', ⟨by have := HK1.out; first | omega ⟩, ⟨by (with_reducible repeat (fail)); exact HO_5.out⟩, ⟨by (with_reducible repeat (fail)); exact BK352.out⟩, ⟨by (with_reducible repeat (fail)); exact BK353.out⟩, ⟨by repeat (first | (with_reducible first | exact HB.out ) )⟩⟩
    ·rw [if_neg c6] at H
     have c6b0 : decide (x6_1 < (l0_1.length : Int)) = false := decide_eq_false c6
     clear c6
     (first | skip)
     have H' := Aside0.mk H
     clear H
     have hnb18 := NB352_353.out
     have hnc18 := NB353_352.out
     have hcz19_0 : wr.cell? ⟨gb352, 0, none⟩ = some (.int .i64 a0_0) := (blk_cell BK352.out 0).trans rfl
     have hcz19_1 : wr.cell? ⟨gb352, 1, none⟩ = some (.slice A0_1 l0_1.length c0_1) := (blk_cell BK352.out 1).trans rfl
     have hfz19_0 := blk_frozen BK352.out 0
     have hfz19_1 := blk_frozen BK352.out 1
     go_wp2
     go_meet
     case rel => exact ⟨_, (false), (by first | rfl ), H', ⟨by have := HK1.out; first | omega ⟩, ⟨by (with_reducible repeat (fail)); exact HO_5.out⟩, ⟨by (with_reducible repeat (fail)); exact BK352.out⟩, ⟨by (with_reducible repeat (fail)); exact BK353.out⟩, ⟨by repeat (first | (with_reducible first | exact HB.out ) )⟩⟩
   case rest =>
    clear HC5
    try clear c1
    try clear p2
    try clear c6
    try clear c6b0
    try clear c8
    try clear c10
    try clear c12
    try clear c15
    try clear c18
    try clear hcz11_0
    try clear hcz11_1
    try clear hcz13_0
    try clear hcz13_1
    try clear hcz16_0
    try clear hcz16_1
    try clear hcz19_0
    try clear hcz19_1
    try clear hfz11_0
    try clear hfz11_1
    try clear hfz13_0
    try clear hfz13_1
    try clear hfz16_0
    try clear hfz16_1
    try clear hfz19_0
    try clear hfz19_1
    try clear p2
    obtain ⟨kq, x21_4, rfl, HA, HJ4, HO_5, BK352, BK353, HB⟩ := hcut
    cases kq with
    | zero => exact absurd HA.out (by simp [caduceusref14_Gone.j1])
    | succ kj4 =>
     have H := HA.out
     clear HA
     simp only [caduceusref14_Gone.j1] at H
     by_cases c20 : x21_4 = true
     ·subst c20
      have H1 : (caduceusref14_Gone.l1 kj4 x5_1 x6_1 false 0 a0_0 l0_1 a1_0 l1_1) = some r := by rw [if_pos rfl] at H; exact H
      clear H
      have H := H1
      clear H1
      have H' := Aside0.mk H
      clear H
      go_wp2
      go_loopg [7, 8] kj4 (fun kq v7 v8 w' => ∃ (x7_3 : Bool) (x8_3 : Int), v7 = .bool x7_3 ∧ v8 = .int .i64 x8_3 ∧ Aside0 (caduceusref14_Gone.l1 kq x5_1 x6_1 x7_3 x8_3 a0_0 l0_1 a1_0 l1_1 = some r) ∧ Aside0 (kq ≤ kj4) ∧ Aside0 (Kd.R (Kd.int .i64) 3 w' w.heap.size (fun _ => True) u5 x5_1) ∧ Aside0 (w'.heap[gb352]? = some (.cells #[.int .i64 a0_0, (.slice A0_1 l0_1.length c0_1)] 31 (0, 0))) ∧ Aside0 (w'.heap[gb353]? = some (.cells #[.int .i64 a1_0, (.slice A1_1 l1_1.length c1_1)] 31 (0, 0))) ∧ Aside0 (Below w.heap.size w w'))
      case atStart => exact ⟨(false), (0), (by first | rfl ), (by first | rfl ), H', ⟨Nat.le_refl _⟩, ⟨by (with_reducible repeat (fail)); exact HO_5.out⟩, ⟨by (with_reducible repeat (fail)); exact BK352.out⟩, ⟨by (with_reducible repeat (fail)); exact BK353.out⟩, ⟨by repeat (first | (with_reducible first | exact HB.out ) )⟩⟩
      case round =>
       clear H'
       try clear c1
       try clear c2
       try clear p2
       try clear c6
       try clear c6b0
       try clear c8
       try clear c10
       try clear c12
       try clear c15
       try clear c18
       try clear c20
       try clear hcz11_0
       try clear hcz11_1
       try clear hcz13_0
       try clear hcz13_1
       try clear hcz16_0
       try clear hcz16_1
       try clear hcz19_0
       try clear hcz19_1
       try clear hfz11_0
       try clear hfz11_1
       try clear hfz13_0
       try clear hfz13_1
       try clear hfz16_0
       try clear hfz16_1
       try clear hfz19_0
       try clear hfz19_1
       try clear p2
       obtain ⟨x7_3, x8_3, rfl, rfl, HA, HK3, HO_5, BK352, BK353, HB⟩ := hrel
       cases gk with
       | zero => exact absurd HA.out (by simp [caduceusref14_Gone.l1])
       | succ k3 =>
        have H := HA.out
        clear HA
        simp only [caduceusref14_Gone.l1] at H
        by_cases c21 : x8_3 < (l1_1.length : Int)
        ·rw [if_pos c21] at H
         have c21b0 : decide (x8_3 < (l1_1.length : Int)) = true := decide_eq_true c21
         clear c21
         by_cases c22 : x7_3 = true
         ·subst c22
          have H1 : (caduceusref14_Gone.l1 k3 x5_1 x6_1 true (wrap64 (x8_3 + 1)) a0_0 l0_1 a1_0 l1_1) = some r := by rw [if_pos rfl] at H; exact H
          clear H
          have H := H1
          clear H1
          have H' := Aside0.mk H
          clear H
          have hnb23 := NB353_352.out
          have hnc23 := NB352_353.out
          have hcz24_0 : wr.cell? ⟨gb353, 0, none⟩ = some (.int .i64 a1_0) := (blk_cell BK353.out 0).trans rfl
          have hcz24_1 : wr.cell? ⟨gb353, 1, none⟩ = some (.slice A1_1 l1_1.length c1_1) := (blk_cell BK353.out 1).trans rfl
          have hfz24_0 := blk_frozen BK353.out 0
          have hfz24_1 := blk_frozen BK353.out 1
          go_wp2
          repeat (go_quiet (fail); try go_wp2)
          go_roundg k3
          case measure => have := HK1.out; have := HJ4.out; have := HK3.out; omega
          case rel => exact ⟨(true), (wrap64 (x8_3 + 1)), (by first | rfl ), (by first | rfl ), H', ⟨by have := HK1.out; have := HJ4.out; have := HK3.out; omega⟩, ⟨by (with_reducible repeat (first | apply Kd.R_drewN )); exact HO_5.out⟩, ⟨by (with_reducible repeat (first | refine blk_drewN ?_ _ )); exact BK352.out⟩, ⟨by (with_reducible repeat (first | refine blk_drewN ?_ _ )); exact BK353.out⟩, ⟨by repeat (first | (with_reducible first | exact HB.out | apply pw_below_drewN ) )⟩⟩
         ·replace c22 := Bool.eq_false_iff.mpr c22
          subst c22
          have H1 : (if 0 ≤ x8_3 then (if 0 ≤ x6_1 then (if x6_1 < (l0_1.length : Int) then (caduceusref14_Gone.l1 k3 x5_1 x6_1 (((rd_T52 l1_1 x8_3).f0) == ((rd_T52 l0_1 x6_1).f0) && (((rd_T52 l1_1 x8_3).f1) == ((rd_T52 l0_1 x6_1).f1) && (((rd_T52 l1_1 x8_3).f2) == ((rd_T52 l0_1 x6_1).f2)))) (wrap64 (x8_3 + 1)) a0_0 l0_1 a1_0 l1_1) else (none)) else (none)) else (none)) = some r := by rw [if_neg (show ¬ (false = true) by decide)] at H; exact H
          clear H
          have H := H1
          clear H1
          by_cases c25 : 0 ≤ x8_3
          ·rw [if_pos c25] at H
           have c25b0 : decide (0 ≤ x8_3) = true := decide_eq_true c25
           clear c25
           by_cases c26 : 0 ≤ x6_1
           ·rw [if_pos c26] at H
            have c26b0 : decide (0 ≤ x6_1) = true := decide_eq_true c26
            clear c26
            by_cases c27 : x6_1 < (l0_1.length : Int)
            ·rw [if_pos c27] at H
             have c27b0 : decide (x6_1 < (l0_1.length : Int)) = true := decide_eq_true c27
             clear c27
             have H' := Aside0.mk H
             clear H
             have hnb28 := NB353_352.out
             have hnc28 := NB352_353.out
             have hcz29_0 : wr.cell? ⟨gb353, 0, none⟩ = some (.int .i64 a1_0) := (blk_cell BK353.out 0).trans rfl
             have hcz29_1 : wr.cell? ⟨gb353, 1, none⟩ = some (.slice A1_1 l1_1.length c1_1) := (blk_cell BK353.out 1).trans rfl
             have hfz29_0 := blk_frozen BK353.out 0
             have hfz29_1 := blk_frozen BK353.out 1
             have p356 : 0 ≤ (x8_3 : Int) := of_decide_eq_true (by first | (with_reducible assumption) )
             have q356 : x8_3 < (l1_1.length : Int) := of_decide_eq_true (by first | (with_reducible assumption) )
             obtain ⟨ad356, e356, hx356_0, hx356_1, hx356_2⟩ := at_T52 HR1_1.out x8_3 p356 q356
             cases e356
             replace hx356_0 := (HB.out.cell (World.block_lt_of_cell? w _ hx356_0)).trans hx356_0
             replace hx356_1 := (HB.out.cell (World.block_lt_of_cell? w _ hx356_1)).trans hx356_1
             replace hx356_2 := (HB.out.cell (World.block_lt_of_cell? w _ hx356_2)).trans hx356_2
             replace p356 := eq_true p356
             replace q356 := eq_true q356
             have hcz30_0 : wr.cell? ⟨gb352, 0, none⟩ = some (.int .i64 a0_0) := (blk_cell BK352.out 0).trans rfl
             have hcz30_1 : wr.cell? ⟨gb352, 1, none⟩ = some (.slice A0_1 l0_1.length c0_1) := (blk_cell BK352.out 1).trans rfl
             have hfz30_0 := blk_frozen BK352.out 0
             have hfz30_1 := blk_frozen BK352.out 1
             have p357 : 0 ≤ (x6_1 : Int) := of_decide_eq_true (by first | (with_reducible assumption) )
             have q357 : x6_1 < (l0_1.length : Int) := of_decide_eq_true (by first | (with_reducible assumption) )
             obtain ⟨ad357, e357, hx357_0, hx357_1, hx357_2⟩ := at_T52 HR0_1.out x6_1 p357 q357
             cases e357
             replace hx357_0 := (HB.out.cell (World.block_lt_of_cell? w _ hx357_0)).trans hx357_0
             replace hx357_1 := (HB.out.cell (World.block_lt_of_cell? w _ hx357_1)).trans hx357_1
             replace hx357_2 := (HB.out.cell (World.block_lt_of_cell? w _ hx357_2)).trans hx357_2
             replace p357 := eq_true p357
             replace q357 := eq_true q357
             go_wp2
             repeat (go_quiet (fail); try go_wp2)
             go_roundg k3
             case measure => have := HK1.out; have := HJ4.out; have := HK3.out; omega
             case rel => exact ⟨((((rd_T52 l1_1 x8_3).f0) == ((rd_T52 l0_1 x6_1).f0) && (((rd_T52 l1_1 x8_3).f1) == ((rd_T52 l0_1 x6_1).f1) && (((rd_T52 l1_1 x8_3).f2) == ((rd_T52 l0_1 x6_1).f2))))), (wrap64 (x8_3 + 1)), (by first | rfl ), (by first | rfl ), H', ⟨by have := HK1.out; have := HJ4.out; have := HK3.out; omega⟩, ⟨by (with_reducible repeat (first | apply Kd.R_drewN )); exact HO_5.out⟩, ⟨by (with_reducible repeat (first | refine blk_drewN ?_ _ )); exact BK352.out⟩, ⟨by (with_reducible repeat (first | refine blk_drewN ?_ _ )); exact BK353.out⟩, ⟨by repeat (first | (with_reducible first | exact HB.out | apply pw_below_drewN ) )⟩⟩
            ·rw [if_neg c27] at H
             exact absurd H (by simp)
           ·rw [if_neg c26] at H
            exact absurd H (by simp)
          ·rw [if_neg c25] at H
           exact absurd H (by simp)
        ·rw [if_neg c21] at H
         have c21b0 : decide (x8_3 < (l1_1.length : Int)) = false := decide_eq_false c21
         clear c21
         by_cases c31 : 0 ≤ x6_1
         ·rw [if_pos c31] at H
          have c31b0 : decide (0 ≤ x6_1) = true := decide_eq_true c31
          clear c31
          by_cases c32 : x6_1 < (l0_1.length : Int)
          ·rw [if_pos c32] at H
           have c32b0 : decide (x6_1 < (l0_1.length : Int)) = true := decide_eq_true c32
           clear c32
           obtain ⟨bq33, hbq33⟩ : ∃ b_ : Bool, b_ = ((rd_T52 l0_1 x6_1).f2) := ⟨_, rfl⟩
           replace H : (if bq33 = true then (if x7_3 = true then (caduceusref14_Gone.l0 k3 x5_1 (wrap64 (x6_1 + 1)) a0_0 l0_1 a1_0 l1_1) else (if x5_1.length < 17592186044416 then (caduceusref14_Gone.l0 k3 (x5_1 ++ [(rd_T52 l0_1 x6_1).f0]) (wrap64 (x6_1 + 1)) a0_0 l0_1 a1_0 l1_1) else (none))) else (caduceusref14_Gone.l0 k3 x5_1 (wrap64 (x6_1 + 1)) a0_0 l0_1 a1_0 l1_1)) = some r := by rw [← hbq33] at H; exact H
           have Nbq33 := Aside0.mk hbq33
           clear hbq33
           by_cases c34 : bq33 = true
           ·subst c34
            have H1 : (if x7_3 = true then (caduceusref14_Gone.l0 k3 x5_1 (wrap64 (x6_1 + 1)) a0_0 l0_1 a1_0 l1_1) else (if x5_1.length < 17592186044416 then (caduceusref14_Gone.l0 k3 (x5_1 ++ [(rd_T52 l0_1 x6_1).f0]) (wrap64 (x6_1 + 1)) a0_0 l0_1 a1_0 l1_1) else (none))) = some r := by rw [if_pos rfl] at H; exact H
            clear H
            have H := H1
            clear H1
            by_cases c35 : x7_3 = true
            ·subst c35
             have H1 : (caduceusref14_Gone.l0 k3 x5_1 (wrap64 (x6_1 + 1)) a0_0 l0_1 a1_0 l1_1) = some r := by rw [if_pos rfl] at H; exact H
             clear H
             have H := H1
             clear H1
             have H' := Aside0.mk H
             clear H
             have hnb36 := NB353_352.out
             have hnc36 := NB352_353.out
             have hcz37_0 : wr.cell? ⟨gb353, 0, none⟩ = some (.int .i64 a1_0) := (blk_cell BK353.out 0).trans rfl
             have hcz37_1 : wr.cell? ⟨gb353, 1, none⟩ = some (.slice A1_1 l1_1.length c1_1) := (blk_cell BK353.out 1).trans rfl
             have hfz37_0 := blk_frozen BK353.out 0
             have hfz37_1 := blk_frozen BK353.out 1
             have hcz38_0 : wr.cell? ⟨gb352, 0, none⟩ = some (.int .i64 a0_0) := (blk_cell BK352.out 0).trans rfl
             have hcz38_1 : wr.cell? ⟨gb352, 1, none⟩ = some (.slice A0_1 l0_1.length c0_1) := (blk_cell BK352.out 1).trans rfl
             have hfz38_0 := blk_frozen BK352.out 0
             have hfz38_1 := blk_frozen BK352.out 1
             have p358 : 0 ≤ (x6_1 : Int) := of_decide_eq_true (by first | (with_reducible assumption) )
             have q358 : x6_1 < (l0_1.length : Int) := of_decide_eq_true (by first | (with_reducible assumption) )
             obtain ⟨ad358, e358, hx358_0, hx358_1, hx358_2⟩ := at_T52 HR0_1.out x6_1 p358 q358
             (try rw [← Nbq33.out] at hx358_2)
             (try rw [← Nbq33.out] at hw358_2)
             cases e358
             replace hx358_0 := (HB.out.cell (World.block_lt_of_cell? w _ hx358_0)).trans hx358_0
             replace hx358_1 := (HB.out.cell (World.block_lt_of_cell? w _ hx358_1)).trans hx358_1
             replace hx358_2 := (HB.out.cell (World.block_lt_of_cell? w _ hx358_2)).trans hx358_2
             replace p358 := eq_true p358
             replace q358 := eq_true q358
             go_wp2
             go_roundg k3
             case measure => have := HK1.out; have := HJ4.out; have := HK3.out; omega
             case rel => exact ⟨(x5_1), (wrap64 (x6_1 + 1)), (by first | rfl ), H', ⟨by have := HK1.out; have := HJ4.out; have := HK3.out; omega⟩, ⟨by (with_reducible repeat (fail)); exact HO_5.out⟩, ⟨by (with_reducible repeat (fail)); exact BK352.out⟩, ⟨by (with_reducible repeat (fail)); exact BK353.out⟩, ⟨by repeat (first | (with_reducible first | exact HB.out ) )⟩⟩
            ·replace c35 := Bool.eq_false_iff.mpr c35
             subst c35
             have H1 : (if x5_1.length < 17592186044416 then (caduceusref14_Gone.l0 k3 (x5_1 ++ [(rd_T52 l0_1 x6_1).f0]) (wrap64 (x6_1 + 1)) a0_0 l0_1 a1_0 l1_1) else (none)) = some r := by rw [if_neg (show ¬ (false = true) by decide)] at H; exact H
             clear H
             have H := H1
             clear H1
             by_cases c39 : x5_1.length < 17592186044416
             ·rw [if_pos c39] at H
              have LMc39 := Aside0.mk c39
              clear c39
              obtain ⟨y360, hy360⟩ : ∃ y_ : List Int, y_ = (x5_1 ++ [(rd_T52 l0_1 x6_1).f0]) := ⟨_, rfl⟩
              replace H : (caduceusref14_Gone.l0 k3 y360 (wrap64 (x6_1 + 1)) a0_0 l0_1 a1_0 l1_1) = some r := by first | (rw [hy360]; with_reducible exact H)
              have Ny360 := Aside0.mk hy360
              clear hy360
              have H' := Aside0.mk H
              clear H
              have hnb40 := NB353_352.out
              have hnc40 := NB352_353.out
              have hcz41_0 : wr.cell? ⟨gb353, 0, none⟩ = some (.int .i64 a1_0) := (blk_cell BK353.out 0).trans rfl
              have hcz41_1 : wr.cell? ⟨gb353, 1, none⟩ = some (.slice A1_1 l1_1.length c1_1) := (blk_cell BK353.out 1).trans rfl
              have hfz41_0 := blk_frozen BK353.out 0
              have hfz41_1 := blk_frozen BK353.out 1
              have hcz42_0 : wr.cell? ⟨gb352, 0, none⟩ = some (.int .i64 a0_0) := (blk_cell BK352.out 0).trans rfl
              have hcz42_1 : wr.cell? ⟨gb352, 1, none⟩ = some (.slice A0_1 l0_1.length c0_1) := (blk_cell BK352.out 1).trans rfl
              have hfz42_0 := blk_frozen BK352.out 0
              have hfz42_1 := blk_frozen BK352.out 1
              have p358 : 0 ≤ (x6_1 : Int) := of_decide_eq_true (by first | (with_reducible assumption) )
              have q358 : x6_1 < (l0_1.length : Int) := of_decide_eq_true (by first | (with_reducible assumption) )
              obtain ⟨ad358, e358, hx358_0, hx358_1, hx358_2⟩ := at_T52 HR0_1.out x6_1 p358 q358
              (try rw [← Nbq33.out] at hx358_2)
              (try rw [← Nbq33.out] at hw358_2)
              cases e358
              replace hx358_0 := (HB.out.cell (World.block_lt_of_cell? w _ hx358_0)).trans hx358_0
              replace hx358_1 := (HB.out.cell (World.block_lt_of_cell? w _ hx358_1)).trans hx358_1
              replace hx358_2 := (HB.out.cell (World.block_lt_of_cell? w _ hx358_2)).trans hx358_2
              replace p358 := eq_true p358
              replace q358 := eq_true q358
              have p359 : 0 ≤ (x6_1 : Int) := of_decide_eq_true (by first | (with_reducible assumption) )
              have q359 : x6_1 < (l0_1.length : Int) := of_decide_eq_true (by first | (with_reducible assumption) )
              obtain ⟨ad359, e359, hx359_0, hx359_1, hx359_2⟩ := at_T52 HR0_1.out x6_1 p359 q359
              (try rw [← Nbq33.out] at hx359_2)
              (try rw [← Nbq33.out] at hw359_2)
              obtain rfl : ad358 = ad359 := (by injection e359)
              replace hx359_0 := (HB.out.cell (World.block_lt_of_cell? w _ hx359_0)).trans hx359_0
              replace hx359_1 := (HB.out.cell (World.block_lt_of_cell? w _ hx359_1)).trans hx359_1
              replace hx359_2 := (HB.out.cell (World.block_lt_of_cell? w _ hx359_2)).trans hx359_2
              replace p359 := eq_true p359
              replace q359 := eq_true q359
              go_wp2_with (first | ((with_reducible refine gate_builtin (b := .append) (xs := #[.tmp 55, .tmp 62]) rfl ?_); at_builtin; refine Kd.R_append (Kd.int .i64) (w0 := w) w.heap.size rfl (.tmp 55) (.tmp 62) 27 3 (.int .i64 0) 8 rfl Tryz.underlying27 info3 rfl (by decide) (by omega) u5 x5_1 ((rd_T52 l0_1 x6_1).f0) [.int .i64 ((rd_T52 l0_1 x6_1).f0)] (fun _ => True) (fun _ => False) rfl rfl ?aP (fun _ hk => hk.elim) ?aF ?aO ?aB ?aS ?aL ?_; (case aP => exact rfl); (case aB => exact (by repeat (first | (with_reducible first | exact HB.out ) ))); (case aF => exact (fun _ _ => trivial)); (case aO => exact (by (with_reducible repeat (fail)); exact HO_5.out)); (case aS => exact (below_size (by repeat (first | (with_reducible first | exact HB.out ) )))); (case aL => have := LMc39.out; omega); intro v361 w43 ho hb hg hat; rw [← Ny360.out] at ho; have n0_ := Aside0.mk (blk_grown (g := gb352) (o := .cells #[.int .i64 a0_0, .slice (some ad358) l0_1.length c0_1] 31 (0, 0)) (by (with_reducible repeat (fail)); exact BK352.out) hg (Kd.R_ne HO_5.out BK352.out (by decide))); have n1_ := Aside0.mk (blk_grown (g := gb353) (o := .cells #[.int .i64 a1_0, .slice A1_1 l1_1.length c1_1] 31 (0, 0)) (by (with_reducible repeat (fail)); exact BK353.out) hg (Kd.R_ne HO_5.out BK353.out (by decide))); have n2_ := Aside0.mk (hb); have n3_ := Aside0.mk (ho); clear BK352; clear BK353; clear HB; clear HO_5; have BK352 := n0_; have BK353 := n1_; have HB := n2_; have HO362 := n3_; clear n0_ n1_ n2_ n3_; clear ho hb hg hat))
              go_roundg k3
              case measure => have := HK1.out; have := HJ4.out; have := HK3.out; omega
              case rel => exact ⟨(y360), (wrap64 (x6_1 + 1)), (by first | rfl ), H', ⟨by have := HK1.out; have := HJ4.out; have := HK3.out; omega⟩, ⟨by (with_reducible repeat (fail)); exact HO362.out⟩, ⟨by (with_reducible repeat (fail)); exact BK352.out⟩, ⟨by (with_reducible repeat (fail)); exact BK353.out⟩, ⟨by repeat (first | (with_reducible first | exact HB.out ) )⟩⟩
             ·rw [if_neg c39] at H
              exact absurd H (by simp)
           ·replace c34 := Bool.eq_false_iff.mpr c34
            subst c34
            have H1 : (caduceusref14_Gone.l0 k3 x5_1 (wrap64 (x6_1 + 1)) a0_0 l0_1 a1_0 l1_1) = some r := by rw [if_neg (show ¬ (false = true) by decide)] at H; exact H
            clear H
            have H := H1
            clear H1
            have H' := Aside0.mk H
            clear H
            have hnb44 := NB353_352.out
            have hnc44 := NB352_353.out
            have hcz45_0 : wr.cell? ⟨gb353, 0, none⟩ = some (.int .i64 a1_0) := (blk_cell BK353.out 0).trans rfl
            have hcz45_1 : wr.cell? ⟨gb353, 1, none⟩ = some (.slice A1_1 l1_1.length c1_1) := (blk_cell BK353.out 1).trans rfl
            have hfz45_0 := blk_frozen BK353.out 0
            have hfz45_1 := blk_frozen BK353.out 1
            have hcz46_0 : wr.cell? ⟨gb352, 0, none⟩ = some (.int .i64 a0_0) := (blk_cell BK352.out 0).trans rfl
            have hcz46_1 : wr.cell? ⟨gb352, 1, none⟩ = some (.slice A0_1 l0_1.length c0_1) := (blk_cell BK352.out 1).trans rfl
            have hfz46_0 := blk_frozen BK352.out 0
            have hfz46_1 := blk_frozen BK352.out 1
            have p358 : 0 ≤ (x6_1 : Int) := of_decide_eq_true (by first | (with_reducible assumption) )
            have q358 : x6_1 < (l0_1.length : Int) := of_decide_eq_true (by first | (with_reducible assumption) )
            obtain ⟨ad358, e358, hx358_0, hx358_1, hx358_2⟩ := at_T52 HR0_1.out x6_1 p358 q358
            (try rw [← Nbq33.out] at hx358_2)
            (try rw [← Nbq33.out] at hw358_2)
            cases e358
            replace hx358_0 := (HB.out.cell (World.block_lt_of_cell? w _ hx358_0)).trans hx358_0
            replace hx358_1 := (HB.out.cell (World.block_lt_of_cell? w _ hx358_1)).trans hx358_1
            replace hx358_2 := (HB.out.cell (World.block_lt_of_cell? w _ hx358_2)).trans hx358_2
            replace p358 := eq_true p358
            replace q358 := eq_true q358
            go_wp2
            go_roundg k3
            case measure => have := HK1.out; have := HJ4.out; have := HK3.out; omega
            case rel => exact ⟨(x5_1), (wrap64 (x6_1 + 1)), (by first | rfl ), H', ⟨by have := HK1.out; have := HJ4.out; have := HK3.out; omega⟩, ⟨by (with_reducible repeat (fail)); exact HO_5.out⟩, ⟨by (with_reducible repeat (fail)); exact BK352.out⟩, ⟨by (with_reducible repeat (fail)); exact BK353.out⟩, ⟨by repeat (first | (with_reducible first | exact HB.out ) )⟩⟩
          ·rw [if_neg c32] at H
           exact absurd H (by simp)
         ·rw [if_neg c31] at H
          exact absurd H (by simp)
     ·replace c20 := Bool.eq_false_iff.mpr c20
      subst c20
      have H1 : (some x5_1) = some r := by rw [if_neg (show ¬ (false = true) by decide)] at H; exact H
      clear H
      have H := H1
      clear H1
      obtain rfl := Option.some.inj H
      go_wp2
      go_ret
      exact ⟨_, by first | rfl , by (with_reducible repeat (fail)); exact HO_5.out, by repeat (first | (with_reducible first | exact HB.out ) )⟩

end Go.Proofs.YtpdalofhekmbeaaGreatDoor.PViewKeeps
