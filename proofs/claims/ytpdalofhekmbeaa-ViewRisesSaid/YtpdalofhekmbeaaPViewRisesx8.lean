-- Written by a program of this session over the kit's printer (with contracts of the session's own).
import Derived.Test.YtpdalofhekmbeaaPViewRisesx0
import Derived.Test.YtpdalofhekmbeaaPViewRisesx2
import Derived.Test.YtpdalofhekmbeaaPViewRisesx4
import Derived.Test.YtpdalofhekmbeaaPViewRisesx7
namespace Go.Proofs.Ytpdalofhekmbeaa.PViewRises
open Go.RowKit Go.Proofs.YtpdalofhekmbeaaW.PrintWords Go.Proofs.YtpdalofhekmbeaaW.PrintLast Go.Proofs.YtpdalofhekmbeaaW.PrintMore
attribute [local go_sem] max2_int min2_int max_two min_two max_three min_three max_four min_four   -- for this text's walks alone
set_option linter.unusedVariables false
set_option linter.unusedSimpArgs false

/-! ### view_Gone: function 25 (a contract of this session's own) -/
section
attribute [local go_sem] Oper.semAt_some
/-- Is a member in a list? -/
def memM (l : List S53) (m : S53) : Bool := l.any (fun x => m.f0 == x.f0 && (m.f1 == x.f1 && (m.f2 == x.f2)))
theorem idxM_is (l : List S53) (m : S53) (hl : l.length ≤ 1099511627776) : ∀ (r : List S53) (i k : Nat), l.drop i = r → i + r.length = l.length → r.length < k →
    ∃ v, api_Member_52.l0 k l (l.length : Int) (i : Int) m.f0 m.f1 m.f2 = some v ∧ decide (v ≥ 0) = memM r m := by
  intro r
  induction r with
  | nil =>
    intro i k hd hi hk
    obtain ⟨k, rfl⟩ : ∃ q, k = q + 1 := ⟨k - 1, by simp at hk; omega⟩
    refine ⟨-1, ?_, by simp [memM]⟩
    simp only [api_Member_52.l0]
    rw [if_neg (by simp at hi; omega)]
  | cons x r ih =>
    intro i k hd hi hk
    obtain ⟨k, rfl⟩ : ∃ q, k = q + 1 := ⟨k - 1, by simp at hk; omega⟩
    obtain ⟨hx, hlt, hd2⟩ := rdM_drop hd
    simp only [api_Member_52.l0]
    rw [if_pos (by omega), if_pos (by omega), if_pos (by omega), hx]
    by_cases he : (m.f0 == x.f0 && (m.f1 == x.f1 && (m.f2 == x.f2))) = true
    · rw [if_pos he]
      exact ⟨i, rfl, by simp [memM, he]⟩
    · rw [if_neg he]
      have hw : wrap64 ((i : Int) + 1) = ((i + 1 : Nat) : Int) := by unfold wrap64; omega
      rw [hw]
      obtain ⟨v, hv, hm⟩ := ih (i + 1) k hd2 (by simp at hi; omega) (by simp at hk; omega)
      refine ⟨v, hv, ?_⟩
      have he' : (m.f0 == x.f0 && (m.f1 == x.f1 && (m.f2 == x.f2))) = false := by simpa using he
      rw [hm]
      simp only [memM, List.any_cons, he', Bool.false_or]
theorem hasM_is (k : Nat) (l : List S53) (m : S53) (hl : l.length ≤ 1099511627776) (hk : l.length < k) : api_Member_40.f k l m.f0 m.f1 m.f2 = some (memM l m) := by
  unfold api_Member_40.f api_Member_52.f
  obtain ⟨v, hv, hm⟩ := idxM_is l m hl l 0 k rfl (by omega) hk
  have hv' : api_Member_52.l0 k l (l.length : Int) 0 m.f0 m.f1 m.f2 = some v := hv
  rw [hv', Option.bind_some, hm]
theorem keepsOthers_below {W W' : World} (h : Below W.heap.size W W') : KeepsOthers W W' := ⟨h.size, fun k o hk _ => (h.block k (Array.getElem?_eq_some_iff.1 hk).1).trans hk⟩

def goneOf (l0 l1 : List S53) : List Int := ((l0.filter (·.f2)).filter (fun m => !memM l1 m)).map (·.f0)
def goneP (l1 : List S53) (pre : List S53) : List Int := (pre.filter (fun m => !memM l1 m)).map (·.f0)
theorem goneP_snoc (l1 pre : List S53) (x : S53) : goneP l1 (pre ++ [x]) = if memM l1 x then goneP l1 pre else goneP l1 pre ++ [x.f0] := by
  unfold goneP
  rw [List.filter_append, List.map_append]
  by_cases h : memM l1 x = true
  · simp [h]
  · simp [h]
theorem goneP_le (l1 pre : List S53) : (goneP l1 pre).length ≤ pre.length := by unfold goneP; rw [List.length_map]; exact List.length_filter_le _ _
def view_Gone.f (k : Nat) (a0_0 : Int) (l0_1 : List S53) (a1_0 : Int) (l1_1 : List S53) : Option (List Int) := (view_Check.f k a0_0 l0_1).bind fun t1 => if t1 = true then ((view_Check.f k a1_0 l1_1).bind fun t2 => if t2 = true then (if l0_1.length ≤ 1099511627776 then (if l1_1.length ≤ 1099511627776 then (if l1_1.length < k then some (goneOf l0_1 l1_1) else none) else none) else none) else some []) else some []
theorem view_Gone.mono : ∀ a0 a1 a2 a3 k, LeO (view_Gone.f k a0 a1 a2 a3) (view_Gone.f (k + 1) a0 a1 a2 a3) := by
  intro a0 a1 a2 a3 k
  unfold view_Gone.f
  refine LeO.bind (view_Check.mono _ _ _) fun _ => LeO.ite (LeO.bind (view_Check.mono _ _ _) fun _ => LeO.ite (LeO.ite (LeO.ite ?_ (LeO.refl _)) (LeO.refl _)) (LeO.refl _)) (LeO.refl _)
  intro r h
  by_cases hk : a3.length < k
  · rw [if_pos hk] at h
    rw [if_pos (by omega)]
    exact h
  · rw [if_neg hk] at h
    cases h
set_option maxHeartbeats 8000000 in
set_option maxRecDepth 100000 in
theorem view_Gone.calls (k : Nat) (a0_0 : Int) (A0_1 : Option Addr) (c0_1 : Nat) (l0_1 : List (S53)) (a1_0 : Int) (A1_1 : Option Addr) (c1_1 : Nat) (l1_1 : List (S53)) (r : List Int) (w : World) (hr0_1 : Kd.C k53 w A0_1 l0_1.length l0_1) (hc0_1 : l0_1.length ≤ c0_1) (hr1_1 : Kd.C k53 w A1_1 l1_1.length l1_1) (hc1_1 : l1_1.length ≤ c1_1) (h : view_Gone.f k a0_0 l0_1 a1_0 l1_1 = some r) :
    Calls Try.prog 25 #[.agg #[.int .i64 a0_0, .slice A0_1 l0_1.length c0_1], .agg #[.int .i64 a1_0, .slice A1_1 l1_1.length c1_1]] w fun e w' => ∃ v0_ : Value, e = .returned (v0_) ∧ Kd.R (Kd.int .i64) 3 w' w.heap.size (fun _ => True) v0_ r ∧ Below w.heap.size w w' := by
  have hu24 := Try.underlying24
  have hu53 := Try.underlying53
  unfold view_Gone.f at h
  obtain ⟨t1, h1, h⟩ := Option.bind_eq_some_iff.mp h
  have hB1 := below_alloc (below_alloc (Below.refl w.heap.size w) (.cells #[.int .i64 a0_0, .slice A0_1 l0_1.length c0_1] 24)) (.cells #[.int .i64 a1_0, .slice A1_1 l1_1.length c1_1] 24)
  obtain ⟨w1, hw1⟩ : ∃ w1, (w.alloc (.cells #[.int .i64 a0_0, .slice A0_1 l0_1.length c0_1] 24)).alloc (.cells #[.int .i64 a1_0, .slice A1_1 l1_1.length c1_1] 24) = w1 := ⟨_, rfl⟩
  have hx0 : w1.cell? ⟨w.heap.size, 0, none⟩ = some (.int .i64 a0_0) := by rw [← hw1]; simp
  have hx1 : w1.cell? ⟨w.heap.size, 1, none⟩ = some (.slice A0_1 l0_1.length c0_1) := by rw [← hw1]; simp
  have hy0 : w1.cell? ⟨w.heap.size + 1, 0, none⟩ = some (.int .i64 a1_0) := by rw [← hw1]; simp
  have hy1 : w1.cell? ⟨w.heap.size + 1, 1, none⟩ = some (.slice A1_1 l1_1.length c1_1) := by rw [← hw1]; simp
  rw [hw1] at hB1
  have hA1 := view_Check.calls k a0_0 A0_1 c0_1 l0_1 t1 _ (Kd.C_below hr0_1 hB1) hc0_1 h1
  clear h1
  refine (callsIn_wide (n := 5)).1 ?_
  refine callsIn_of_wp_marks Try.func25 rfl trivial ?_ rfl
  simp only [Try.ntmps25, List.size_toArray, List.length_cons, List.length_nil, Nat.reduceAdd, Nat.reduceSub, Array.replicate_succ, Array.replicate_zero, List.push_toArray, List.append_toArray, List.nil_append, List.cons_append]
  cases t1 with
  | false =>
    rw [if_neg (by decide)] at h
    obtain rfl := Option.some.inj h
    clear h
    gi_wp2_with (first | (refine ⟨trivial, ?_⟩; gi_at_call 17; refine (callsIn_wide.2 hA1).mono ?_; rintro e w5 ⟨rfl, hb⟩))
    refine ⟨trivial, ?_⟩
    gi_wp2
    exact ⟨_, results_tmp rfl _ _ _, _, rfl, Kd.R_nil _ _ _ _ _, hB1.trans (hb.mono hB1.size)⟩
  | true =>
    rw [if_pos rfl] at h
    obtain ⟨t2, h2, h⟩ := Option.bind_eq_some_iff.mp h
    have hA2 : ∀ w5, Below w.heap.size w w5 → Calls Try.prog 17 #[.agg #[.int .i64 a1_0, .slice A1_1 l1_1.length c1_1]] w5 _ := fun w5 hb5 => view_Check.calls k a1_0 A1_1 c1_1 l1_1 t2 w5 (Kd.C_below hr1_1 hb5) hc1_1 h2
    clear h2
    cases t2 with
    | false =>
      rw [if_neg (by decide)] at h
      obtain rfl := Option.some.inj h
      clear h
      gi_wp2_with (first
        | (refine ⟨trivial, ?_⟩; gi_at_call 17; refine (callsIn_wide.2 hA1).mono ?_; rintro e w5 ⟨rfl, hb⟩; clear hA1; have hb5 := hB1.trans (hb.mono hB1.size); have hA3 := hA2 w5 hb5; have hu0 := (hb.cell (World.block_lt_of_cell? _ _ hy0)).trans hy0; have hu1 := (hb.cell (World.block_lt_of_cell? _ _ hy1)).trans hy1)
        | (refine ⟨trivial, ?_⟩; gi_at_call 17; refine (callsIn_wide.2 hA3).mono ?_; rintro e w6 ⟨rfl, hb6⟩))
      exact ⟨_, results_tmp rfl _ _ _, _, rfl, Kd.R_nil _ _ _ _ _, hb5.trans (hb6.mono hb5.size)⟩
    | true =>
      rw [if_pos rfl] at h
      by_cases hl : l0_1.length ≤ 1099511627776
      case neg =>
        rw [if_neg hl] at h
        cases h
      rw [if_pos hl] at h
      by_cases hl1 : l1_1.length ≤ 1099511627776
      case neg =>
        rw [if_neg hl1] at h
        cases h
      rw [if_pos hl1] at h
      by_cases hk : l1_1.length < k
      case neg =>
        rw [if_neg hk] at h
        cases h
      rw [if_pos hk] at h
      obtain rfl := Option.some.inj h
      clear h
      obtain ⟨i0, hi, hz0, hz1, hz2⟩ := info_parts info3
      gi_wp2_with (first
        | (refine ⟨trivial, ?_⟩; gi_at_call 17; refine (callsIn_wide.2 hA1).mono ?_; rintro e w5 ⟨rfl, hb⟩; clear hA1; have hb5 := hB1.trans (hb.mono hB1.size); have hA3 := hA2 w5 hb5; have hu0 := (hb.cell (World.block_lt_of_cell? _ _ hy0)).trans hy0; have hu1 := (hb.cell (World.block_lt_of_cell? _ _ hy1)).trans hy1; have hv0 := (hb.cell (World.block_lt_of_cell? _ _ hx0)).trans hx0; have hv1 := (hb.cell (World.block_lt_of_cell? _ _ hx1)).trans hx1)
        | (refine ⟨trivial, ?_⟩; gi_at_call 17; refine (callsIn_wide.2 hA3).mono ?_; rintro e w6 ⟨rfl, hb6⟩; clear hA3; have hb7 := hb5.trans (hb6.mono hb5.size); have hp0 := (hb6.cell (World.block_lt_of_cell? _ _ hv0)).trans hv0; have hp1 := (hb6.cell (World.block_lt_of_cell? _ _ hv1)).trans hv1; have hq1 := (hb6.cell (World.block_lt_of_cell? _ _ hu1)).trans hu1; have hs0 := (below_alloc (Below.refl w6.heap.size w6) (.cells #[.slice none 0 0] 38)).cell (World.block_lt_of_cell? _ _ hp0) |>.trans hp0; have hs1 := (below_alloc (Below.refl w6.heap.size w6) (.cells #[.slice none 0 0] 38)).cell (World.block_lt_of_cell? _ _ hp1) |>.trans hp1)
        | (refine ⟨trivial, ?_⟩; gi_at_call 38; refine (up_in Fence.wide _ trivial rfl _ _ _ _ _).mono ?_; rintro e w7 ⟨rfl, rfl⟩))
      have hsz5 : w.heap.size < w6.heap.size := by have := hB1.size; have := hb.size; have := hb6.size; have e1 : w1.heap.size = w.heap.size + 2 := by rw [← hw1]; simp
                                                   omega
      have bO := Boxed.new w6 38 (.slice none 0 0)
      obtain ⟨W0, hW0⟩ : ∃ W0, (w6.alloc (.cells #[.slice none 0 0] 38)).alloc (.cells #[.int .i64 a0_0, .slice A0_1 l0_1.length c0_1] 24) = W0 := ⟨_, rfl⟩
      have hBW0 : Below w6.heap.size w6 W0 := by rw [← hW0]; exact below_alloc (below_alloc (Below.refl _ _) _) _
      have hszW : W0.heap.size = w6.heap.size + 2 := by rw [← hW0]; simp
      have bO0 : Boxed W0 w6.heap.size 38 (.slice none 0 0) := by rw [← hW0]; exact bO.alloc _
      have hBs : W0.cell? ⟨w6.heap.size + 1, 1, none⟩ = some (.slice A0_1 l0_1.length c0_1) := by rw [← hW0]; simp
      have hr0' := Kd.C_below hr0_1 hb7
      have hr1' := Kd.C_below hr1_1 hb7
      rw [hW0]
      clear hW0 bO hv0 hv1 hy0 hy1 hb hx0 hx1 hu0 hu1 hs0 hs1 hp0 hp1 hb5 hb6 hA2
      refine wpIn_rangeFunc_ownH rfl (by omega) (gf := 50) (lb := #[.pointer (some ⟨w6.heap.size + 1, 0, none⟩)]) rfl trivial (enters_of Try.func50 (by kernel_rfl) rfl)
        (up_stops Fence.wide _ trivial rfl (by omega) (w6.heap.size + 1) A0_1 c0_1 l0_1 w6 W0 hr0' hBW0 hBs) belowK_t (belowK_b (by omega)) (Below.refl _ _) (fun _ => rfl)
        (fun pre W => (∃ v, Boxed W w6.heap.size 38 v ∧ W.ownsRow w6.heap.size 3 1 v (goneP l1_1 pre).length ((goneP l1_1 pre).map (Value.int .i64)) ∧ True) ∧ Below w6.heap.size w6 W)
        (fun _ _ _ => False)
        (OwnFrom.and (Own.from (holdsRow_own w6.heap.size w6.heap.size 38 3 1 (fun (pre : List S53) => (goneP l1_1 pre).length) (fun (pre : List S53) => (goneP l1_1 pre).map (Value.int .i64)) (fun _ _ => True)) _) (ownFrom_below (Nat.le_refl _) (by omega)))
        (fun _ _ _ _ _ hs _ _ => hs)
        ⟨⟨_, bO0, World.ownsRow_nil _ _ _ _, trivial⟩, hBW0⟩
        (fun x a' W => ∃ Bx, w6.heap.size < Bx ∧ BoxM W Bx x ∧ a' = { tmps := #[.agg #[.int .i64 a0_0, .slice A0_1 l0_1.length c0_1], .agg #[.int .i64 a1_0, .slice A1_1 l1_1.length c1_1], .pointer (some ⟨w.heap.size, 0, none⟩), .pointer (some ⟨w.heap.size + 1, 0, none⟩), .slice none 0 0, .pointer (some ⟨w6.heap.size, 0, none⟩), .pointer (some ⟨Bx, 0, none⟩), .agg #[.int .i64 a0_0, .slice A0_1 l0_1.length c0_1], .bool true, .bool false, .bool false, .agg #[.int .i64 a1_0, .slice A1_1 l1_1.length c1_1], .bool true, .bool false, .bool false, .agg #[.int .i64 a0_0, .slice A0_1 l0_1.length c0_1], .func (.func 50) #[] #[.pointer (some ⟨w6.heap.size + 1, 0, none⟩)], .agg #[.int .i64 x.f0, .int .i64 x.f1, .bool x.f2], undef, undef, undef, undef, undef, undef, undef, undef, undef, undef, undef], defers := [] })
        (fun x a' _ X Y row hs hg hr => by obtain ⟨Bx, h1, h2, h3⟩ := hs; exact ⟨Bx, h1, h2.own hg (fun r e => (hr r e).2), h3⟩)
        ?assign ?body ?done ?stop
      case assign =>
        rintro l pre x W K ⟨⟨v, hv, hrow, _⟩, hB⟩ hK
        have hvl := hv.lt
        simp only [agM]
        gi_wp2
        exact hK _ _ ((KeepsOthers.alloc _ _).from _) ((Below.refl _ W).alloc hB.size _) ⟨⟨v, hv.alloc _, hrow.alloc _, trivial⟩, hB.alloc hB.size _⟩ ⟨W.heap.size, hvl, BoxM.new W x, rfl⟩
      case body =>
        rintro l pre x a' W hl2 ⟨r, hr⟩ ⟨⟨v, hv, hrow, _⟩, hB⟩ ⟨Bx, hBx, bX, rfl⟩ hlt
        have hx0 := bX.cell0
        have hx1 := bX.cell1
        have hx2 := bX.cell2
        have hq2 := (hB.cell (World.block_lt_of_cell? _ _ hq1)).trans hq1
        have hcon := api_Member_40.calls k A1_1 c1_1 l1_1 x.f0 x.f1 x.f2 (memM l1_1 x) W (Kd.C_below hr1' hB) hc1_1 (hasM_is k l1_1 x hl1 hk)
        have hsn := goneP_snoc l1_1 pre x
        have hgl := goneP_le l1_1 pre
        by_cases hm : memM l1_1 x = true
        · rw [hm] at hcon
          rw [if_pos hm] at hsn
          gi_wp2_with (refine ⟨trivial, ?_⟩; gi_at_call 40; refine (CallsIn.inRound l (callsIn_wide.2 hcon)).mono ?_; rintro e w' ⟨rfl, hb⟩)
          exact ⟨(keepsOthers_below hb).from _, hb.mono hB.size, ⟨v, (hb.block _ hv.lt).trans hv, by rw [hsn]; exact pw_own_below hrow hb, trivial⟩, hB.trans (hb.mono hB.size)⟩
        · rw [if_neg hm] at hsn
          have hm' : memM l1_1 x = false := by simpa using hm
          rw [hm'] at hcon
          gi_wp2_with (first
            | (refine ⟨trivial, ?_⟩; gi_at_call 40; refine (CallsIn.inRound l (callsIn_wide.2 hcon)).mono ?_; rintro e W5 ⟨rfl, hb⟩; have hwv : Boxed W5 w6.heap.size 38 v := (hb.block _ hv.lt).trans hv; have hwr := pw_own_below hrow hb; have hc := hwv.cell; have hz0 := (hb.cell (World.block_lt_of_cell? _ _ hx0)).trans hx0; have hBz := hB.trans (hb.mono hB.size))
            | (gi_at_builtin; refine wpListIn_append_own _ rfl _ _ 38 rfl w6.heap.size 3 i0 (.int .i64 0) 1 8 Try.underlying38 hi (by assumption) hz1 hz2 rfl (by decide) _ _ _ rfl (hwr.alloc _) ⟨W5.heap.size, 0, none⟩ 1 1 [.int .i64 x.f0] rfl rfl (cell_one_new _ _ _) (by simp [Value.oneCell']) (by unfold maxLen; omega) (by omega) (by have := hBz.size; simp; omega) ?_; intro v' w1 hown' hgrow _; obtain ⟨g', cap', rfl⟩ := ownsRow_succ hown'; obtain ⟨hv1, hv2, hr2, hk2, hb2⟩ := hwv.appended (by decide) hwr hBz.size (by omega) hown' hgrow; have hc1 := hv1.cell; have hf1 := hv1.frozen))
          exact ⟨(keepsOthers_below hb).trans hk2 |>.from _, (hb.mono hB.size).trans hb2, ⟨_, hv2, by rw [hsn, List.length_append, List.map_append]; exact hr2, trivial⟩, hBz.trans hb2⟩
      case done =>
        rintro D ys W hD rfl ⟨⟨v, hv, hrow, _⟩, hB⟩ hK
        have hc := hv.cell
        gi_wp2
        refine ⟨by simp, .inl ⟨_, _, rfl, run_takeDeferred hK, ?_⟩⟩
        refine ⟨_, results_tmp rfl _ _ _, v, rfl, ?_, (hb7.trans (hB.mono hb7.size)).trans (belowK_b (w := w) (Nat.le_refl _) W D _ _ (by omega) hK rfl rfl)⟩
        have ho := ownsRow_putObj hrow (.deferred none) hK rfl
        refine Kd.R_lower (Kd.R_of_own (xs := goneOf l0_1 l1_1) ?_ (fun _ _ => trivial)) hb7.size
        exact ho
      case stop =>
        rintro D c pre W _ _ h _
        exact h.elim
end

end Go.Proofs.Ytpdalofhekmbeaa.PViewRises
