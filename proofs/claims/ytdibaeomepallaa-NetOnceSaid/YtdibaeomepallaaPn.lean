/- The law NetOnce's walk. -/
import Derived.Test.YtdibaeomepallaaPm
import Derived.Test.YtdibaeomepallaaPj
import Derived.Test.YtdibaeomepallaaNO
namespace Go.Proofs.Ytdibaeomepallaa.NW
open Go.RowKit Go.Proofs.YtdibaeomepallaaW.PrintWords Go.Proofs.YtdibaeomepallaaW.PrintLast Go.Proofs.YtdibaeomepallaaW.PrintMore Go.Proofs.Ytdibaeomepallaa.PAll
set_option linter.unusedVariables false
set_option linter.unusedSimpArgs false
set_option maxRecDepth 100000
attribute [local go_sem high] eqA52 eqA58
theorem do_any (x : S42) (h0 : x.f0 ≠ 0) (h1 : x.f0 ≠ 1) (h3 : x.f0 ≠ 3) {w : World} {F : Nat → Prop} {g : Nat} {q : List (List Pk)} {ap : List Bool} (hn : NetW w F g q ap) (hcq : cnt q ≤ 1000) :
    Calls Try.prog 22 #[.pointer (some ⟨g, 0, none⟩), .agg #[.slice none 0 0, .slice none 0 0], .agg #[.int .i64 x.f0, .int .i64 x.f1.f0, .int .i64 x.f1.f1, .int .i64 x.f1.f2, .int .i64 x.f1.f3, .int .i64 x.f1.f4, .int .i64 x.f1.f5, .string x.f1.f6, .int .i64 x.f2.f0, .int .i64 x.f2.f1, .int .i64 x.f3, .bool x.f4]] w (DoAny w F g (actQ x q ap) (actA x ap)) := by
  obtain ⟨kd, p, ⟨a, b⟩, i, on⟩ := x
  unfold actQ actA
  dsimp only at h0 h1 h3 ⊢
  have f0 : Kd.F k58 w (fun k => ¬ F k) none ([] : List Pk).length (([] : List Pk).map to58) := Kd.F_nil _ _ _
  have f1 : Kd.F k52 w (fun k => ¬ F k) none ([] : List S52).length [] := Kd.F_nil _ _ _
  by_cases e2 : kd = 2
  · subst e2
    exact doAny_lose p a b i on hn hcq (L := []) (A := []) (by decide) (by decide) f0 (Nat.le_refl _) f1 (Nat.le_refl _)
  by_cases e4 : kd = 4
  · subst e4
    exact doAny_apart p a b i on hn hcq (L := []) (A := []) (by decide) (by decide) f0 (Nat.le_refl _) f1 (Nat.le_refl _)
  by_cases e5 : kd = 5
  · subst e5
    exact doAny_clear p a b i on hn hcq (L := []) (A := []) (by decide) (by decide) f0 (Nat.le_refl _) f1 (Nat.le_refl _)
  rw [if_neg h0, if_neg h1, if_neg e2, if_neg h3, if_neg e5, if_neg e4]
  refine (do_else p a b i on kd (by omega) hn (L := []) (A := []) f0 (Nat.le_refl _) f1 (Nat.le_refl _)).mono ?_
  rintro e w' ⟨v0, v1, he, F', h1, h2, _, _, h5⟩
  exact ⟨v0, v1, true, he, F', h1, h2, h5⟩
theorem St.doAny {w0 W : World} {g : Nat} {L : List (Nat × Obj)} {q q' : List (List Pk)} {ap ap' : List Bool} {args : Array Value} (h : St w0 g L q ap W) (hc : ∀ F, NetW W F g q ap → Calls Try.prog 22 args W (DoAny W F g q' ap')) :
    Calls Try.prog 22 args W fun e w' => ∃ v, e = .returned v ∧ St w0 g L q' ap' w' := by
  obtain ⟨F, h1, h2, h3⟩ := h.ex
  refine (hc F h1).mono ?_
  rintro e w' ⟨v0, v1, b, he, F', hn, hF', hm⟩
  refine ⟨_, he, ⟨F', hn, fun k hk => (hF' k hk).elim (h2 k) (fun e => Nat.le_trans h.below.size e), fun x hx => ?_⟩, h.below.trans (hm.below h.below.size h2)⟩
  have hx3 := h3 x hx
  exact ⟨(hm.block _ (blk_lt hx3.1) hx3.2).trans hx3.1, fun e => (hF' _ e).elim hx3.2 (fun e => by have := blk_lt hx3.1; omega)⟩
theorem swap2 {α : Type} {a b : α} : ∀ y ∈ [a, b], y ∈ [b, a] := by
  intro y hy
  rcases List.mem_cons.1 hy with rfl | hy
  · exact List.mem_cons_of_mem _ List.mem_cons_self
  · rw [List.mem_singleton.1 hy]
    exact List.mem_cons_self
/-- A block made since is none of the net's: it may stand among the boxes. -/
theorem St.extra {w0 W W' : World} {g b : Nat} {o : Obj} {L : List (Nat × Obj)} {q : List (List Pk)} {ap : List Bool} (h : St w0 g L q ap W) (hb : Below W.heap.size W W') (hge : W.heap.size ≤ b) (ho : W'.heap[b]? = some o) : St w0 g ((b, o) :: L) q ap W' := by
  obtain ⟨F, h1, h2, h3⟩ := h.ex
  refine ⟨⟨fun k => F k ∧ k < W.heap.size, (h1.mono (fun k hk hF => ⟨hF, hk⟩)).below hb, fun k hk => h2 k hk.1, fun x hx => ?_⟩, h.below.trans (hb.mono h.below.size)⟩
  rcases List.mem_cons.1 hx with rfl | hx
  · exact ⟨ho, fun e => by have := e.2; omega⟩
  · exact ⟨(hb.block _ (blk_lt (h3 x hx).1)).trans (h3 x hx).1, fun e => (h3 x hx).2 e.1⟩
theorem row_box {W : World} {base : Nat} {ok : Nat → Prop} {v : Value} {xs : List S28} (h : Kd.R k28 28 W base ok v xs) (hn : 0 < xs.length) : ∃ ad c, v = .slice (some ad) xs.length c ∧ base ≤ ad.block ∧ (∃ o, W.heap[ad.block]? = some o) ∧ Kd.C k28 W (some ad) xs.length xs := by
  obtain ⟨A, c, rfl, hc, hF⟩ := RF.of_R h
  have hC := Kd.F_now hF
  obtain ⟨ad, hA, _⟩ := hC.2.2 hn
  subst hA
  exact ⟨ad, c, rfl, Kd.F_in hF rfl hn (by decide), ⟨_, Array.getElem?_eq_getElem (Kd.C_lt hC hn (by decide))⟩, hC⟩
theorem row_cell5 {W W' : World} {ad : Addr} {R : List S28} {n k : Nat} {p : S28} {o : Obj} (hC : Kd.C k28 W (some ad) R.length R) (hrow : R[n]? = some p) (h5 : p.f5 = (k : Int)) (ho : W.heap[ad.block]? = some o) (ho2 : W'.heap[ad.block]? = some o) :
    W'.cell? ⟨(ad.add (n * 7)).block, (ad.add (n * 7)).off + 5, none⟩ = some (.int .i64 (k : Int)) := by
  have hn := (List.getElem?_eq_some_iff.1 hrow).1
  obtain ⟨ad', hA, _, _, _, _, _, e5, _⟩ := at_T28 hC (n : Int) (by omega) (by omega)
  injection hA with hA
  subst hA
  have r28 : rd_T28 R (n : Int) = p := by unfold rd_T28; rw [Int.toNat_natCast, List.getD_eq_getElem?_getD, hrow]; rfl
  rw [r28, h5, Int.toNat_natCast] at e5
  have hb : (ad.add (n * 7)).block = ad.block := by unfold Addr.add; split <;> rfl
  rw [← e5]
  unfold World.cell?
  show (match W'.heap[(ad.add (n * 7)).block]? with | some (.cells c _ _) => _ | _ => _) = (match W.heap[(ad.add (n * 7)).block]? with | some (.cells c _ _) => _ | _ => _)
  rw [hb, ho, ho2]
section
variable (Al : Option Addr) (cl : Nat) (l : List S42) (w : World)
set_option maxHeartbeats 16000000 in
theorem netOnce_walk {G0 : Prop} (hl0 : Kd.C k42 w Al l.length l) (hcl : l.length ≤ cl) (g0 : G0) (hm0 : l.length ≤ maxLen) :
    Calls Try.prog 5 #[.slice Al l.length cl] w fun e w' => e = .returned (.bool true) ∧ Below w.heap.size w w' := by
  have hu28 := Try.underlying28
  have hu32 := Try.underlying32
  have hu40 := Try.underlying40
  have hu42 := Try.underlying42
  have hu47 := Try.underlying47
  have HL := Aside0.mk hl0
  clear hl0
  go_enter Try.func5, Try.ntmps5
  go_wp2_with (first
    | ((with_reducible refine gate_dst (N := 12) rfl ?_); refine goesL_ (some 12) rfl rfl Try.func15 (by kernel_rfl) rfl #[] rfl (by simp) ?_; refine (St.new w _ (Below.refl _ _)).mono ?_; rintro e w12 ⟨rfl, hs⟩; have HS := Aside0.mk (show St w w.heap.size [] q0 a0 w12 from hs); clear hs; refine ⟨_, rfl, ?_⟩)
    | ((with_reducible refine gate_dst (N := 13) rfl ?_); refine goesL_ (some 13) rfl rfl Try.func16 (by kernel_rfl) rfl #[] rfl (by simp) ?_; refine (awake_is _).mono ?_; rintro e w13 ⟨rfl, hb⟩; have HS_ := Aside0.mk (HS.out.bel hb); clear HS; have HS := HS_; clear HS_; clear hb; refine ⟨_, rfl, ?_⟩))
  have HB0 := Aside0.mk (show w.heap.size ≤ w13.heap.size from HS.out.below.size)
  have HS1 := Aside0.mk (St.sub ((HS.out.alloc (arr (List.replicate 61 0))).alloc (arr (List.replicate 61 0))) (L' := [(w13.heap.size, arr (List.replicate 61 0)), (w13.heap.size + 1, arr (List.replicate 61 0))]) (by
    intro y hy
    rcases List.mem_cons.1 hy with rfl | hy
    · exact List.mem_cons_of_mem _ List.mem_cons_self
    · rw [List.mem_singleton.1 hy]
      have hsz : (w13.alloc (arr (List.replicate 61 0))).heap.size = w13.heap.size + 1 := by simp
      rw [← hsz]
      exact List.mem_cons_self))
  obtain ⟨B4, hB4⟩ : ∃ B4, B4 = w13.heap.size := ⟨_, rfl⟩
  rw [← hB4] at HB0 HS1
  rw [← hB4]
  clear hB4
  go_loopg [6] l.length (fun kq v6 w' => ∃ (i : Nat) (q : List (List Pk)) (L : List Pk) (ap : List Bool) (A : List S52) (S T : List Int), v6 = .int .i64 i ∧ Aside0 (St w w.heap.size [(B4, arr S), (B4 + 1, arr T)] q ap w') ∧ Aside0 (NRel q L) ∧ Aside0 (ARel ap A) ∧ Aside0 (OInv l i L S T) ∧ Aside0 (L.length ≤ 400) ∧ Aside0 (i + kq = l.length) ∧ i ≤ 60)
  case atStart => exact ⟨0, _, _, _, _, _, _, rfl, HS1, ⟨nrel_new⟩, ⟨arel_new⟩, ⟨oinv_start l⟩, ⟨Nat.zero_le _⟩, ⟨by omega⟩, by omega⟩
  case round =>
    clear HS HS1
    obtain ⟨i, q, L, ap, A, S, T, rfl, HS, HR, HA, HI, HLn, HK, hi60⟩ := hrel
    cases gk with
    | zero =>
      have e : i = l.length := by have := HK.out; omega
      subst e
      have d1 : decide ((l.length : Int) < (l.length : Int)) = false := decide_eq_false (by omega)
      go_wp2
      go_loopg [11] 60 (fun kq v11 w' => ∃ j : Nat, v11 = .int .i64 j ∧ Aside0 (j + kq = 60) ∧ Aside0 (Below wr.heap.size wr w'))
      case atStart => exact ⟨0, rfl, ⟨rfl⟩, ⟨Below.refl _ _⟩⟩
      case round =>
        obtain ⟨j, rfl, HK2, HB2⟩ := hrel
        cases gk with
        | zero =>
          have e : j = 60 := by have := HK2.out; omega
          subst e
          have d3 : decide (((60 : Nat) : Int) < 60) = false := by decide
          go_wp2
          go_ret
          exact ⟨rfl, HS.out.below.trans (HB2.out.mono HS.out.below.size)⟩
        | succ k2 =>
          have hj : j < 60 := by have := HK2.out; omega
          have d3 : decide ((j : Int) < 60) = true := decide_eq_true (by omega)
          have j0 : (0 : Int) ≤ (j : Int) := by omega
          have j1 : (j : Int) < 61 := by omega
          have c4 := arr_cell (keep_box (HS.out.box List.mem_cons_self) HB2.out) HI.out.ls (k := j) (by omega)
          have c5 := arr_cell (keep_box (HS.out.box (List.mem_cons_of_mem _ List.mem_cons_self)) HB2.out) HI.out.lt (k := j) (by omega)
          have d4 : decide (S.getD j 0 < T.getD j 0) = false := decide_eq_false (by have := HI.out.sum j hj; omega)
          generalize S.getD j 0 = s0 at *
          generalize T.getD j 0 = t0 at *
          go_wp2
          go_quiet (fail)
          go_wp2
          go_roundg k2
          case measure => omega
          case rel => exact ⟨j + 1, by first | rfl | (simp; done) | (simp; unfold wrap64; omega), ⟨by have := HK2.out; omega⟩, ⟨pw_below_drewN HB2.out _⟩⟩
    | succ k1 =>
      have hi : i < l.length := by have := HK.out; omega
      have d1 : decide ((i : Int) < (l.length : Int)) = true := decide_eq_true (by omega)
      by_cases h6 : i < 60
      · have d2 : decide ((i : Int) < 60) = true := decide_eq_true (by omega)
        have i0 : (0 : Int) ≤ (i : Int) := by omega
        have i1 : (i : Int) < (l.length : Int) := by omega
        have i2 : (i : Int) < 61 := by omega
        obtain ⟨x, hx⟩ : ∃ x, rd_T42 l (i : Int) = x := ⟨_, rfl⟩
        obtain ⟨ad, hA, _⟩ := at_T42 HL.out (i : Int) i0 i1
        have HX := Aside0.mk hx
        clear hx
        subst hA
        obtain ⟨e0, e1, e2, e3, e4, e5, e6, e7, e8, e9, e10, e11⟩ := cells42 HL.out HS.out.below hi HX.out rfl
        have HC := Aside0.mk (show cnt q ≤ 1000 by have h1 := HR.out.cnt; have h2 := HLn.out; omega)
        have HB7 := Aside0.mk (show w.heap.size ≤ wr.heap.size from HS.out.below.size)
        have HL7 := Aside0.mk (show ∀ y ∈ [(B4, arr S), (B4 + 1, arr T)], y.1 ≠ wr.heap.size by
          have h4 := blk_lt (HS.out.box List.mem_cons_self)
          have h5 := blk_lt (HS.out.box (List.mem_cons_of_mem _ List.mem_cons_self))
          intro y hy
          rcases List.mem_cons.1 hy with rfl | hy
          · exact Nat.ne_of_lt h4
          · rw [List.mem_singleton.1 hy]; exact Nat.ne_of_lt h5)
        by_cases k0 : x.f0 = 0
        · skip
          have d5 : (x.f0 == 0) = true := beq_iff_eq.mpr k0
          by_cases ht : x.f1.f6.size ≤ 2000
          · have d6 : decide ((x.f1.f6.size : Int) ≤ 2000) = true := decide_eq_true (by omega)
            by_cases hE : sendE (⟨x.f1.f0, x.f1.f1, x.f1.f2, x.f1.f3, (i : Int) + 1, (i : Int), x.f1.f6⟩ : S28) q = 0
            · obtain ⟨hr2, hi2, hl2⟩ := send_once (p := (⟨x.f1.f0, x.f1.f1, x.f1.f2, x.f1.f3, (i : Int) + 1, (i : Int), x.f1.f6⟩ : S28)) HR.out HI.out h6 rfl rfl (by rw [HX.out]) hE
              have HR2 := Aside0.mk hr2
              have HI2 := Aside0.mk hi2
              have HL2 := Aside0.mk hl2
              have HE := Aside0.mk hE
              clear hr2 hi2 hl2 hE
              have hs1 := HI.out.ps i
              obtain ⟨s0, hs0⟩ : ∃ s0, s0 = S.getD i 0 := ⟨_, rfl⟩
              rw [← hs0] at hs1
              have HS0 := Aside0.mk hs0
              clear hs0
              go_wp2_with (first
                | ((with_reducible refine gate_dst (N := 57) rfl ?_); refine gate_guard (by rfl) ?_; dsimp only; refine goesL_ (some 57) rfl rfl Try.func17 (by kernel_rfl) rfl #[.pointer (some ⟨w.heap.size, 0, none⟩), .agg #[.int .i64 x.f1.f0, .int .i64 x.f1.f1, .int .i64 x.f1.f2, .int .i64 x.f1.f3, .int .i64 ((i : Int) + 1), .int .i64 (i : Int), .string x.f1.f6]] rfl (by first | (simp only [List.map_toArray, List.map_cons, List.map_nil]; rfl) | rfl) ?_; refine (St.send (w0 := w) (HS.out.alloc _) (⟨x.f1.f0, x.f1.f1, x.f1.f2, x.f1.f3, (i : Int) + 1, (i : Int), x.f1.f6⟩ : S28) HC.out).mono ?_; rintro e w17 ⟨rfl, hs⟩; rw [HE.out]; have HS2 := Aside0.mk (St.sub hs (L' := [(B4, arr S), (B4 + 1, arr T)]) (fun y hy => List.mem_cons_of_mem _ hy)); clear hs; have c4 := arr_cell (HS2.out.box List.mem_cons_self) HI.out.ls (k := i) (by omega); rw [← HS0.out] at c4; have f4 := blk_frozen (HS2.out.box List.mem_cons_self) i; refine ⟨_, rfl, ?_⟩))
              have HS3 := St.setCell (cs := (S.map (Value.int .i64)).toArray) HS2.out (Nat.le_trans HB0.out (Nat.le_refl _)) (by intro y hy; rw [List.mem_singleton.1 hy]; exact Nat.succ_ne_self B4) i (.int .i64 (s0 + 1))
              rw [arr_set, HS0.out] at HS3
              rw [HS0.out]
              go_roundg k1
              case measure => omega
              case rel => exact ⟨i + 1, _, _, _, _, _, _, by first | rfl | (simp; done) | (simp; unfold wrap64; omega), ⟨HS3⟩, ⟨HR2.out⟩, ⟨HA.out⟩, ⟨HI2.out⟩, ⟨HL2.out⟩, ⟨by have := HK.out; omega⟩, by omega⟩

            · obtain ⟨hr2, hi2⟩ := send_none (p := (⟨x.f1.f0, x.f1.f1, x.f1.f2, x.f1.f3, (i : Int) + 1, (i : Int), x.f1.f6⟩ : S28)) HR.out HI.out hE
              have HR2 := Aside0.mk hr2
              have HI2 := Aside0.mk hi2
              have d7 : (sendE (⟨x.f1.f0, x.f1.f1, x.f1.f2, x.f1.f3, (i : Int) + 1, (i : Int), x.f1.f6⟩ : S28) q == 0) = false := beq_eq_false_iff_ne.mpr hE
              clear hr2 hi2 hE
              go_wp2_with (first
                | ((with_reducible refine gate_dst (N := 57) rfl ?_); refine gate_guard (by rfl) ?_; dsimp only; refine goesL_ (some 57) rfl rfl Try.func17 (by kernel_rfl) rfl #[.pointer (some ⟨w.heap.size, 0, none⟩), .agg #[.int .i64 x.f1.f0, .int .i64 x.f1.f1, .int .i64 x.f1.f2, .int .i64 x.f1.f3, .int .i64 ((i : Int) + 1), .int .i64 (i : Int), .string x.f1.f6]] rfl (by first | (simp only [List.map_toArray, List.map_cons, List.map_nil]; rfl) | rfl) ?_; refine (St.send (w0 := w) (HS.out.alloc _) (⟨x.f1.f0, x.f1.f1, x.f1.f2, x.f1.f3, (i : Int) + 1, (i : Int), x.f1.f6⟩ : S28) HC.out).mono ?_; rintro e w17 ⟨rfl, hs⟩; have HS2 := Aside0.mk (St.sub hs (L' := [(B4, arr S), (B4 + 1, arr T)]) (fun y hy => List.mem_cons_of_mem _ hy)); clear hs; refine ⟨_, rfl, ?_⟩))
              go_roundg k1
              case measure => omega
              case rel => exact ⟨i + 1, _, _, _, _, _, _, by first | rfl | (simp; done) | (simp; unfold wrap64; omega), ⟨HS2.out⟩, ⟨HR2.out⟩, ⟨HA.out⟩, ⟨HI2.out⟩, ⟨HLn.out⟩, ⟨by have := HK.out; omega⟩, by omega⟩

          · have d6 : decide ((x.f1.f6.size : Int) ≤ 2000) = false := decide_eq_false (by omega)
            go_wp2
            go_roundg k1
            case measure => omega
            case rel => exact ⟨i + 1, _, _, _, _, _, _, by first | rfl | (simp; done) | (simp; unfold wrap64; omega), ⟨St.sub (HS.out.alloc _) (L' := [(B4, arr S), (B4 + 1, arr T)]) (fun y hy => List.mem_cons_of_mem _ hy)⟩, ⟨HR.out⟩, ⟨HA.out⟩, ⟨(HI.out.sub (List.Sublist.refl _))⟩, ⟨HLn.out⟩, ⟨by have := HK.out; omega⟩, by omega⟩
        · by_cases k1' : x.f0 = 1
          · skip
            have d5 : (x.f0 == 0) = false := beq_eq_false_iff_ne.mpr k0
            have d6 : (x.f0 == 1) = true := beq_iff_eq.mpr k1'
            have hd0 : ((1 : Int) == 0) = false := by decide
            by_cases hE : takeE q ap x.f2.f0 x.f2.f1 x.f3 = 0
            · obtain ⟨k, p2, p3, n, hk, hP, hr2, hi2, hl2⟩ := take_once HR.out HA.out HI.out h6 hE
              have HR2 := Aside0.mk hr2
              have HI2 := Aside0.mk hi2
              have HL2 := Aside0.mk (Nat.le_trans hl2 HLn.out)
              have HE := Aside0.mk hE
              obtain ⟨tx, htx⟩ : ∃ tx, tx = (rd_T42 l (k : Int)).f1.f6 := ⟨_, rfl⟩
              rw [← htx] at hP
              have HP := Aside0.mk hP
              have HTx := Aside0.mk htx
              clear hr2 hi2 hl2 hE hP htx
              have hs1 := HI.out.pt k
              obtain ⟨s0, hs0⟩ : ∃ s0, s0 = T.getD k 0 := ⟨_, rfl⟩
              rw [← hs0] at hs1
              have HS0 := Aside0.mk hs0
              clear hs0
              have g1 : decide ((k : Int) < 0) = false := decide_eq_false (by omega)
              have g2 : decide ((59 : Int) < (k : Int)) = false := decide_eq_false (by omega)
              have g3 : (0 : Int) ≤ (k : Int) := by omega
              have g4 : (k : Int) < (l.length : Int) := by omega
              have g5 : (k : Int) < 61 := by omega
              have g6 : wrap64 ((k : Int) + 1) = (k : Int) + 1 := by unfold wrap64; omega
              go_wp2_with (first
                | ((with_reducible refine gate_dst (N := 73) rfl ?_); refine goesL_ (some 73) rfl rfl Try.func24 (by kernel_rfl) rfl #[.pointer (some ⟨w.heap.size, 0, none⟩), .agg #[.int .i64 x.f2.f0, .int .i64 x.f2.f1], .int .i64 x.f3] rfl (by first | (simp only [List.map_toArray, List.map_cons, List.map_nil]; rfl) | rfl) ?_; refine (St.take (w0 := w) (HS.out.alloc _) HC.out x.f2.f0 x.f2.f1 x.f3 _ HP.out).mono ?_; rintro e w24 ⟨rfl, hs⟩; rw [HE.out]; have HS2 := Aside0.mk (hs.alloc (.cells #[.int .i64 x.f2.f0, .int .i64 x.f2.f1, .int .i64 p2, .int .i64 p3, .int .i64 ((k : Int) + 1), .int .i64 (k : Int), .string tx] 28 (0, 0))); clear hs; refine ⟨_, rfl, ?_⟩))
              have HBx := Aside0.mk (HS2.out.box (List.mem_cons_of_mem _ List.mem_cons_self))
              have HBp := Aside0.mk (HS2.out.box List.mem_cons_self)
              have HS3 := Aside0.mk (St.sub HS2.out (L' := [(B4 + 1, arr T), (B4, arr S)]) (by
                intro y hy
                rcases List.mem_cons.1 hy with rfl | hy
                · exact List.mem_cons_of_mem _ (List.mem_cons_of_mem _ (List.mem_cons_of_mem _ List.mem_cons_self))
                · rw [List.mem_singleton.1 hy]
                  exact List.mem_cons_of_mem _ (List.mem_cons_of_mem _ List.mem_cons_self)))
              have c5 := arr_cell (HS3.out.box List.mem_cons_self) HI.out.lt (k := k) (by omega)
              rw [← HS0.out] at c5
              have f5 := blk_frozen (HS3.out.box List.mem_cons_self) k
              have X8 : (w24.alloc (.cells #[.int .i64 x.f2.f0, .int .i64 x.f2.f1, .int .i64 p2, .int .i64 p3, .int .i64 ((k : Int) + 1), .int .i64 (k : Int), .string tx] 28 (0, 0))).cell? ⟨wr.heap.size, 8, none⟩ = some (.int .i64 x.f2.f0) := (blk_cell HBx.out 8).trans rfl
              have X9 : (w24.alloc (.cells #[.int .i64 x.f2.f0, .int .i64 x.f2.f1, .int .i64 p2, .int .i64 p3, .int .i64 ((k : Int) + 1), .int .i64 (k : Int), .string tx] 28 (0, 0))).cell? ⟨wr.heap.size, 9, none⟩ = some (.int .i64 x.f2.f1) := (blk_cell HBx.out 9).trans rfl
              have Y0 : (w24.alloc (.cells #[.int .i64 x.f2.f0, .int .i64 x.f2.f1, .int .i64 p2, .int .i64 p3, .int .i64 ((k : Int) + 1), .int .i64 (k : Int), .string tx] 28 (0, 0))).cell? ⟨w24.heap.size, 0, none⟩ = some (.int .i64 x.f2.f0) := (blk_cell HBp.out 0).trans rfl
              have Y1 : (w24.alloc (.cells #[.int .i64 x.f2.f0, .int .i64 x.f2.f1, .int .i64 p2, .int .i64 p3, .int .i64 ((k : Int) + 1), .int .i64 (k : Int), .string tx] 28 (0, 0))).cell? ⟨w24.heap.size, 1, none⟩ = some (.int .i64 x.f2.f1) := (blk_cell HBp.out 1).trans rfl
              have Y4 : (w24.alloc (.cells #[.int .i64 x.f2.f0, .int .i64 x.f2.f1, .int .i64 p2, .int .i64 p3, .int .i64 ((k : Int) + 1), .int .i64 (k : Int), .string tx] 28 (0, 0))).cell? ⟨w24.heap.size, 4, none⟩ = some (.int .i64 ((k : Int) + 1)) := (blk_cell HBp.out 4).trans rfl
              have Y5 : (w24.alloc (.cells #[.int .i64 x.f2.f0, .int .i64 x.f2.f1, .int .i64 p2, .int .i64 p3, .int .i64 ((k : Int) + 1), .int .i64 (k : Int), .string tx] 28 (0, 0))).cell? ⟨w24.heap.size, 5, none⟩ = some (.int .i64 (k : Int)) := (blk_cell HBp.out 5).trans rfl
              have Y6 : (w24.alloc (.cells #[.int .i64 x.f2.f0, .int .i64 x.f2.f1, .int .i64 p2, .int .i64 p3, .int .i64 ((k : Int) + 1), .int .i64 (k : Int), .string tx] 28 (0, 0))).cell? ⟨w24.heap.size, 6, none⟩ = some (.string tx) := (blk_cell HBp.out 6).trans rfl
              obtain ⟨t0, t1, t2, t3, t4, t5, t6, t7, t8, t9, t10, t11⟩ := cells42 HL.out HS2.out.below (show k < l.length by omega) rfl rfl
              rw [← HTx.out] at t7
              clear e0 e1 e2 e3 e4 e5 e6 e7 e8 e9 e10 e11 t0 t1 t2 t3 t4 t5 t6 t8 t9 t10 t11
              go_quiet (fail)
              go_wp2
              have HS4 := St.setCell (cs := (T.map (Value.int .i64)).toArray) (HS3.out.drewN nq) (Nat.le_trans HB0.out (Nat.le_succ _)) (by intro y hy; rw [List.mem_singleton.1 hy]; exact (Nat.succ_ne_self B4).symm) k (.int .i64 (s0 + 1))
              rw [arr_set, HS0.out] at HS4
              rw [HS0.out]
              go_roundg k1
              case measure => omega
              case rel => exact ⟨i + 1, _, _, _, _, _, _, by first | rfl | (simp; done) | (simp; unfold wrap64; omega), ⟨St.sub HS4 (L' := [(B4, arr S), (B4 + 1, arr (T.set k (T.getD k 0 + 1)))]) swap2⟩, ⟨HR2.out⟩, ⟨HA.out⟩, ⟨HI2.out⟩, ⟨HL2.out⟩, ⟨by have := HK.out; omega⟩, by omega⟩

            · obtain ⟨hr2, hi2⟩ := take_none HR.out HI.out hE
              have HR2 := Aside0.mk hr2
              have HI2 := Aside0.mk hi2
              have d7 : (takeE q ap x.f2.f0 x.f2.f1 x.f3 == 0) = false := beq_eq_false_iff_ne.mpr hE
              have hP : takeP q ap x.f2.f0 x.f2.f1 x.f3 = pk0 := by unfold takeP; rw [if_neg hE]
              have HP := Aside0.mk hP
              clear hr2 hi2 hE hP
              go_wp2_with (first
                | ((with_reducible refine gate_dst (N := 73) rfl ?_); refine goesL_ (some 73) rfl rfl Try.func24 (by kernel_rfl) rfl #[.pointer (some ⟨w.heap.size, 0, none⟩), .agg #[.int .i64 x.f2.f0, .int .i64 x.f2.f1], .int .i64 x.f3] rfl (by first | (simp only [List.map_toArray, List.map_cons, List.map_nil]; rfl) | rfl) ?_; refine (St.take (w0 := w) (HS.out.alloc _) HC.out x.f2.f0 x.f2.f1 x.f3 _ HP.out).mono ?_; rintro e w24 ⟨rfl, hs⟩; have HS2 := Aside0.mk (St.sub hs (L' := [(B4, arr S), (B4 + 1, arr T)]) (fun y hy => List.mem_cons_of_mem _ hy)); clear hs; refine ⟨_, rfl, ?_⟩))
              go_roundg k1
              case measure => omega
              case rel => exact ⟨i + 1, _, _, _, _, _, _, by first | rfl | (simp; done) | (simp; unfold wrap64; omega), ⟨St.sub (HS2.out.alloc _) (L' := [(B4, arr S), (B4 + 1, arr T)]) (fun y hy => List.mem_cons_of_mem _ hy)⟩, ⟨HR2.out⟩, ⟨HA.out⟩, ⟨HI2.out⟩, ⟨HLn.out⟩, ⟨by have := HK.out; omega⟩, by omega⟩
          · by_cases k3 : x.f0 = 3
            · skip
              have d5 : (x.f0 == 0) = false := beq_eq_false_iff_ne.mpr k0
              have d6 : (x.f0 == 1) = false := beq_eq_false_iff_ne.mpr k1'
              have d7 : (x.f0 == 3) = true := beq_iff_eq.mpr k3
              by_cases hE : twiceE q x.f2.f0 x.f2.f1 x.f3 = 0
              · obtain ⟨k, n, p, hk, hn, hrow, h5, hr2, hi2, hl2⟩ := twice_once HR.out HI.out h6 hE
                obtain ⟨R, hRe⟩ : ∃ R, rowAt q x.f2.f0 x.f2.f1 = R := ⟨_, rfl⟩
                rw [hRe] at hrow
                have hRl : R.length ≤ 1000 := by rw [← hRe]; exact rowAt_short HC.out _ _
                have hnl : n < R.length := (List.getElem?_eq_some_iff.1 hrow).1
                have HR2 := Aside0.mk hr2
                have HI2 := Aside0.mk hi2
                have HL2 := Aside0.mk hl2
                have HE := Aside0.mk hE
                have HRe := Aside0.mk hRe
                have HN := Aside0.mk hn
                have HRow := Aside0.mk hrow
                have H5 := Aside0.mk h5
                clear hr2 hi2 hl2 hE hRe hn hrow h5
                have hs1 := HI.out.ps k
                obtain ⟨s0, hs0⟩ : ∃ s0, s0 = S.getD k 0 := ⟨_, rfl⟩
                rw [← hs0] at hs1
                have HS0 := Aside0.mk hs0
                clear hs0
                have g1 : decide ((k : Int) < 0) = false := decide_eq_false (by omega)
                have g2 : decide ((59 : Int) < (k : Int)) = false := decide_eq_false (by omega)
                have g3 : (0 : Int) ≤ (k : Int) := by omega
                have g5 : (k : Int) < 61 := by omega
                have m1 : decide ((n : Int) < 0) = false := decide_eq_false (by omega)
                have m2 : decide ((R.length : Int) ≤ (n : Int)) = false := decide_eq_false (by omega)
                have m3 : (0 : Int) ≤ (n : Int) := by omega
                have m4 : (n : Int) < (R.length : Int) := by omega
                go_wp2_with (first
                  | ((with_reducible refine gate_dst (N := 133) rfl ?_); refine goesL_ (some 133) rfl rfl Try.func25 (by kernel_rfl) rfl #[.pointer (some ⟨w.heap.size, 0, none⟩), .agg #[.int .i64 x.f2.f0, .int .i64 x.f2.f1]] rfl (by first | (simp only [List.map_toArray, List.map_cons, List.map_nil]; rfl) | rfl) ?_; refine (St.row (w0 := w) (HS.out.alloc _) HC.out x.f2.f0 x.f2.f1).mono ?_; rintro e w25 ⟨v25, rfl, hRk, hb, hs⟩; rw [HRe.out] at hRk; obtain ⟨ad2, c2, rfl, hge, ⟨ob, hob⟩, hCk⟩ := row_box hRk (by omega); have HS1 := Aside0.mk (St.extra (HS.out.alloc _) hb hge hob); have HCk := Aside0.mk hCk; have HOb := Aside0.mk hob; have X8 : w25.cell? ⟨wr.heap.size, 8, none⟩ = some (.int .i64 x.f2.f0) := (blk_cell (HS1.out.box (List.mem_cons_of_mem _ List.mem_cons_self)) 8).trans rfl; have X9 : w25.cell? ⟨wr.heap.size, 9, none⟩ = some (.int .i64 x.f2.f1) := (blk_cell (HS1.out.box (List.mem_cons_of_mem _ List.mem_cons_self)) 9).trans rfl; have X10 : w25.cell? ⟨wr.heap.size, 10, none⟩ = some (.int .i64 x.f3) := (blk_cell (HS1.out.box (List.mem_cons_of_mem _ List.mem_cons_self)) 10).trans rfl; clear hs hRk hb hge hCk hob; refine ⟨_, rfl, ?_⟩)
                  | ((with_reducible refine gate_dst (N := 139) rfl ?_); refine goesL_ (some 139) rfl rfl Try.func19 (by kernel_rfl) rfl #[.pointer (some ⟨w.heap.size, 0, none⟩), .agg #[.int .i64 x.f2.f0, .int .i64 x.f2.f1], .int .i64 x.f3] rfl (by first | (simp only [List.map_toArray, List.map_cons, List.map_nil]; rfl) | rfl) ?_; refine (St.twice (w0 := w) HS1.out HC.out x.f2.f0 x.f2.f1 x.f3).mono ?_; rintro e w19 ⟨rfl, hs⟩; rw [HE.out]; have HS2 := Aside0.mk hs; clear X8 X9 X10; have X10 : w19.cell? ⟨wr.heap.size, 10, none⟩ = some (.int .i64 (n : Int)) := (blk_cell (hs.box (List.mem_cons_of_mem _ List.mem_cons_self)) 10).trans (by rw [HN.out]; rfl); have Y5 := row_cell5 HCk.out HRow.out H5.out HOb.out (hs.box List.mem_cons_self); have HS3 := Aside0.mk (St.sub hs (L' := [(B4, arr S), (B4 + 1, arr T)]) (fun y hy => List.mem_cons_of_mem _ (List.mem_cons_of_mem _ hy))); have c4 := arr_cell (HS3.out.box List.mem_cons_self) HI.out.ls (k := k) (by omega); rw [← HS0.out] at c4; have f4 := blk_frozen (HS3.out.box List.mem_cons_self) k; clear hs; refine ⟨_, rfl, ?_⟩))
                have HS4 := St.setCell (cs := (S.map (Value.int .i64)).toArray) HS3.out (Nat.le_trans HB0.out (Nat.le_refl _)) (by intro y hy; rw [List.mem_singleton.1 hy]; exact Nat.succ_ne_self B4) k (.int .i64 (s0 + 1))
                rw [arr_set, HS0.out] at HS4
                rw [HS0.out]
                go_roundg k1
                case measure => omega
                case rel => exact ⟨i + 1, _, _, _, _, _, _, by first | rfl | (simp; done) | (simp; unfold wrap64; omega), ⟨HS4⟩, ⟨HR2.out⟩, ⟨HA.out⟩, ⟨HI2.out⟩, ⟨HL2.out⟩, ⟨by have := HK.out; omega⟩, by omega⟩

              · obtain ⟨hr2, hi2⟩ := twice_none HR.out HI.out HLn.out hE
                have HR2 := Aside0.mk hr2
                have HI2 := Aside0.mk hi2
                have d8 : (twiceE q x.f2.f0 x.f2.f1 x.f3 == 0) = false := beq_eq_false_iff_ne.mpr hE
                clear hr2 hi2 hE
                go_wp2_with (first
                  | ((with_reducible refine gate_dst (N := 133) rfl ?_); refine goesL_ (some 133) rfl rfl Try.func25 (by kernel_rfl) rfl #[.pointer (some ⟨w.heap.size, 0, none⟩), .agg #[.int .i64 x.f2.f0, .int .i64 x.f2.f1]] rfl (by first | (simp only [List.map_toArray, List.map_cons, List.map_nil]; rfl) | rfl) ?_; refine (St.row (w0 := w) (HS.out.alloc _) HC.out x.f2.f0 x.f2.f1).mono ?_; rintro e w25 ⟨v25, rfl, hRk, hb, hs⟩; obtain ⟨A2, c2, rfl⟩ := Kd.R_slice hRk; have HS1 := Aside0.mk hs; have X8 : w25.cell? ⟨wr.heap.size, 8, none⟩ = some (.int .i64 x.f2.f0) := (blk_cell (HS1.out.box List.mem_cons_self) 8).trans rfl; have X9 : w25.cell? ⟨wr.heap.size, 9, none⟩ = some (.int .i64 x.f2.f1) := (blk_cell (HS1.out.box List.mem_cons_self) 9).trans rfl; have X10 : w25.cell? ⟨wr.heap.size, 10, none⟩ = some (.int .i64 x.f3) := (blk_cell (HS1.out.box List.mem_cons_self) 10).trans rfl; clear hs hRk hb; refine ⟨_, rfl, ?_⟩)
                  | ((with_reducible refine gate_dst (N := 139) rfl ?_); refine goesL_ (some 139) rfl rfl Try.func19 (by kernel_rfl) rfl #[.pointer (some ⟨w.heap.size, 0, none⟩), .agg #[.int .i64 x.f2.f0, .int .i64 x.f2.f1], .int .i64 x.f3] rfl (by first | (simp only [List.map_toArray, List.map_cons, List.map_nil]; rfl) | rfl) ?_; refine (St.twice (w0 := w) HS1.out HC.out x.f2.f0 x.f2.f1 x.f3).mono ?_; rintro e w19 ⟨rfl, hs⟩; have HS2 := Aside0.mk (St.sub hs (L' := [(B4, arr S), (B4 + 1, arr T)]) (fun y hy => List.mem_cons_of_mem _ hy)); clear hs; refine ⟨_, rfl, ?_⟩))
                go_roundg k1
                case measure => omega
                case rel => exact ⟨i + 1, _, _, _, _, _, _, by first | rfl | (simp; done) | (simp; unfold wrap64; omega), ⟨HS2.out⟩, ⟨HR2.out⟩, ⟨HA.out⟩, ⟨HI2.out⟩, ⟨HLn.out⟩, ⟨by have := HK.out; omega⟩, by omega⟩
            · skip
              have d5 : (x.f0 == 0) = false := beq_eq_false_iff_ne.mpr k0
              have d6 : (x.f0 == 1) = false := beq_eq_false_iff_ne.mpr k1'
              have d7 : (x.f0 == 3) = false := beq_eq_false_iff_ne.mpr k3
              obtain ⟨hr2, ha2, hl2, _⟩ := act_rel (x := x) HR.out HA.out HLn.out
              have HR2 := Aside0.mk hr2
              have HA2 := Aside0.mk ha2
              have HL2 := Aside0.mk hl2
              have HI2 := Aside0.mk (HI.out.sub (actL_sub x L A k0 k3))
              clear hr2 ha2 hl2
              go_wp2_with (first
                | ((with_reducible refine gate_dst (N := 38) rfl ?_); refine goesL_ (some 38) rfl rfl Try.func22 (by kernel_rfl) rfl #[.pointer (some ⟨w.heap.size, 0, none⟩), .agg #[.slice none 0 0, .slice none 0 0], .agg #[.int .i64 x.f0, .int .i64 x.f1.f0, .int .i64 x.f1.f1, .int .i64 x.f1.f2, .int .i64 x.f1.f3, .int .i64 x.f1.f4, .int .i64 x.f1.f5, .string x.f1.f6, .int .i64 x.f2.f0, .int .i64 x.f2.f1, .int .i64 x.f3, .bool x.f4]] rfl (by first | (simp only [List.map_toArray, List.map_cons, List.map_nil]; rfl) | rfl) ?_; refine (St.doAny (w0 := w) (HS.out.alloc (.cells #[.int .i64 x.f0, .int .i64 x.f1.f0, .int .i64 x.f1.f1, .int .i64 x.f1.f2, .int .i64 x.f1.f3, .int .i64 x.f1.f4, .int .i64 x.f1.f5, .string x.f1.f6, .int .i64 x.f2.f0, .int .i64 x.f2.f1, .int .i64 x.f3, .bool x.f4] 42 (0, 0))) (fun F hn => do_any x k0 k1' k3 hn HC.out)).mono ?_; rintro e w22 ⟨v22, rfl, hs⟩; have HS2 := Aside0.mk (St.sub hs (L' := [(B4, arr S), (B4 + 1, arr T)]) (fun y hy => List.mem_cons_of_mem _ hy)); clear hs; refine ⟨_, rfl, ?_⟩))
              go_roundg k1
              case measure => omega
              case rel => exact ⟨i + 1, _, _, _, _, _, _, by first | rfl | (simp; done) | (simp; unfold wrap64; omega), ⟨HS2.out⟩, ⟨HR2.out⟩, ⟨HA2.out⟩, ⟨HI2.out⟩, ⟨HL2.out⟩, ⟨by have := HK.out; omega⟩, by omega⟩
      · have d2 : decide ((i : Int) < 60) = false := decide_eq_false (by omega)
        go_wp2
        go_loopg [11] 60 (fun kq v11 w' => ∃ j : Nat, v11 = .int .i64 j ∧ Aside0 (j + kq = 60) ∧ Aside0 (Below wr.heap.size wr w'))
        case atStart => exact ⟨0, rfl, ⟨rfl⟩, ⟨Below.refl _ _⟩⟩
        case round =>
          obtain ⟨j, rfl, HK2, HB2⟩ := hrel
          cases gk with
          | zero =>
            have e : j = 60 := by have := HK2.out; omega
            subst e
            have d3 : decide (((60 : Nat) : Int) < 60) = false := by decide
            go_wp2
            go_ret
            exact ⟨rfl, HS.out.below.trans (HB2.out.mono HS.out.below.size)⟩
          | succ k2 =>
            have hj : j < 60 := by have := HK2.out; omega
            have d3 : decide ((j : Int) < 60) = true := decide_eq_true (by omega)
            have j0 : (0 : Int) ≤ (j : Int) := by omega
            have j1 : (j : Int) < 61 := by omega
            have c4 := arr_cell (keep_box (HS.out.box List.mem_cons_self) HB2.out) HI.out.ls (k := j) (by omega)
            have c5 := arr_cell (keep_box (HS.out.box (List.mem_cons_of_mem _ List.mem_cons_self)) HB2.out) HI.out.lt (k := j) (by omega)
            have d4 : decide (S.getD j 0 < T.getD j 0) = false := decide_eq_false (by have := HI.out.sum j hj; omega)
            generalize S.getD j 0 = s0 at *
            generalize T.getD j 0 = t0 at *
            go_wp2
            go_quiet (fail)
            go_wp2
            go_roundg k2
            case measure => omega
            case rel => exact ⟨j + 1, by first | rfl | (simp; done) | (simp; unfold wrap64; omega), ⟨by have := HK2.out; omega⟩, ⟨pw_below_drewN HB2.out _⟩⟩
end
end Go.Proofs.Ytdibaeomepallaa.NW
