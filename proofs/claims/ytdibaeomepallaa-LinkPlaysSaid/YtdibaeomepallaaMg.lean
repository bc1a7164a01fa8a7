/- LinkPlays' walk. By hand. -/
import Derived.Test.YtdibaeomepallaaMf
import Derived.Test.YtdibaeomepallaaMe
import Derived.Test.YtdibaeomepallaaKD
import Derived.Deep.CutBlock
namespace Go.Proofs.Ytdibaeomepallaa.LK
open Go.RowKit Go.Proofs.YtdibaeomepallaaW.PrintWords Go.Proofs.YtdibaeomepallaaW.PrintLast Go.Proofs.YtdibaeomepallaaW.PrintMore Go.Proofs.Ytdibaeomepallaa.PAll Go.Proofs.Ytdibaeomepallaa.NW
set_option linter.unusedVariables false
set_option linter.unusedSimpArgs false
set_option maxRecDepth 100000
attribute [local go_sem high] eqA65
/-! ### an end is what the document says: the walk -/
abbrev Good85 (l : List S85) : Prop := ∀ y ∈ l, ((Lit.int .i64 y.f0).wf = true) ∧ (y.f1.size ≤ maxLen) ∧ (((Lit.int .i64 y.f2.f0).wf = true) ∧ ((Lit.int .i64 y.f2.f1).wf = true) ∧ ((Lit.int .i64 y.f2.f2).wf = true) ∧ ((Lit.int .i64 y.f2.f3).wf = true) ∧ ((Lit.int .i64 y.f2.f4).wf = true) ∧ ((Lit.int .i64 y.f2.f5).wf = true) ∧ (y.f2.f6.size ≤ maxLen))
theorem cells85 {w W : World} {ad : Addr} {ls : List S85} {n : Nat} {y : S85} (hl : Kd.C k85 w (some ad) ls.length ls) (hb : Below w.heap.size w W) (hn : n < ls.length) (hy : rd_T85 ls (n : Int) = y) : W.cell? (ad.add (n * 9)) = some (.int .i64 y.f0) ∧ W.cell? ⟨(ad.add (n * 9)).block, (ad.add (n * 9)).off + 1, none⟩ = some (.string y.f1) ∧ W.cell? ⟨(ad.add (n * 9)).block, (ad.add (n * 9)).off + 2, none⟩ = some (.int .i64 y.f2.f0) ∧ W.cell? ⟨(ad.add (n * 9)).block, (ad.add (n * 9)).off + 3, none⟩ = some (.int .i64 y.f2.f1) ∧ W.cell? ⟨(ad.add (n * 9)).block, (ad.add (n * 9)).off + 4, none⟩ = some (.int .i64 y.f2.f2) ∧ W.cell? ⟨(ad.add (n * 9)).block, (ad.add (n * 9)).off + 5, none⟩ = some (.int .i64 y.f2.f3) ∧ W.cell? ⟨(ad.add (n * 9)).block, (ad.add (n * 9)).off + 6, none⟩ = some (.int .i64 y.f2.f4) ∧ W.cell? ⟨(ad.add (n * 9)).block, (ad.add (n * 9)).off + 7, none⟩ = some (.int .i64 y.f2.f5) ∧ W.cell? ⟨(ad.add (n * 9)).block, (ad.add (n * 9)).off + 8, none⟩ = some (.string y.f2.f6) := by
  obtain ⟨ad', hA, h⟩ := at_T85 (Kd.C_below hl hb) (n : Int) (by omega) (by omega)
  injection hA with hA
  subst hA
  rw [Int.toNat_natCast, hy] at h
  exact h
theorem packets13_n {w : World} {A : Option Addr} {c n : Nat} {xs : List Pk} (hx : k28.C w A xs.length xs) (hc : xs.length ≤ c) (hl : xs.length ≤ 1000) (hn : xs.length = n) :
    Calls Try.prog 47 #[.slice A n c] w fun e w' => ∃ o, e = .returned o ∧ k58.R 58 w' w.heap.size (fun _ => True) o (xs.map to58) ∧ Below w.heap.size w w' := by
  subst hn
  exact packets13_is hx hc hl
theorem tkP_len8 {l : Lk} {p : Pk} : (tkP l p).length ≤ 8 := by
  have h1 : (goP (tk2 l p)).length ≤ 8 := by unfold goP; rw [outs_len]; omega
  unfold tkP
  split
  · split
    · exact Nat.le_of_ble_eq_true rfl
    · exact h1
  · exact Nat.zero_le _
theorem tkT_few {l : Lk} {p : Pk} (h : One l) (h9 : l.er.length ≤ 999) : (tkT l p).length ≤ 1000000 := by
  unfold tkT
  split
  · unfold cameT cameR
    split
    · exact Nat.zero_le _
    · have h1 := hand_all ((put (ack l p.f5).er p.f4 p.f6).length + 1) (ack l p.f5).want (put (ack l p.f5).er p.f4 p.f6)
      have h2 := put_length (ack l p.f5).er p.f4 p.f6
      have h3 : (ack l p.f5).er = l.er := rfl
      rw [h3] at h1 h2
      rw [h3]
      omega
  · exact Nat.zero_le _
theorem RW_C {α : Type} {d : Kd α} {W : World} {ok : Nat → Prop} {A : Option Addr} {n c : Nat} {xs : List α} (h : RW d W ok (.slice A n c) xs) : xs.length ≤ c ∧ d.C W A xs.length xs := by
  obtain ⟨A', c', e, hc, hF⟩ := h
  injection e with e1 e2 e3
  subst e1 e3
  exact ⟨hc, Kd.F_now hF⟩
theorem RW_Ce {W : World} {ok : Nat → Prop} {A : Option Addr} {n c : Nat} {er : List (Int × ByteArray)} (h : RW k142 W ok (.slice A n c) (erS er)) : k142.C W A er.length (erS er) := by
  have h2 := (RW_C h).2
  rw [erS_len] at h2
  exact h2
theorem info65r : (Try.prog.info? 65).map (·.size) = some 5 := by kernel_rfl
set_option maxHeartbeats 64000000 in
theorem linkPlays_is (x : S65) (A : Option Addr) (c : Nat) (ls : List S85) (W : World) (gx : ((Lit.int .i64 x.f0).wf = true) ∧ ((Lit.int .i64 x.f1).wf = true) ∧ ((Lit.int .i64 x.f2).wf = true) ∧ ((Lit.int .i64 x.f3).wf = true) ∧ ((Lit.int .i64 x.f4).wf = true)) (hC : Kd.C k85 W A ls.length ls) (hc : ls.length ≤ c) (g : Good85 ls) (hm : ls.length ≤ maxLen) :
    Calls Try.prog 9 #[.agg #[.int .i64 x.f0, .int .i64 x.f1, .int .i64 x.f2, .int .i64 x.f3, .int .i64 x.f4], .slice A ls.length c] W fun e w' => e = .returned (.bool true) ∧ Below W.heap.size W w' := by
  have hu65 := Try.underlying65
  have hu28 := Try.underlying28
  have hu81 := Try.underlying81
  have hu85 := Try.underlying85
  have hu87 := Try.underlying87
  have HC := Aside0.mk hC
  have HG := Aside0.mk g
  have HM := Aside0.mk (may_f x)
  clear hC g gx
  cases hmay : mayL x with
  | false =>
    have HMY := Aside0.mk hmay
    rw [hmay] at HM
    clear hmay
    go_enter Try.func9, Try.ntmps9
    go_wp2_with (first
      | ((with_reducible refine gate_dst (N := 2) rfl ?_); refine box_event ?hg (N := 2) ?hd (cs := #[.int .i64 x.f0, .int .i64 x.f1, .int .i64 x.f2, .int .i64 x.f3, .int .i64 x.f4]) (t := 65) ?hr ?_; (case hd => rfl); (case hg => rfl); (case hr => first | (go_simp; done) | (go_simp; rfl)); intro g2 hg2 v2 kg2 bg2; have Gg2 := Aside0.mk hg2; clear hg2; have H2 := Aside0.mk kg2; have HB2 := Aside0.mk bg2; clear kg2 bg2)
      | ((with_reducible refine gate_dst (N := 15) rfl ?_); refine wpList_load_row rfl 65 (.tmp 2) rfl g2 rfl 65 _ (0, 0) _ H2.out Try.underlying65 rfl info65r ?_)
      | ((with_reducible refine gate_dst (N := 16) rfl ?_); refine goesL_ (some 16) rfl rfl Try.func35 (by kernel_rfl) rfl #[.agg #[.int .i64 x.f0, .int .i64 x.f1, .int .i64 x.f2, .int .i64 x.f3, .int .i64 x.f4]] rfl (by first | (simp only [List.map_toArray, List.map_cons, List.map_nil]; rfl) | rfl) ?_; refine (new_no _ x HMY.out).mono ?_; rintro e w3 ⟨rfl, hb⟩; have H3 := Aside0.mk (keepB H2.out hb); have HB3 := Aside0.mk (HB2.out.trans (hb.mono HB2.out.size)); clear hb; refine ⟨_, rfl, ?_⟩)
      | ((with_reducible refine gate_dst (N := 17) rfl ?_); refine wpList_load_row rfl 65 (.tmp 2) rfl g2 rfl 65 _ (0, 0) _ H3.out Try.underlying65 rfl info65r ?_)
      | ((with_reducible refine gate_dst (N := 18) rfl ?_); refine goesL_ (some 18) rfl rfl Try.func42 (by kernel_rfl) rfl #[.agg #[.int .i64 x.f0, .int .i64 x.f1, .int .i64 x.f2, .int .i64 x.f3, .int .i64 x.f4]] rfl (by first | (simp only [List.map_toArray, List.map_cons, List.map_nil]; rfl) | rfl) ?_; refine (caduceusref13_May.calls x.f0 x.f1 x.f2 x.f3 x.f4 false _ HM.out).mono ?_; rintro e w4 ⟨rfl, hb⟩; have HB4 := Aside0.mk (HB3.out.trans (hb.mono HB3.out.size)); clear hb; refine ⟨_, rfl, ?_⟩)
      | ((with_reducible refine gate_dst (N := 20) rfl ?_); refine goesL_ (some 20) rfl rfl Try.func37 (by kernel_rfl) rfl #[] rfl (by simp) ?_; refine (awakeL_is _).mono ?_; rintro e w5 ⟨rfl, hb⟩; have HB5 := Aside0.mk (HB4.out.trans (hb.mono HB4.out.size)); clear hb; refine ⟨_, rfl, ?_⟩))
    go_ret
    exact ⟨rfl, HB5.out⟩
  | true =>
    have HMY := Aside0.mk hmay
    rw [hmay] at HM
    clear hmay
    go_enter Try.func9, Try.ntmps9
    go_wp2_with (first
      | ((with_reducible refine gate_dst (N := 2) rfl ?_); refine box_event ?hg (N := 2) ?hd (cs := #[.int .i64 x.f0, .int .i64 x.f1, .int .i64 x.f2, .int .i64 x.f3, .int .i64 x.f4]) (t := 65) ?hr ?_; (case hd => rfl); (case hg => rfl); (case hr => first | (go_simp; done) | (go_simp; rfl)); intro g2 hg2 v2 kg2 bg2; have Gg2 := Aside0.mk hg2; clear hg2; have H2 := Aside0.mk kg2; have HB2 := Aside0.mk bg2; clear kg2 bg2)
      | ((with_reducible refine gate_dst (N := 15) rfl ?_); refine wpList_load_row rfl 65 (.tmp 2) rfl g2 rfl 65 _ (0, 0) _ H2.out Try.underlying65 rfl info65r ?_)
      | ((with_reducible refine gate_dst (N := 16) rfl ?_); refine goesL_ (some 16) rfl rfl Try.func35 (by kernel_rfl) rfl #[.agg #[.int .i64 x.f0, .int .i64 x.f1, .int .i64 x.f2, .int .i64 x.f3, .int .i64 x.f4]] rfl (by first | (simp only [List.map_toArray, List.map_cons, List.map_nil]; rfl) | rfl) ?_; refine (new_yes _ x HMY.out).mono ?_; rintro e w3 ⟨g, m, rfl, hlk, hgl, hml, hb⟩; have H3 := Aside0.mk (keepB H2.out hb); have HB3 := Aside0.mk (HB2.out.trans (hb.mono HB2.out.size)); have HL3 := Aside0.mk hlk; have HG3 := Aside0.mk (show W.heap.size ≤ g ∧ W.heap.size ≤ m from ⟨Nat.le_trans HB2.out.size hgl, Nat.le_trans HB2.out.size hml⟩); clear hb hlk hgl hml; refine ⟨_, rfl, ?_⟩)
      | ((with_reducible refine gate_dst (N := 17) rfl ?_); refine wpList_load_row rfl 65 (.tmp 2) rfl g2 rfl 65 _ (0, 0) _ H3.out Try.underlying65 rfl info65r ?_)
      | ((with_reducible refine gate_dst (N := 18) rfl ?_); refine goesL_ (some 18) rfl rfl Try.func42 (by kernel_rfl) rfl #[.agg #[.int .i64 x.f0, .int .i64 x.f1, .int .i64 x.f2, .int .i64 x.f3, .int .i64 x.f4]] rfl (by first | (simp only [List.map_toArray, List.map_cons, List.map_nil]; rfl) | rfl) ?_; refine (caduceusref13_May.calls x.f0 x.f1 x.f2 x.f3 x.f4 true _ HM.out).mono ?_; rintro e w4 ⟨rfl, hb⟩; have H4 := Aside0.mk (keepB H3.out hb); have HB4 := Aside0.mk (HB3.out.trans (hb.mono HB3.out.size)); have HL4 := Aside0.mk (HL3.out.below hb); clear hb; refine ⟨_, rfl, ?_⟩)
      | ((with_reducible refine gate_dst (N := 25) rfl ?_); refine wpList_load_row rfl 65 (.tmp 2) rfl g2 rfl 65 _ (0, 0) _ H4.out Try.underlying65 rfl info65r ?_)
      | ((with_reducible refine gate_dst (N := 26) rfl ?_); refine goesL_ (some 26) rfl rfl Try.func43 (by kernel_rfl) rfl #[.agg #[.int .i64 x.f0, .int .i64 x.f1, .int .i64 x.f2, .int .i64 x.f3, .int .i64 x.f4]] rfl (by first | (simp only [List.map_toArray, List.map_cons, List.map_nil]; rfl) | rfl) ?_; refine (caduceusref13_New.calls x.f0 x.f1 x.f2 x.f3 x.f4 _ _ _ _ _ _ _ _ _ _ _ (new13_f x)).mono ?_; rintro e w5 ⟨vq, ve, rfl, hq, he, hb⟩; obtain ⟨Aq, cq, rfl, hcq, hq⟩ := R_named hq (n := 0) rfl; obtain ⟨Ae, ce, rfl, hce, he⟩ := R_named he (n := 0) rfl; have H5 := Aside0.mk (keepB H4.out hb); have HB5 := Aside0.mk (HB4.out.trans (hb.mono HB4.out.size)); have HL5 := Aside0.mk (HL4.out.below hb); have HQ5 := Aside0.mk (RW.of_R hq); have HE5 := Aside0.mk (RW.of_R he); have HS5 := Aside0.mk (show g < w4.heap.size ∧ m < w4.heap.size from ⟨HL4.out.lt, HL4.out.er.lt⟩); have HSZ := Aside0.mk hb.size; clear hb hq he; refine ⟨_, rfl, ?_⟩)
      | ((with_reducible refine gate_dst (N := 6) rfl ?_); refine box_event ?hg (N := 6) ?hd (cs := #[.int .i64 0, .int .i64 0, .int .i64 0, .int .i64 0, .int .i64 0, .slice none 0 0, .int .i64 0, .int .i64 0, .int .i64 0, .slice none 0 0]) (t := 81) ?hr ?_; (case hd => rfl); (case hg => rfl); (case hr => first | (go_simp; done) | (go_simp; rfl)); intro gd hgd v6 kgd bgd; have Ggd := Aside0.mk hgd; clear hgd; have H6 := Aside0.mk kgd; have HB6 := Aside0.mk (HB5.out.trans (bgd.mono HB5.out.size)); have HL6 := Aside0.mk (HL5.out.below bgd); have HQ6 := Aside0.mk (HQ5.out.bound.below bgd); have HE6 := Aside0.mk (HE5.out.bound.below bgd); have H62 := Aside0.mk (keepB H5.out bgd); clear kgd bgd)
      | (((with_reducible refine gate_store (t := 81) (p := 6) rfl ?_); refine wpList_store_row rfl 81 (.tmp 6) (.tmp 26) rfl gd #[.int .i64 (newL x).x.f0, .int .i64 (newL x).x.f1, .int .i64 (newL x).x.f2, .int .i64 (newL x).x.f3, .int .i64 (newL x).x.f4, .slice Aq 0 cq, .int .i64 (newL x).base, .int .i64 (newL x).out, .int .i64 (newL x).want, .slice Ae 0 ce] rfl rfl 81 _ H6.out info81s rfl (by rw [List.all_toArray]; rfl) ?_)))
    simp only [Act.put, List.setIfInBounds_toArray, List.set_cons_zero, List.set_cons_succ]
    have HP6 := Aside0.mk (show PR W (v6.setRow gd #[.int .i64 (newL x).x.f0, .int .i64 (newL x).x.f1, .int .i64 (newL x).x.f2, .int .i64 (newL x).x.f3, .int .i64 (newL x).x.f4, .slice Aq 0 cq, .int .i64 (newL x).base, .int .i64 (newL x).out, .int .i64 (newL x).want, .slice Ae 0 ce]) gd g m 0 (newL x) (.slice none 0 0) (.slice Aq 0 cq) (.slice Ae 0 ce) from by
      have hg := HS5.out
      have hz := HSZ.out
      have hgd := Ggd.out
      have hlow := HG3.out
      have hnl : ∀ k, lf g (.slice none 0 0) m k → k < w4.heap.size ∧ W.heap.size ≤ k := fun k hk => by
        rcases hk with e | e | e
        · exact ⟨by omega, by omega⟩
        · exact ⟨by omega, by omega⟩
        · cases e
      have key : ∀ k, (w4.heap.size ≤ k ∧ k < w5.heap.size) → W.heap.size ≤ k ∧ ¬ lf g (.slice none 0 0) m k ∧ k ≠ gd := fun k hk => ⟨Nat.le_trans HB4.out.size hk.1, fun e => by have := (hnl k e).1; omega, by omega⟩
      refine ⟨⟨setRow_heap _ _ _ _ _ _ H6.out, HL6.out.stay (fun k hk => setRow_other _ _ _ _ (by have := (hnl k hk).1; omega)), ?_, ?_, fun e => by have := (hnl gd e).1; omega, fun k hk => (hnl k hk).2, Nat.le_trans HB5.out.size (by omega), below_setRow HB6.out (Nat.le_trans HB5.out.size (by omega)) _⟩, one_new x HMY.out, Nat.le_refl _⟩
      · exact (HQ6.out.step (fun k hk _ => setRow_other _ _ _ _ (by have := hk.2; omega))).mono key
      · exact (HE6.out.step (fun k hk _ => setRow_other _ _ _ _ (by have := hk.2; omega))).mono key)
    have H26 := Aside0.mk ((setRow_other v6 gd g2 #[.int .i64 (newL x).x.f0, .int .i64 (newL x).x.f1, .int .i64 (newL x).x.f2, .int .i64 (newL x).x.f3, .int .i64 (newL x).x.f4, .slice Aq 0 cq, .int .i64 (newL x).base, .int .i64 (newL x).out, .int .i64 (newL x).want, .slice Ae 0 ce] (by have := blk_lt H5.out; have := Ggd.out; omega)).trans H62.out)
    clear H2 H3 H4 H5 H6 H62 HB2 HB3 HB4 HB5 HB6 HL3 HL4 HL6 HQ5 HQ6 HE5 HE6 HS5 HSZ HG3 Gg2 Ggd
    generalize hw6 : v6.setRow gd #[.int .i64 (newL x).x.f0, .int .i64 (newL x).x.f1, .int .i64 (newL x).x.f2, .int .i64 (newL x).x.f3, .int .i64 (newL x).x.f4, .slice Aq 0 cq, .int .i64 (newL x).base, .int .i64 (newL x).out, .int .i64 (newL x).want, .slice Ae 0 ce] = w6 at *
    clear hw6
    have HPd := Aside0.mk (HP6.out.pl.bel (below_drew1 (Below.refl _ _)))
    have H2d := Aside0.mk (blk_drew H26.out)
    refine start_ (n := 12) (S := fun w' => Below w6.drew.heap.size w6.drew w' ∧ True) (ds := []) #[false, false, false, false, false, false, false, false, false, false, false, false] (by kernel_rfl) rfl rfl ⟨Below.refl _ _, trivial⟩ (fun hHeld => ?_)
    
    generalize hwd : w6.drew = wd at *
    clear hwd
    refine one_ (i := 0) (N := some 27) #[true, false, false, false, false, false, false, false, false, false, false, false] rfl rfl (by kernel_rfl) (by decide) (fun K hK => ?_)
    refine goes_ Try.func37 (by kernel_rfl) rfl #[] (by rfl) rfl rfl (by simp) ?_
    refine (awakeL_is wd).mono ?_
    rintro e W7 ⟨rfl, hb7⟩; have HB7 := Aside0.mk hb7; clear hb7
    refine ⟨_, rfl, hK.out _ _ ⟨HB7.out, trivial⟩ (fun hHeld => ?_)⟩
    clear hK K
    refine norm_ (a' := ?_) ?_ ?_
    rotate_left
    · show Act.put _ (some 27) _ = _
      simp only [Act.put, List.setIfInBounds_toArray, List.set_cons_zero, List.set_cons_succ, i64_w, i32_w]
      rfl
    refine pure_ (i := 1) (N := some 28) (v := ?_) (a' := ?_) #[true, true, false, false, false, false, false, false, false, false, false, false] rfl rfl (by kernel_rfl) (fun _ _ _ h => h) (Or.inl ⟨by rfl, ?_⟩) ?_ ?_
    rotate_left
    · intro w'; go_simp; with_reducible rfl
    rotate_left
    · simp only [Act.put, List.setIfInBounds_toArray, List.set_cons_zero, List.set_cons_succ, i64_w, i32_w]; rfl
    refine pure_ (i := 2) (N := some 29) (v := ?_) (a' := ?_) #[true, true, true, false, false, false, false, false, false, false, false, false] rfl rfl (by kernel_rfl) (fun _ _ _ h => h) (Or.inl ⟨by rfl, ?_⟩) ?_ ?_
    rotate_left
    · intro w'; go_simp; with_reducible rfl
    rotate_left
    · simp only [Act.put, List.setIfInBounds_toArray, List.set_cons_zero, List.set_cons_succ, i64_w, i32_w]; rfl
    refine pure_ (i := 3) (N := some 30) (v := ?_) (a' := ?_) #[true, true, true, true, false, false, false, false, false, false, false, false] rfl rfl (by kernel_rfl) (fun _ _ _ h => h) (Or.inl ⟨by rfl, ?_⟩) ?_ ?_
    rotate_left
    · intro w'; go_simp; with_reducible rfl
    rotate_left
    · simp only [Act.put, List.setIfInBounds_toArray, List.set_cons_zero, List.set_cons_succ, i64_w, i32_w]; rfl
    refine pure_ (i := 4) (N := some 31) (v := ?_) (a' := ?_) #[true, true, true, true, true, false, false, false, false, false, false, false] rfl rfl (by kernel_rfl) (fun _ _ _ h => h) (Or.inl ⟨by rfl, ?_⟩) ?_ ?_
    rotate_left
    · intro w'; go_simp; with_reducible rfl
    rotate_left
    · simp only [Act.put, List.setIfInBounds_toArray, List.set_cons_zero, List.set_cons_succ, i64_w, i32_w]; rfl
    refine pure_ (i := 5) (N := some 32) (v := ?_) (a' := ?_) #[true, true, true, true, true, true, false, false, false, false, false, false] rfl rfl (by kernel_rfl) (fun _ _ _ h => h) (Or.inl ⟨by rfl, ?_⟩) ?_ ?_
    rotate_left
    · intro w'; go_simp; with_reducible rfl
    rotate_left
    · simp only [Act.put, List.setIfInBounds_toArray, List.set_cons_zero, List.set_cons_succ, i64_w, i32_w]; rfl
    refine pure_ (i := 6) (N := some 33) (v := ?_) (a' := ?_) #[true, true, true, true, true, true, true, false, false, false, false, false] rfl rfl (by kernel_rfl) (fun _ _ _ h => h) (Or.inl ⟨by rfl, ?_⟩) ?_ ?_
    rotate_left
    · intro w'; go_simp; with_reducible rfl
    rotate_left
    · simp only [Act.put, List.setIfInBounds_toArray, List.set_cons_zero, List.set_cons_succ, i64_w, i32_w]; rfl
    refine pure_ (i := 7) (N := some 34) (v := ?_) (a' := ?_) #[true, true, true, true, true, true, true, true, false, false, false, false] rfl rfl (by kernel_rfl) (fun _ _ _ h => h) (Or.inl ⟨by rfl, ?_⟩) ?_ ?_
    rotate_left
    · intro w'; go_simp; with_reducible rfl
    rotate_left
    · simp only [Act.put, List.setIfInBounds_toArray, List.set_cons_zero, List.set_cons_succ, i64_w, i32_w]; rfl
    refine take_ (i := 9) (N := some 36) (v := ?_) (a' := ?_) #[true, true, true, true, true, true, true, true, false, true, false, false] rfl rfl (by kernel_rfl) (fun _ _ _ h => h) (Or.inl ⟨by rfl, ?_⟩) hHeld ?_ ?_
    rotate_left
    · rintro w' ⟨s0, _⟩
      have y0 := (blk_cell (keepB H2d.out s0) 0).trans (show _ = some (.int .i64 x.f0) from rfl)
      have y1 := (blk_cell (keepB H2d.out s0) 1).trans (show _ = some (.int .i64 x.f1) from rfl)
      have y2 := (blk_cell (keepB H2d.out s0) 2).trans (show _ = some (.int .i64 x.f2) from rfl)
      have y3 := (blk_cell (keepB H2d.out s0) 3).trans (show _ = some (.int .i64 x.f3) from rfl)
      have y4 := (blk_cell (keepB H2d.out s0) 4).trans (show _ = some (.int .i64 x.f4) from rfl)
      go_simp; with_reducible rfl
    rotate_left
    · simp only [Act.put, List.setIfInBounds_toArray, List.set_cons_zero, List.set_cons_succ, i64_w, i32_w]; rfl
    refine one_ (i := 8) (N := some 35) #[true, true, true, true, true, true, true, true, true, true, false, false] rfl rfl (by kernel_rfl) (by decide) (fun K hK => ?_)
    refine goes_ Try.func44 (by kernel_rfl) rfl #[ptr g] (by rfl) rfl rfl (by first | rfl | (simp only [List.map_toArray, List.map_cons, List.map_nil]; rfl)) ?_
    refine ((show Calls Try.prog 44 #[ptr g] W7 fun e w' => e = .returned (.agg #[.int .i64 x.f0, .int .i64 x.f1, .int .i64 x.f2, .int .i64 x.f3, .int .i64 x.f4]) ∧ Below W7.heap.size W7 w' from ends_is (HPd.out.lk.below HB7.out))).mono ?_
    rintro e W8 ⟨rfl, hb8⟩; have HB8 := Aside0.mk (HB7.out.trans (hb8.mono HB7.out.size)); clear hb8
    refine ⟨_, rfl, hK.out _ _ ⟨HB8.out, trivial⟩ (fun hHeld => ?_)⟩
    clear hK K
    refine norm_ (a' := ?_) ?_ ?_
    rotate_left
    · show Act.put _ (some 35) _ = _
      simp only [Act.put, List.setIfInBounds_toArray, List.set_cons_zero, List.set_cons_succ, i64_w, i32_w]
      rfl
    refine pure_ (i := 10) (N := some 37) (v := ?_) (a' := ?_) #[true, true, true, true, true, true, true, true, true, true, true, false] rfl rfl (by kernel_rfl) (fun _ _ _ h => h) (Or.inl ⟨by rfl, ?_⟩) ?_ ?_
    rotate_left
    · intro w'; go_simp; with_reducible rfl
    rotate_left
    · simp only [Act.put, List.setIfInBounds_toArray, List.set_cons_zero, List.set_cons_succ, i64_w, i32_w]; rfl
    refine pure_ (i := 11) (N := some 38) (v := ?_) (a' := ?_) #[true, true, true, true, true, true, true, true, true, true, true, true] rfl rfl (by kernel_rfl) (fun _ _ _ h => h) (Or.inl ⟨by rfl, ?_⟩) ?_ ?_
    rotate_left
    · intro w'; go_simp; with_reducible rfl
    rotate_left
    · simp only [Act.put, List.setIfInBounds_toArray, List.set_cons_zero, List.set_cons_succ, i64_w, i32_w]; rfl
    refine done_ (by kernel_rfl) ?_
    go_wp2
    have HR0 := Aside0.mk (show PR W W8 gd g m 0 (newL x) (.slice none 0 0) (.slice Aq 0 cq) (.slice Ae 0 ce) from ⟨HPd.out.bel HB8.out, HP6.out.one, HP6.out.few⟩)
    clear HP6 HPd H26 H2d HB7 HB8
    go_loopg [7] (min ls.length 50) (fun kq v7 w' => ∃ (n : Nat) (l : Lk) (v vq ve : Value), v7 = .int .i64 n ∧ Aside0 (n + kq = min ls.length 50) ∧ Aside0 (PR W w' gd g m n l v vq ve))
    case atStart => exact ⟨0, _, _, _, _, rfl, ⟨by omega⟩, HR0⟩
    case round =>
      clear HR0
      obtain ⟨n, l, v, vq, ve, rfl, HN, HR⟩ := hrel
      cases gk with
      | zero =>
        by_cases h1 : n = ls.length
        · have d1 : decide ((n : Int) < (ls.length : Int)) = false := decide_eq_false (by omega)
          have g1 : ls.length ≤ n := by omega
          have g2' : n ≤ ls.length := by omega
          clear h1
          go_wp2
          go_ret
          exact ⟨rfl, HR.out.pl.below⟩
        · have hn := HN.out
          have d1 : decide ((n : Int) < (ls.length : Int)) = true := decide_eq_true (by omega)
          have d2 : decide ((n : Int) < 50) = false := decide_eq_false (by omega)
          have g1 : n < ls.length := by omega
          have g2' : 50 ≤ n := by omega
          clear hn
          go_wp2
          go_ret
          exact ⟨rfl, HR.out.pl.below⟩
      | succ k1 =>
        have hn : n < ls.length := by have := HN.out; omega
        have hn2 : n < 50 := by have := HN.out; omega
        have d1 : decide ((n : Int) < (ls.length : Int)) = true := decide_eq_true (by omega)
        have d2 : decide ((n : Int) < 50) = true := decide_eq_true (by omega)
        have i0 : (0 : Int) ≤ (n : Int) := by omega
        have i1 : (n : Int) < (ls.length : Int) := by omega
        have HLT := Aside0.mk hn
        have HN50 := Aside0.mk hn2
        obtain ⟨y, hy⟩ : ∃ y, rd_T85 ls (n : Int) = y := ⟨_, rfl⟩
        have HY := Aside0.mk hy
        clear hy
        obtain ⟨ad, hA, _⟩ := at_T85 HC.out (n : Int) i0 i1
        subst hA
        obtain ⟨Aq, cq, rfl, hcq, hFq⟩ := HR.out.pl.q
        obtain ⟨Ae, ce, rfl, hce, hFe⟩ := HR.out.pl.e
        rw [erS_len] at hce hFe HR
        obtain ⟨e0, e1, e2, e3, e4, e5, e6, e7, e8⟩ := cells85 HC.out HR.out.pl.below hn HY.out
        have HFq := Aside0.mk hFq
        have HFe := Aside0.mk hFe
        clear hFq hFe
        by_cases s1 : 300 < y.f1.size
        · have t1 : decide ((300 : Int) < (y.f1.size : Int)) = true := decide_eq_true (by omega)
          go_wp2
          go_roundg k1
          case measure => omega
          case rel => exact ⟨n + 1, l, v, _, _, by first | rfl | (simp; done) | (simp; unfold wrap64; omega), ⟨by have := HN.out; omega⟩, ⟨⟨HR.out.pl, HR.out.one, by have := HR.out.few; omega⟩⟩⟩
        · have t1 : decide ((300 : Int) < (y.f1.size : Int)) = false := decide_eq_false (by omega)
          by_cases s2 : 300 < y.f2.f6.size
          · have t2 : decide ((300 : Int) < (y.f2.f6.size : Int)) = true := decide_eq_true (by omega)
            clear s1
            go_wp2
            go_roundg k1
            case measure => omega
            case rel => exact ⟨n + 1, l, v, _, _, by first | rfl | (simp; done) | (simp; unfold wrap64; omega), ⟨by have := HN.out; omega⟩, ⟨⟨HR.out.pl, HR.out.one, by have := HR.out.few; omega⟩⟩⟩
          · have t2 : decide ((300 : Int) < (y.f2.f6.size : Int)) = false := decide_eq_false (by omega)
            go_upto_block 2 with fail
            clear t1 t2 d1 d2 s2
            go_cut [] from 39 to 181 (fun wx => ∃ (l' : Lk) (v' vq' ve' : Value), Aside0 (PR W wx gd g m (n + 1) l' v' vq' ve'))
            case first =>
              by_cases k0 : y.f0 = 0
              · have f0 : (y.f0 == 0) = true := by rw [k0]; rfl
                clear k0
                obtain ⟨s, hs⟩ : ∃ s, y.f1 = s := ⟨_, rfl⟩
                have HS := Aside0.mk (show s.size ≤ 4611686018427387904 by rw [← hs]; omega)
                rw [hs] at e1
                have HSY := Aside0.mk hs
                clear hs
                obtain ⟨np, hnp⟩ : ∃ np, (sdP l s).length = np := ⟨_, rfl⟩
                have HNP := Aside0.mk hnp
                have HNO := Aside0.mk (show ((sdP l s).map to58).length = np by rw [List.length_map]; exact hnp)
                have HN8 := Aside0.mk (show np ≤ 8 by rw [← hnp]; exact sdP_len l s)
                clear hnp
                go_wp2_with (first
                  | ((with_reducible refine gate_dst (N := 80) rfl ?_); refine goesL_ (some 80) rfl rfl Try.func38 (by kernel_rfl) rfl #[ptr g, .string s] rfl (by first | (simp only [List.map_toArray, List.map_cons, List.map_nil]; rfl) | rfl) ?_; refine (LK.send_is HR.out.pl.lk HR.out.one.bd s HS.out).mono ?_; rintro e W1 ⟨op, v', rfl, hop, st⟩; obtain ⟨Ap, cp, rfl, hcp, hop⟩ := R_named hop HNP.out; have HP1 := Aside0.mk (HR.out.pl.act st); have HOP := Aside0.mk (Kd.R_drew hop); clear hop st e0 e1 e2 e3 e4 e5 e6 e7 e8; refine ⟨_, rfl, ?_⟩))
                have HPd := Aside0.mk (HP1.out.bel (below_drew1 (Below.refl _ _)))
                have hel := (cells85 HC.out HPd.out.below HLT.out HY.out).2.1
                rw [HSY.out] at hel
                refine start_ (n := 9) (S := fun w' => Below W1.drew.heap.size W1.drew w' ∧ w'.cell? ⟨(ad.add (n * 9)).block, (ad.add (n * 9)).off + 1, none⟩ = some (.string s)) (ds := [8]) #[false, false, false, false, false, false, false, false, false] (by kernel_rfl) rfl rfl ⟨Below.refl _ _, hel⟩ (fun hHeld => ?_)
                
                refine take_ (i := 0) (N := some 83) (v := ?_) (a' := ?_) #[true, false, false, false, false, false, false, false, false] rfl rfl (by kernel_rfl) (fun _ _ _ h => h) (Or.inl ⟨by rfl, ?_⟩) hHeld ?_ ?_
                rotate_left
                · rintro w' ⟨s0, s1⟩
                  have y0 := (blk_cell (keepB HPd.out.bd s0) 0).trans (show _ = some (.int .i64 l.x.f0) from rfl)
                  have y1 := (blk_cell (keepB HPd.out.bd s0) 1).trans (show _ = some (.int .i64 l.x.f1) from rfl)
                  have y2 := (blk_cell (keepB HPd.out.bd s0) 2).trans (show _ = some (.int .i64 l.x.f2) from rfl)
                  have y3 := (blk_cell (keepB HPd.out.bd s0) 3).trans (show _ = some (.int .i64 l.x.f3) from rfl)
                  have y4 := (blk_cell (keepB HPd.out.bd s0) 4).trans (show _ = some (.int .i64 l.x.f4) from rfl)
                  have y5 := (blk_cell (keepB HPd.out.bd s0) 5).trans (show _ = some (.slice Aq l.q.length cq) from rfl)
                  have y6 := (blk_cell (keepB HPd.out.bd s0) 6).trans (show _ = some (.int .i64 l.base) from rfl)
                  have y7 := (blk_cell (keepB HPd.out.bd s0) 7).trans (show _ = some (.int .i64 l.out) from rfl)
                  have y8 := (blk_cell (keepB HPd.out.bd s0) 8).trans (show _ = some (.int .i64 l.want) from rfl)
                  have y9 := (blk_cell (keepB HPd.out.bd s0) 9).trans (show _ = some (.slice Ae l.er.length ce) from rfl)
                  go_simp; with_reducible rfl
                rotate_left
                · simp only [Act.put, List.setIfInBounds_toArray, List.set_cons_zero, List.set_cons_succ, i64_w, i32_w]; rfl
                refine pure_ (i := 1) (N := some 84) (v := ?_) (a' := ?_) #[true, true, false, false, false, false, false, false, false] rfl rfl (by kernel_rfl) (fun _ _ _ h => h) (Or.inl ⟨by rfl, ?_⟩) ?_ ?_
                rotate_left
                · intro w'; go_simp; with_reducible rfl
                rotate_left
                · simp only [Act.put, List.setIfInBounds_toArray, List.set_cons_zero, List.set_cons_succ, i64_w, i32_w]; rfl
                refine pure_ (i := 2) (N := some 85) (v := ?_) (a' := ?_) #[true, true, true, false, false, false, false, false, false] rfl rfl (by kernel_rfl) (fun _ _ _ h => h) (Or.inl ⟨by rfl, ?_⟩) ?_ ?_
                rotate_left
                · intro w'; go_simp; with_reducible rfl
                rotate_left
                · simp only [Act.put, List.setIfInBounds_toArray, List.set_cons_zero, List.set_cons_succ, i64_w, i32_w]; rfl
                refine pure_ (i := 3) (N := some 86) (v := ?_) (a' := ?_) #[true, true, true, true, false, false, false, false, false] rfl rfl (by kernel_rfl) (fun _ _ _ h => h) (Or.inl ⟨by rfl, ?_⟩) ?_ ?_
                rotate_left
                · intro w'; go_simp; with_reducible rfl
                rotate_left
                · simp only [Act.put, List.setIfInBounds_toArray, List.set_cons_zero, List.set_cons_succ, i64_w, i32_w]; rfl
                refine pure_ (i := 4) (N := some 87) (v := ?_) (a' := ?_) #[true, true, true, true, true, false, false, false, false] rfl rfl (by kernel_rfl) (fun _ _ _ h => h) (Or.inl ⟨by rfl, ?_⟩) ?_ ?_
                rotate_left
                · intro w'; go_simp; with_reducible rfl
                rotate_left
                · simp only [Act.put, List.setIfInBounds_toArray, List.set_cons_zero, List.set_cons_succ, i64_w, i32_w]; rfl
                refine take_ (i := 5) (N := some 88) (v := ?_) (a' := ?_) #[true, true, true, true, true, true, false, false, false] rfl rfl (by kernel_rfl) (fun _ _ _ h => h) (Or.inl ⟨by rfl, ?_⟩) hHeld ?_ ?_
                rotate_left
                · rintro w' ⟨s0, s1⟩; go_simp; with_reducible rfl
                rotate_left
                · simp only [Act.put, List.setIfInBounds_toArray, List.set_cons_zero, List.set_cons_succ, i64_w, i32_w]; rfl
                clear hel
                generalize hwd : W1.drew = wd at *
                clear hwd
                refine join_ (σ := Nat × Value × Value) 1 #[true, true, true, true, true, true, true, true, false] (fun z => [(89, .agg #[.int .i64 (sdL l s).x.f0, .int .i64 (sdL l s).x.f1, .int .i64 (sdL l s).x.f2, .int .i64 (sdL l s).x.f3, .int .i64 (sdL l s).x.f4, z.2.1, .int .i64 (sdL l s).base, .int .i64 (sdL l s).out, .int .i64 (sdL l s).want, .slice Ae l.er.length ce, .slice none 0 0, z.2.2, .int .i64 (sdE l s)]), (10, ptr z.1)]) (fun z w' => J1 wd (fun k => W.heap.size ≤ k ∧ ¬ lf g v' m k ∧ k ≠ gd) (sdL l s) [] ((sdP l s).map to58) z.1 z.2.1 (.slice Ae l.er.length ce) (.slice none 0 0) z.2.2 w') ?_ ?_
                rotate_left
                · intro hcont
                  have HCO := Aside0.mk hcont
                  clear hcont
                  refine two_ (i := 6) (j := 7) (Ni := some 89) (Nj := some 10) #[true, true, true, true, true, true, true, false, false] #[true, true, true, true, true, true, false, true, false] rfl rfl rfl rfl (by kernel_rfl) (by decide) (by decide) (fun K hK => ?_) (fun K hK => ?_)
                  · skip
                    skip
                    refine goes_ Try.func45 (by kernel_rfl) rfl #[.agg #[.int .i64 l.x.f0, .int .i64 l.x.f1, .int .i64 l.x.f2, .int .i64 l.x.f3, .int .i64 l.x.f4, .slice Aq l.q.length cq, .int .i64 l.base, .int .i64 l.out, .int .i64 l.want, .slice Ae l.er.length ce], .string s] (by rfl) rfl rfl (by first | rfl | (simp only [List.map_toArray, List.map_cons, List.map_nil]; rfl)) ?_
                    refine (send13_is HR.out.one.bd HPd.out.q (RW_Ce HPd.out.e) hce s HS.out).mono ?_
                    rintro e W2 ⟨vq2, o2, rfl, hq2, ho2, hb2⟩
                    have hB2 := HPd.out.below.trans (hb2.mono HPd.out.below.size)
                    refine ⟨_, rfl, hK.out _ _ ⟨hb2, (by have h := (cells85 HC.out hB2 HLT.out HY.out).2.1; rw [HSY.out] at h; exact h)⟩ (fun hHeld => ?_)⟩
                    clear hK K
                    refine norm_ (a' := ?_) ?_ ?_
                    rotate_left
                    · show Act.put _ (some 89) _ = _
                      simp only [Act.put, List.setIfInBounds_toArray, List.set_cons_zero, List.set_cons_succ, i64_w, i32_w]
                      rfl
                    refine one_ (i := 7) (N := some 10) #[true, true, true, true, true, true, true, true, false] rfl rfl (by kernel_rfl) (by decide) (fun K hK => ?_)
                    refine event_step (v := ptr W2.heap.size) (w1 := W2.alloc (.cells #[.int .i64 0, .int .i64 0, .int .i64 0, .int .i64 0, .int .i64 0, .slice none 0 0, .int .i64 0, .int .i64 0, .int .i64 0, .slice none 0 0, .slice none 0 0, .slice none 0 0, .int .i64 0] 87 (0, 0))) (by rfl) (by first | (go_simp; done) | (go_simp; rfl)) ?_
                    refine hK.out _ _ ⟨below_alloc hb2 _, (by have h := (cells85 HC.out (show Below W.heap.size W (W2.alloc (.cells #[.int .i64 0, .int .i64 0, .int .i64 0, .int .i64 0, .int .i64 0, .slice none 0 0, .int .i64 0, .int .i64 0, .int .i64 0, .slice none 0 0, .slice none 0 0, .slice none 0 0, .int .i64 0] 87 (0, 0))) from below_alloc hB2 _) HLT.out HY.out).2.1; rw [HSY.out] at h; exact h)⟩ (fun hHeld => ?_)
                    clear hK K
                    refine norm_ ?_ (HCO.out (W2.heap.size, vq2, o2) _ (J1.one hb2 hq2 (by rw [sdL_er]; exact (HPd.out.e.below hb2).mono (fun k hk => .inl hk)) (Kd.R_nil _ _ _ _ _) ho2))
                    simp only [putAll, Act.put, List.setIfInBounds_toArray, List.set_cons_zero, List.set_cons_succ, i64_w, i32_w]
                    try rfl
                  · refine event_step (v := ptr wd.heap.size) (w1 := wd.alloc (.cells #[.int .i64 0, .int .i64 0, .int .i64 0, .int .i64 0, .int .i64 0, .slice none 0 0, .int .i64 0, .int .i64 0, .int .i64 0, .slice none 0 0, .slice none 0 0, .slice none 0 0, .int .i64 0] 87 (0, 0))) (by rfl) (by first | (go_simp; done) | (go_simp; rfl)) ?_
                    have ha : Below wd.heap.size wd (wd.alloc (.cells #[.int .i64 0, .int .i64 0, .int .i64 0, .int .i64 0, .int .i64 0, .slice none 0 0, .int .i64 0, .int .i64 0, .int .i64 0, .slice none 0 0, .slice none 0 0, .slice none 0 0, .int .i64 0] 87 (0, 0))) := below_alloc (Below.refl _ _) _
                    have hBa := HPd.out.below.trans (ha.mono HPd.out.below.size)
                    refine hK.out _ _ ⟨ha, (by have h := (cells85 HC.out hBa HLT.out HY.out).2.1; rw [HSY.out] at h; exact h)⟩ (fun hHeld => ?_)
                    clear hK K
                    skip
                    refine norm_ (a' := ?_) ?_ ?_
                    rotate_left
                    · show Act.put _ (some 10) _ = _
                      simp only [Act.put, List.setIfInBounds_toArray, List.set_cons_zero, List.set_cons_succ, i64_w, i32_w]
                      rfl
                    refine one_ (i := 6) (N := some 89) #[true, true, true, true, true, true, true, true, false] rfl rfl (by kernel_rfl) (by decide) (fun K hK => ?_)
                    refine goes_ Try.func45 (by kernel_rfl) rfl #[.agg #[.int .i64 l.x.f0, .int .i64 l.x.f1, .int .i64 l.x.f2, .int .i64 l.x.f3, .int .i64 l.x.f4, .slice Aq l.q.length cq, .int .i64 l.base, .int .i64 l.out, .int .i64 l.want, .slice Ae l.er.length ce], .string s] (by rfl) rfl rfl (by first | rfl | (simp only [List.map_toArray, List.map_cons, List.map_nil]; rfl)) ?_
                    refine (send13_is HR.out.one.bd (HPd.out.q.bound.below ha) (Kd.C_below (RW_Ce HPd.out.e) ha) hce s HS.out).mono ?_
                    rintro e W2 ⟨vq2, o2, rfl, hq2, ho2, hb2⟩
                    have hB2 := hBa.trans (hb2.mono hBa.size)
                    refine ⟨_, rfl, hK.out _ _ ⟨ha.trans (hb2.mono ha.size), (by have h := (cells85 HC.out hB2 HLT.out HY.out).2.1; rw [HSY.out] at h; exact h)⟩ (fun hHeld => ?_)⟩
                    clear hK K
                    refine norm_ (a' := ?_) ?_ ?_
                    rotate_left
                    · show Act.put _ (some 89) _ = _
                      simp only [Act.put, List.setIfInBounds_toArray, List.set_cons_zero, List.set_cons_succ, i64_w, i32_w]
                      rfl
                    refine norm_ ?_ (HCO.out (wd.heap.size, vq2, o2) _ (J1.two hb2 hq2 (by rw [sdL_er]; exact ((HPd.out.e.bound.below ha).below hb2).mono (fun k hk => .inl hk)) (Kd.R_nil _ _ _ _ _) ho2))
                    simp only [putAll, Act.put, List.setIfInBounds_toArray, List.set_cons_zero, List.set_cons_succ, i64_w, i32_w]
                    try rfl
                rintro ⟨b, vq2, o2⟩ W3 hj
                try dsimp only at hj ⊢
                refine norm_ (a' := ?_) ?_ ?_
                rotate_left
                · simp only [putAll, Act.put, List.setIfInBounds_toArray, List.set_cons_zero, List.set_cons_succ, i64_w, i32_w]
                  rfl
                have HJ := Aside0.mk hj
                obtain ⟨Aq2, cq2, rfl, hcq2, _⟩ := hj.q
                obtain ⟨Ao, co, rfl, hco, ho5⟩ := R_named hj.o HNO.out
                clear hj
                skip
                refine last_ (i := 8) (N := none) #[true, true, true, true, true, true, true, true, true] rfl rfl (by kernel_rfl) (by decide) (fun K hK => ?_)
                refine storeRow_ (by rfl) 87 (.tmp 10) (.tmp 89) rfl rfl b #[.int .i64 (sdL l s).x.f0, .int .i64 (sdL l s).x.f1, .int .i64 (sdL l s).x.f2, .int .i64 (sdL l s).x.f3, .int .i64 (sdL l s).x.f4, .slice Aq2 (sdL l s).q.length cq2, .int .i64 (sdL l s).base, .int .i64 (sdL l s).out, .int .i64 (sdL l s).want, .slice Ae l.er.length ce, .slice none 0 0, .slice Ao np co, .int .i64 (sdE l s)] rfl rfl 87 _ HJ.out.box info87s rfl (by rw [List.all_toArray]; rfl) ?_
                refine hK.out _ _ ?_
                clear hK K
                refine done_ (by kernel_rfl) ?_
                have HB4 := Aside0.mk (setRow_heap W3 b _ #[.int .i64 (sdL l s).x.f0, .int .i64 (sdL l s).x.f1, .int .i64 (sdL l s).x.f2, .int .i64 (sdL l s).x.f3, .int .i64 (sdL l s).x.f4, .slice Aq2 (sdL l s).q.length cq2, .int .i64 (sdL l s).base, .int .i64 (sdL l s).out, .int .i64 (sdL l s).want, .slice Ae l.er.length ce, .slice none 0 0, .slice Ao np co, .int .i64 (sdE l s)] 87 (0, 0) HJ.out.box)
                have HD3 := Aside0.mk (keepB HPd.out.bd HJ.out.below)
                have hne : gd ≠ b := by have := blk_lt HPd.out.bd; have := HJ.out.new; omega
                have HD4 := Aside0.mk ((setRow_other W3 b gd #[.int .i64 (sdL l s).x.f0, .int .i64 (sdL l s).x.f1, .int .i64 (sdL l s).x.f2, .int .i64 (sdL l s).x.f3, .int .i64 (sdL l s).x.f4, .slice Aq2 (sdL l s).q.length cq2, .int .i64 (sdL l s).base, .int .i64 (sdL l s).out, .int .i64 (sdL l s).want, .slice Ae l.er.length ce, .slice none 0 0, .slice Ao np co, .int .i64 (sdE l s)] hne).trans HD3.out)
                have y0 : (W3.setRow b #[.int .i64 (sdL l s).x.f0, .int .i64 (sdL l s).x.f1, .int .i64 (sdL l s).x.f2, .int .i64 (sdL l s).x.f3, .int .i64 (sdL l s).x.f4, .slice Aq2 (sdL l s).q.length cq2, .int .i64 (sdL l s).base, .int .i64 (sdL l s).out, .int .i64 (sdL l s).want, .slice Ae l.er.length ce, .slice none 0 0, .slice Ao np co, .int .i64 (sdE l s)]).cell? ⟨b, 0, none⟩ = some (.int .i64 (sdL l s).x.f0) := (blk_cell HB4.out 0).trans rfl
                have y1 : (W3.setRow b #[.int .i64 (sdL l s).x.f0, .int .i64 (sdL l s).x.f1, .int .i64 (sdL l s).x.f2, .int .i64 (sdL l s).x.f3, .int .i64 (sdL l s).x.f4, .slice Aq2 (sdL l s).q.length cq2, .int .i64 (sdL l s).base, .int .i64 (sdL l s).out, .int .i64 (sdL l s).want, .slice Ae l.er.length ce, .slice none 0 0, .slice Ao np co, .int .i64 (sdE l s)]).cell? ⟨b, 1, none⟩ = some (.int .i64 (sdL l s).x.f1) := (blk_cell HB4.out 1).trans rfl
                have y2 : (W3.setRow b #[.int .i64 (sdL l s).x.f0, .int .i64 (sdL l s).x.f1, .int .i64 (sdL l s).x.f2, .int .i64 (sdL l s).x.f3, .int .i64 (sdL l s).x.f4, .slice Aq2 (sdL l s).q.length cq2, .int .i64 (sdL l s).base, .int .i64 (sdL l s).out, .int .i64 (sdL l s).want, .slice Ae l.er.length ce, .slice none 0 0, .slice Ao np co, .int .i64 (sdE l s)]).cell? ⟨b, 2, none⟩ = some (.int .i64 (sdL l s).x.f2) := (blk_cell HB4.out 2).trans rfl
                have y3 : (W3.setRow b #[.int .i64 (sdL l s).x.f0, .int .i64 (sdL l s).x.f1, .int .i64 (sdL l s).x.f2, .int .i64 (sdL l s).x.f3, .int .i64 (sdL l s).x.f4, .slice Aq2 (sdL l s).q.length cq2, .int .i64 (sdL l s).base, .int .i64 (sdL l s).out, .int .i64 (sdL l s).want, .slice Ae l.er.length ce, .slice none 0 0, .slice Ao np co, .int .i64 (sdE l s)]).cell? ⟨b, 3, none⟩ = some (.int .i64 (sdL l s).x.f3) := (blk_cell HB4.out 3).trans rfl
                have y4 : (W3.setRow b #[.int .i64 (sdL l s).x.f0, .int .i64 (sdL l s).x.f1, .int .i64 (sdL l s).x.f2, .int .i64 (sdL l s).x.f3, .int .i64 (sdL l s).x.f4, .slice Aq2 (sdL l s).q.length cq2, .int .i64 (sdL l s).base, .int .i64 (sdL l s).out, .int .i64 (sdL l s).want, .slice Ae l.er.length ce, .slice none 0 0, .slice Ao np co, .int .i64 (sdE l s)]).cell? ⟨b, 4, none⟩ = some (.int .i64 (sdL l s).x.f4) := (blk_cell HB4.out 4).trans rfl
                have y5 : (W3.setRow b #[.int .i64 (sdL l s).x.f0, .int .i64 (sdL l s).x.f1, .int .i64 (sdL l s).x.f2, .int .i64 (sdL l s).x.f3, .int .i64 (sdL l s).x.f4, .slice Aq2 (sdL l s).q.length cq2, .int .i64 (sdL l s).base, .int .i64 (sdL l s).out, .int .i64 (sdL l s).want, .slice Ae l.er.length ce, .slice none 0 0, .slice Ao np co, .int .i64 (sdE l s)]).cell? ⟨b, 5, none⟩ = some (.slice Aq2 (sdL l s).q.length cq2) := (blk_cell HB4.out 5).trans rfl
                have y6 : (W3.setRow b #[.int .i64 (sdL l s).x.f0, .int .i64 (sdL l s).x.f1, .int .i64 (sdL l s).x.f2, .int .i64 (sdL l s).x.f3, .int .i64 (sdL l s).x.f4, .slice Aq2 (sdL l s).q.length cq2, .int .i64 (sdL l s).base, .int .i64 (sdL l s).out, .int .i64 (sdL l s).want, .slice Ae l.er.length ce, .slice none 0 0, .slice Ao np co, .int .i64 (sdE l s)]).cell? ⟨b, 6, none⟩ = some (.int .i64 (sdL l s).base) := (blk_cell HB4.out 6).trans rfl
                have y7 : (W3.setRow b #[.int .i64 (sdL l s).x.f0, .int .i64 (sdL l s).x.f1, .int .i64 (sdL l s).x.f2, .int .i64 (sdL l s).x.f3, .int .i64 (sdL l s).x.f4, .slice Aq2 (sdL l s).q.length cq2, .int .i64 (sdL l s).base, .int .i64 (sdL l s).out, .int .i64 (sdL l s).want, .slice Ae l.er.length ce, .slice none 0 0, .slice Ao np co, .int .i64 (sdE l s)]).cell? ⟨b, 7, none⟩ = some (.int .i64 (sdL l s).out) := (blk_cell HB4.out 7).trans rfl
                have y8 : (W3.setRow b #[.int .i64 (sdL l s).x.f0, .int .i64 (sdL l s).x.f1, .int .i64 (sdL l s).x.f2, .int .i64 (sdL l s).x.f3, .int .i64 (sdL l s).x.f4, .slice Aq2 (sdL l s).q.length cq2, .int .i64 (sdL l s).base, .int .i64 (sdL l s).out, .int .i64 (sdL l s).want, .slice Ae l.er.length ce, .slice none 0 0, .slice Ao np co, .int .i64 (sdE l s)]).cell? ⟨b, 8, none⟩ = some (.int .i64 (sdL l s).want) := (blk_cell HB4.out 8).trans rfl
                have y9 : (W3.setRow b #[.int .i64 (sdL l s).x.f0, .int .i64 (sdL l s).x.f1, .int .i64 (sdL l s).x.f2, .int .i64 (sdL l s).x.f3, .int .i64 (sdL l s).x.f4, .slice Aq2 (sdL l s).q.length cq2, .int .i64 (sdL l s).base, .int .i64 (sdL l s).out, .int .i64 (sdL l s).want, .slice Ae l.er.length ce, .slice none 0 0, .slice Ao np co, .int .i64 (sdE l s)]).cell? ⟨b, 9, none⟩ = some (.slice Ae l.er.length ce) := (blk_cell HB4.out 9).trans rfl
                go_wp2_with (first
                  | ((with_reducible refine gate_store (t := 81) (p := 6) rfl ?_); refine wpList_store_row rfl 81 (.tmp 6) (.tmp 91) rfl gd #[.int .i64 (sdL l s).x.f0, .int .i64 (sdL l s).x.f1, .int .i64 (sdL l s).x.f2, .int .i64 (sdL l s).x.f3, .int .i64 (sdL l s).x.f4, .slice Aq2 (sdL l s).q.length cq2, .int .i64 (sdL l s).base, .int .i64 (sdL l s).out, .int .i64 (sdL l s).want, .slice Ae l.er.length ce] rfl rfl 81 _ HD4.out info81s rfl (by rw [List.all_toArray]; rfl) ?_))
                try simp only [Act.put, List.setIfInBounds_toArray, List.set_cons_zero, List.set_cons_succ]
                clear y0 y1 y2 y3 y4 y5 y6 y7 y8 y9
                have HP5 := Aside0.mk (J1.pl HPd.out HJ.out #[.int .i64 (sdL l s).x.f0, .int .i64 (sdL l s).x.f1, .int .i64 (sdL l s).x.f2, .int .i64 (sdL l s).x.f3, .int .i64 (sdL l s).x.f4, .slice Aq2 (sdL l s).q.length cq2, .int .i64 (sdL l s).base, .int .i64 (sdL l s).out, .int .i64 (sdL l s).want, .slice Ae l.er.length ce, .slice none 0 0, .slice Ao np co, .int .i64 (sdE l s)])
                have HB5 := Aside0.mk ((setRow_other (W3.setRow b #[.int .i64 (sdL l s).x.f0, .int .i64 (sdL l s).x.f1, .int .i64 (sdL l s).x.f2, .int .i64 (sdL l s).x.f3, .int .i64 (sdL l s).x.f4, .slice Aq2 (sdL l s).q.length cq2, .int .i64 (sdL l s).base, .int .i64 (sdL l s).out, .int .i64 (sdL l s).want, .slice Ae l.er.length ce, .slice none 0 0, .slice Ao np co, .int .i64 (sdE l s)]) gd b #[.int .i64 (sdL l s).x.f0, .int .i64 (sdL l s).x.f1, .int .i64 (sdL l s).x.f2, .int .i64 (sdL l s).x.f3, .int .i64 (sdL l s).x.f4, .slice Aq2 (sdL l s).q.length cq2, .int .i64 (sdL l s).base, .int .i64 (sdL l s).out, .int .i64 (sdL l s).want, .slice Ae l.er.length ce] (Ne.symm hne)).trans HB4.out)
                have HOP5 := Aside0.mk (R_two HOP.out HJ.out.below HJ.out.box HD3.out (k28_types (by decide)) (k28_types (by decide)) #[.int .i64 (sdL l s).x.f0, .int .i64 (sdL l s).x.f1, .int .i64 (sdL l s).x.f2, .int .i64 (sdL l s).x.f3, .int .i64 (sdL l s).x.f4, .slice Aq2 (sdL l s).q.length cq2, .int .i64 (sdL l s).base, .int .i64 (sdL l s).out, .int .i64 (sdL l s).want, .slice Ae l.er.length ce, .slice none 0 0, .slice Ao np co, .int .i64 (sdE l s)] #[.int .i64 (sdL l s).x.f0, .int .i64 (sdL l s).x.f1, .int .i64 (sdL l s).x.f2, .int .i64 (sdL l s).x.f3, .int .i64 (sdL l s).x.f4, .slice Aq2 (sdL l s).q.length cq2, .int .i64 (sdL l s).base, .int .i64 (sdL l s).out, .int .i64 (sdL l s).want, .slice Ae l.er.length ce])
                have HO5 := Aside0.mk (R_two ho5 (Below.refl _ _) HJ.out.box HD3.out (k58_types (by decide)) (k58_types (by decide)) #[.int .i64 (sdL l s).x.f0, .int .i64 (sdL l s).x.f1, .int .i64 (sdL l s).x.f2, .int .i64 (sdL l s).x.f3, .int .i64 (sdL l s).x.f4, .slice Aq2 (sdL l s).q.length cq2, .int .i64 (sdL l s).base, .int .i64 (sdL l s).out, .int .i64 (sdL l s).want, .slice Ae l.er.length ce, .slice none 0 0, .slice Ao np co, .int .i64 (sdE l s)] #[.int .i64 (sdL l s).x.f0, .int .i64 (sdL l s).x.f1, .int .i64 (sdL l s).x.f2, .int .i64 (sdL l s).x.f3, .int .i64 (sdL l s).x.f4, .slice Aq2 (sdL l s).q.length cq2, .int .i64 (sdL l s).base, .int .i64 (sdL l s).out, .int .i64 (sdL l s).want, .slice Ae l.er.length ce])
                clear HB4 HD3 HD4 HJ ho5 HOP HPd HP1
                generalize hw5 : (W3.setRow b #[.int .i64 (sdL l s).x.f0, .int .i64 (sdL l s).x.f1, .int .i64 (sdL l s).x.f2, .int .i64 (sdL l s).x.f3, .int .i64 (sdL l s).x.f4, .slice Aq2 (sdL l s).q.length cq2, .int .i64 (sdL l s).base, .int .i64 (sdL l s).out, .int .i64 (sdL l s).want, .slice Ae l.er.length ce, .slice none 0 0, .slice Ao np co, .int .i64 (sdE l s)]).setRow gd #[.int .i64 (sdL l s).x.f0, .int .i64 (sdL l s).x.f1, .int .i64 (sdL l s).x.f2, .int .i64 (sdL l s).x.f3, .int .i64 (sdL l s).x.f4, .slice Aq2 (sdL l s).q.length cq2, .int .i64 (sdL l s).base, .int .i64 (sdL l s).out, .int .i64 (sdL l s).want, .slice Ae l.er.length ce] = w5 at *
                clear hw5
                have HBd := Aside0.mk (blk_drew HB5.out)
                have HPe := Aside0.mk (HP5.out.bel (below_drew1 (Below.refl _ _)))
                have HOPd := Aside0.mk (Kd.R_drew HOP5.out)
                have HOd := Aside0.mk (Kd.R_drew HO5.out)
                clear HB5 HP5 HOP5 HO5
                refine start_ (n := 12) (S := fun w' => Below w5.drew.heap.size w5.drew w' ∧ True) (ds := []) #[false, false, false, false, false, false, false, false, false, false, false, false] (by kernel_rfl) rfl rfl ⟨Below.refl _ _, trivial⟩ (fun hHeld => ?_)
                refine pure_ (i := 0) (N := some 92) (v := ?_) (a' := ?_) #[true, false, false, false, false, false, false, false, false, false, false, false] rfl rfl (by kernel_rfl) (fun _ _ _ h => h) (Or.inl ⟨by rfl, ?_⟩) ?_ ?_
                rotate_left
                · intro w'; go_simp; with_reducible rfl
                rotate_left
                · simp only [Act.put, List.setIfInBounds_toArray, List.set_cons_zero, List.set_cons_succ, i64_w, i32_w]; rfl
                refine pure_ (i := 1) (N := some 93) (v := ?_) (a' := ?_) #[true, true, false, false, false, false, false, false, false, false, false, false] rfl rfl (by kernel_rfl) (fun _ _ _ h => h) (Or.inl ⟨by rfl, ?_⟩) ?_ ?_
                rotate_left
                · intro w'; go_simp; with_reducible rfl
                rotate_left
                · simp only [Act.put, List.setIfInBounds_toArray, List.set_cons_zero, List.set_cons_succ, i64_w, i32_w]; rfl
                generalize hwe : w5.drew = we at *
                clear hwe
                refine take_ (i := 2) (N := some 94) (v := ?_) (a' := ?_) #[true, true, true, false, false, false, false, false, false, false, false, false] rfl rfl (by kernel_rfl) (fun _ _ _ h => h) (Or.inl ⟨by rfl, ?_⟩) hHeld ?_ ?_
                rotate_left
                · rintro w' ⟨s0, _⟩
                  have y0 := (blk_cell (keepB HBd.out s0) 12).trans (show _ = some (.int .i64 (sdE l s)) from rfl)
                  go_simp; with_reducible rfl
                rotate_left
                · simp only [Act.put, List.setIfInBounds_toArray, List.set_cons_zero, List.set_cons_succ, i64_w, i32_w]; rfl
                refine pure_ (i := 3) (N := some 95) (v := ?_) (a' := ?_) #[true, true, true, true, false, false, false, false, false, false, false, false] rfl rfl (by kernel_rfl) (fun _ _ _ h => h) (Or.inl ⟨by rfl, ?_⟩) ?_ ?_
                rotate_left
                · intro w'; go_simp; with_reducible rfl
                rotate_left
                · simp only [Act.put, List.setIfInBounds_toArray, List.set_cons_zero, List.set_cons_succ, i64_w, i32_w]; rfl
                refine pure_ (i := 4) (N := some 96) (v := ?_) (a' := ?_) #[true, true, true, true, true, false, false, false, false, false, false, false] rfl rfl (by kernel_rfl) (fun _ _ _ h => h) (Or.inl ⟨by rfl, ?_⟩) ?_ ?_
                rotate_left
                · intro w'; go_simp; with_reducible rfl
                rotate_left
                · simp only [Act.put, List.setIfInBounds_toArray, List.set_cons_zero, List.set_cons_succ, i64_w, i32_w]; rfl
                refine pure_ (i := 5) (N := some 97) (v := ?_) (a' := ?_) #[true, true, true, true, true, true, false, false, false, false, false, false] rfl rfl (by kernel_rfl) (fun _ _ _ h => h) (Or.inl ⟨by rfl, ?_⟩) ?_ ?_
                rotate_left
                · intro w'; go_simp; with_reducible rfl
                rotate_left
                · simp only [Act.put, List.setIfInBounds_toArray, List.set_cons_zero, List.set_cons_succ, i64_w, i32_w]; rfl
                refine pure_ (i := 7) (N := some 99) (v := ?_) (a' := ?_) #[true, true, true, true, true, true, false, true, false, false, false, false] rfl rfl (by kernel_rfl) (fun _ _ _ h => h) (Or.inl ⟨by rfl, ?_⟩) ?_ ?_
                rotate_left
                · intro w'; go_simp; with_reducible rfl
                rotate_left
                · simp only [Act.put, List.setIfInBounds_toArray, List.set_cons_zero, List.set_cons_succ, i64_w, i32_w]; rfl
                refine take_ (i := 8) (N := some 100) (v := ?_) (a' := ?_) #[true, true, true, true, true, true, false, true, true, false, false, false] rfl rfl (by kernel_rfl) (fun _ _ _ h => h) (Or.inl ⟨by rfl, ?_⟩) hHeld ?_ ?_
                rotate_left
                · rintro w' ⟨s0, _⟩
                  have y0 := (blk_cell (keepB HBd.out s0) 11).trans (show _ = some (.slice Ao np co) from rfl)
                  go_simp; with_reducible rfl
                rotate_left
                · simp only [Act.put, List.setIfInBounds_toArray, List.set_cons_zero, List.set_cons_succ, i64_w, i32_w]; rfl
                refine one_ (i := 6) (N := some 98) #[true, true, true, true, true, true, true, true, true, false, false, false] rfl rfl (by kernel_rfl) (by decide) (fun K hK => ?_)
                refine goes_ Try.func47 (by kernel_rfl) rfl #[.slice Ap np cp] (by rfl) rfl rfl (by first | rfl | (simp only [List.map_toArray, List.map_cons, List.map_nil]; rfl)) ?_
                refine (packets13_n (C_named HOPd.out).2 (C_named HOPd.out).1 (by rw [HNP.out]; have := HN8.out; omega) HNP.out).mono ?_
                rintro e W6 ⟨o6, rfl, ho6, hb6⟩; obtain ⟨A6, c6, rfl, hc6, ho6⟩ := R_named ho6 HNO.out; have HO6 := Aside0.mk ho6; have HB6 := Aside0.mk hb6; clear ho6 hb6
                refine ⟨_, rfl, hK.out _ _ ⟨HB6.out, trivial⟩ (fun hHeld => ?_)⟩
                clear hK K
                refine norm_ (a' := ?_) ?_ ?_
                rotate_left
                · show Act.put _ (some 98) _ = _
                  simp only [Act.put, List.setIfInBounds_toArray, List.set_cons_zero, List.set_cons_succ, i64_w, i32_w]
                  rfl
                refine one_ (i := 9) (N := some 101) #[true, true, true, true, true, true, true, true, true, true, false, false] rfl rfl (by kernel_rfl) (by decide) (fun K hK => ?_)
                refine goes_ Try.func46 (by kernel_rfl) rfl #[.slice A6 np c6, .slice Ao np co] (by rfl) rfl rfl (by first | rfl | (simp only [List.map_toArray, List.map_cons, List.map_nil]; rfl)) ?_
                refine (same58_is (C_named HO6.out).2 (C_named HO6.out).1 (C_named (Kd.R_below HOd.out HB6.out)).2 (C_named (Kd.R_below HOd.out HB6.out)).1 (by rw [HNO.out]; have := HN8.out; omega) HNO.out).mono ?_
                rintro e W7 ⟨rfl, hb7⟩; have HB7 := Aside0.mk (HB6.out.trans (hb7.mono HB6.out.size)); clear hb7
                refine ⟨_, rfl, hK.out _ _ ⟨HB7.out, trivial⟩ (fun hHeld => ?_)⟩
                clear hK K
                refine norm_ (a' := ?_) ?_ ?_
                rotate_left
                · show Act.put _ (some 101) _ = _
                  simp only [Act.put, List.setIfInBounds_toArray, List.set_cons_zero, List.set_cons_succ, i64_w, i32_w]
                  rfl
                refine pure_ (i := 10) (N := some 102) (v := ?_) (a' := ?_) #[true, true, true, true, true, true, true, true, true, true, true, false] rfl rfl (by kernel_rfl) (fun _ _ _ h => h) (Or.inl ⟨by rfl, ?_⟩) ?_ ?_
                rotate_left
                · intro w'; go_simp; with_reducible rfl
                rotate_left
                · simp only [Act.put, List.setIfInBounds_toArray, List.set_cons_zero, List.set_cons_succ, i64_w, i32_w]; rfl
                refine pure_ (i := 11) (N := some 103) (v := ?_) (a' := ?_) #[true, true, true, true, true, true, true, true, true, true, true, true] rfl rfl (by kernel_rfl) (fun _ _ _ h => h) (Or.inl ⟨by rfl, ?_⟩) ?_ ?_
                rotate_left
                · intro w'; go_simp; with_reducible rfl
                rotate_left
                · simp only [Act.put, List.setIfInBounds_toArray, List.set_cons_zero, List.set_cons_succ, i64_w, i32_w]; rfl
                refine done_ (by kernel_rfl) ?_
                go_wp2
                go_meet
                case rel => exact ⟨sdL l s, v', _, _, ⟨⟨HPe.out.bel HB7.out, HR.out.one.send s, by rw [sdL_er]; have := HR.out.few; omega⟩⟩⟩
              · have f0 : (y.f0 == 0) = false := by simpa using k0
                by_cases k1' : y.f0 = 1
                · have f1 : (y.f0 == 1) = true := by rw [k1']; rfl
                  clear k0 k1'
                  obtain ⟨p, hp⟩ : ∃ p, y.f2 = p := ⟨_, rfl⟩
                  have HSY := Aside0.mk hp
                  rw [hp] at e2 e3 e4 e5 e6 e7 e8
                  clear hp
                  obtain ⟨np, hnp⟩ : ∃ np, (tkP l p).length = np := ⟨_, rfl⟩
                  have HNP := Aside0.mk hnp
                  have HNO := Aside0.mk (show ((tkP l p).map to58).length = np by rw [List.length_map]; exact hnp)
                  have HN8 := Aside0.mk (show np ≤ 8 by rw [← hnp]; exact tkP_len8)
                  obtain ⟨nt, hnt⟩ : ∃ nt, (tkT l p).length = nt := ⟨_, rfl⟩
                  have HNT := Aside0.mk hnt
                  have HNT8 := Aside0.mk (show nt ≤ 1000000 by rw [← hnt]; exact tkT_few HR.out.one (by have := HR.out.few; have := HN50.out; omega))
                  clear hnp hnt
                  go_wp2_with (first
                    | ((with_reducible refine gate_dst (N := 113) rfl ?_); refine goesL_ (some 113) rfl rfl Try.func39 (by kernel_rfl) rfl #[ptr g, .agg #[.int .i64 p.f0, .int .i64 p.f1, .int .i64 p.f2, .int .i64 p.f3, .int .i64 p.f4, .int .i64 p.f5, .string p.f6]] rfl (by first | (simp only [List.map_toArray, List.map_cons, List.map_nil]; rfl) | rfl) ?_; refine (LK.take_is HR.out.pl.lk HR.out.one.bd (by have := HR.out.few; have := HN50.out; omega) p).mono ?_; rintro e W1 ⟨tp, op, v', rfl, htp, hop, st⟩; obtain ⟨Ap, cp, rfl, hcp, hop⟩ := R_named hop HNP.out; obtain ⟨Atp, ctp, rfl, hctp, htp⟩ := R_named htp HNT.out; have HP1 := Aside0.mk (HR.out.pl.act st); have HOP := Aside0.mk (Kd.R_drew hop); have HTP := Aside0.mk (Kd.R_drew htp); clear hop htp st e0 e1 e2 e3 e4 e5 e6 e7 e8; refine ⟨_, rfl, ?_⟩))
                  have HPd := Aside0.mk (HP1.out.bel (below_drew1 (Below.refl _ _)))
                  have hel := (cells85 HC.out HPd.out.below HLT.out HY.out).2.2
                  rw [HSY.out] at hel
                  refine start_ (n := 9) (S := fun w' => Below W1.drew.heap.size W1.drew w' ∧ w'.cell? ⟨(ad.add (n * 9)).block, (ad.add (n * 9)).off + 2, none⟩ = some (.int .i64 p.f0) ∧ w'.cell? ⟨(ad.add (n * 9)).block, (ad.add (n * 9)).off + 3, none⟩ = some (.int .i64 p.f1) ∧ w'.cell? ⟨(ad.add (n * 9)).block, (ad.add (n * 9)).off + 4, none⟩ = some (.int .i64 p.f2) ∧ w'.cell? ⟨(ad.add (n * 9)).block, (ad.add (n * 9)).off + 5, none⟩ = some (.int .i64 p.f3) ∧ w'.cell? ⟨(ad.add (n * 9)).block, (ad.add (n * 9)).off + 6, none⟩ = some (.int .i64 p.f4) ∧ w'.cell? ⟨(ad.add (n * 9)).block, (ad.add (n * 9)).off + 7, none⟩ = some (.int .i64 p.f5) ∧ w'.cell? ⟨(ad.add (n * 9)).block, (ad.add (n * 9)).off + 8, none⟩ = some (.string p.f6)) (ds := [8]) #[false, false, false, false, false, false, false, false, false] (by kernel_rfl) rfl rfl ⟨Below.refl _ _, hel⟩ (fun hHeld => ?_)
                  
                  refine take_ (i := 0) (N := some 117) (v := ?_) (a' := ?_) #[true, false, false, false, false, false, false, false, false] rfl rfl (by kernel_rfl) (fun _ _ _ h => h) (Or.inl ⟨by rfl, ?_⟩) hHeld ?_ ?_
                  rotate_left
                  · rintro w' ⟨s0, s1, s2, s3, s4, s5, s6, s7⟩
                    have y0 := (blk_cell (keepB HPd.out.bd s0) 0).trans (show _ = some (.int .i64 l.x.f0) from rfl)
                    have y1 := (blk_cell (keepB HPd.out.bd s0) 1).trans (show _ = some (.int .i64 l.x.f1) from rfl)
                    have y2 := (blk_cell (keepB HPd.out.bd s0) 2).trans (show _ = some (.int .i64 l.x.f2) from rfl)
                    have y3 := (blk_cell (keepB HPd.out.bd s0) 3).trans (show _ = some (.int .i64 l.x.f3) from rfl)
                    have y4 := (blk_cell (keepB HPd.out.bd s0) 4).trans (show _ = some (.int .i64 l.x.f4) from rfl)
                    have y5 := (blk_cell (keepB HPd.out.bd s0) 5).trans (show _ = some (.slice Aq l.q.length cq) from rfl)
                    have y6 := (blk_cell (keepB HPd.out.bd s0) 6).trans (show _ = some (.int .i64 l.base) from rfl)
                    have y7 := (blk_cell (keepB HPd.out.bd s0) 7).trans (show _ = some (.int .i64 l.out) from rfl)
                    have y8 := (blk_cell (keepB HPd.out.bd s0) 8).trans (show _ = some (.int .i64 l.want) from rfl)
                    have y9 := (blk_cell (keepB HPd.out.bd s0) 9).trans (show _ = some (.slice Ae l.er.length ce) from rfl)
                    go_simp; with_reducible rfl
                  rotate_left
                  · simp only [Act.put, List.setIfInBounds_toArray, List.set_cons_zero, List.set_cons_succ, i64_w, i32_w]; rfl
                  refine pure_ (i := 1) (N := some 118) (v := ?_) (a' := ?_) #[true, true, false, false, false, false, false, false, false] rfl rfl (by kernel_rfl) (fun _ _ _ h => h) (Or.inl ⟨by rfl, ?_⟩) ?_ ?_
                  rotate_left
                  · intro w'; go_simp; with_reducible rfl
                  rotate_left
                  · simp only [Act.put, List.setIfInBounds_toArray, List.set_cons_zero, List.set_cons_succ, i64_w, i32_w]; rfl
                  refine pure_ (i := 2) (N := some 119) (v := ?_) (a' := ?_) #[true, true, true, false, false, false, false, false, false] rfl rfl (by kernel_rfl) (fun _ _ _ h => h) (Or.inl ⟨by rfl, ?_⟩) ?_ ?_
                  rotate_left
                  · intro w'; go_simp; with_reducible rfl
                  rotate_left
                  · simp only [Act.put, List.setIfInBounds_toArray, List.set_cons_zero, List.set_cons_succ, i64_w, i32_w]; rfl
                  refine pure_ (i := 3) (N := some 120) (v := ?_) (a' := ?_) #[true, true, true, true, false, false, false, false, false] rfl rfl (by kernel_rfl) (fun _ _ _ h => h) (Or.inl ⟨by rfl, ?_⟩) ?_ ?_
                  rotate_left
                  · intro w'; go_simp; with_reducible rfl
                  rotate_left
                  · simp only [Act.put, List.setIfInBounds_toArray, List.set_cons_zero, List.set_cons_succ, i64_w, i32_w]; rfl
                  refine pure_ (i := 4) (N := some 121) (v := ?_) (a' := ?_) #[true, true, true, true, true, false, false, false, false] rfl rfl (by kernel_rfl) (fun _ _ _ h => h) (Or.inl ⟨by rfl, ?_⟩) ?_ ?_
                  rotate_left
                  · intro w'; go_simp; with_reducible rfl
                  rotate_left
                  · simp only [Act.put, List.setIfInBounds_toArray, List.set_cons_zero, List.set_cons_succ, i64_w, i32_w]; rfl
                  refine take_ (i := 5) (N := some 122) (v := ?_) (a' := ?_) #[true, true, true, true, true, true, false, false, false] rfl rfl (by kernel_rfl) (fun _ _ _ h => h) (Or.inl ⟨by rfl, ?_⟩) hHeld ?_ ?_
                  rotate_left
                  · rintro w' ⟨s0, s1, s2, s3, s4, s5, s6, s7⟩; go_simp; with_reducible rfl
                  rotate_left
                  · simp only [Act.put, List.setIfInBounds_toArray, List.set_cons_zero, List.set_cons_succ, i64_w, i32_w]; rfl
                  clear hel
                  generalize hwd : W1.drew = wd at *
                  clear hwd
                  refine join_ (σ := Nat × Value × Value × Value × Value) 1 #[true, true, true, true, true, true, true, true, false] (fun z => [(123, .agg #[.int .i64 (tkL l p).x.f0, .int .i64 (tkL l p).x.f1, .int .i64 (tkL l p).x.f2, .int .i64 (tkL l p).x.f3, .int .i64 (tkL l p).x.f4, z.2.1, .int .i64 (tkL l p).base, .int .i64 (tkL l p).out, .int .i64 (tkL l p).want, z.2.2.1, z.2.2.2.1, z.2.2.2.2, .int .i64 (tkE l p)]), (14, ptr z.1)]) (fun z w' => J1 wd (fun k => W.heap.size ≤ k ∧ ¬ lf g v' m k ∧ k ≠ gd) (tkL l p) (tkT l p) ((tkP l p).map to58) z.1 z.2.1 z.2.2.1 z.2.2.2.1 z.2.2.2.2 w') ?_ ?_
                  rotate_left
                  · intro hcont
                    have HCO := Aside0.mk hcont
                    clear hcont
                    refine two_ (i := 6) (j := 7) (Ni := some 123) (Nj := some 14) #[true, true, true, true, true, true, true, false, false] #[true, true, true, true, true, true, false, true, false] rfl rfl rfl rfl (by kernel_rfl) (by decide) (by decide) (fun K hK => ?_) (fun K hK => ?_)
                    · skip
                      skip
                      refine goes_ Try.func48 (by kernel_rfl) rfl #[.agg #[.int .i64 l.x.f0, .int .i64 l.x.f1, .int .i64 l.x.f2, .int .i64 l.x.f3, .int .i64 l.x.f4, .slice Aq l.q.length cq, .int .i64 l.base, .int .i64 l.out, .int .i64 l.want, .slice Ae l.er.length ce], .agg #[.int .i64 p.f0, .int .i64 p.f1, .int .i64 p.f2, .int .i64 p.f3, .int .i64 p.f4, .int .i64 p.f5, .string p.f6]] (by rfl) rfl rfl (by first | rfl | (simp only [List.map_toArray, List.map_cons, List.map_nil]; rfl)) ?_
                      refine (take13_is HR.out.one (by have := HR.out.few; have := HN50.out; omega) HPd.out.q HPd.out.e p).mono ?_
                      rintro e W2 ⟨vq2, ve2, t2, o2, rfl, hq2, he2, ht2, ho2, hb2⟩
                      have hB2 := HPd.out.below.trans (hb2.mono HPd.out.below.size)
                      refine ⟨_, rfl, hK.out _ _ ⟨hb2, (by have h := (cells85 HC.out hB2 HLT.out HY.out).2.2; rw [HSY.out] at h; exact h)⟩ (fun hHeld => ?_)⟩
                      clear hK K
                      refine norm_ (a' := ?_) ?_ ?_
                      rotate_left
                      · show Act.put _ (some 123) _ = _
                        simp only [Act.put, List.setIfInBounds_toArray, List.set_cons_zero, List.set_cons_succ, i64_w, i32_w]
                        rfl
                      refine one_ (i := 7) (N := some 14) #[true, true, true, true, true, true, true, true, false] rfl rfl (by kernel_rfl) (by decide) (fun K hK => ?_)
                      refine event_step (v := ptr W2.heap.size) (w1 := W2.alloc (.cells #[.int .i64 0, .int .i64 0, .int .i64 0, .int .i64 0, .int .i64 0, .slice none 0 0, .int .i64 0, .int .i64 0, .int .i64 0, .slice none 0 0, .slice none 0 0, .slice none 0 0, .int .i64 0] 87 (0, 0))) (by rfl) (by first | (go_simp; done) | (go_simp; rfl)) ?_
                      refine hK.out _ _ ⟨below_alloc hb2 _, (by have h := (cells85 HC.out (show Below W.heap.size W (W2.alloc (.cells #[.int .i64 0, .int .i64 0, .int .i64 0, .int .i64 0, .int .i64 0, .slice none 0 0, .int .i64 0, .int .i64 0, .int .i64 0, .slice none 0 0, .slice none 0 0, .slice none 0 0, .int .i64 0] 87 (0, 0))) from below_alloc hB2 _) HLT.out HY.out).2.2; rw [HSY.out] at h; exact h)⟩ (fun hHeld => ?_)
                      clear hK K
                      refine norm_ ?_ (HCO.out (W2.heap.size, vq2, ve2, t2, o2) _ (J1.one hb2 hq2 he2 ht2 ho2))
                      simp only [putAll, Act.put, List.setIfInBounds_toArray, List.set_cons_zero, List.set_cons_succ, i64_w, i32_w]
                      try rfl
                    · refine event_step (v := ptr wd.heap.size) (w1 := wd.alloc (.cells #[.int .i64 0, .int .i64 0, .int .i64 0, .int .i64 0, .int .i64 0, .slice none 0 0, .int .i64 0, .int .i64 0, .int .i64 0, .slice none 0 0, .slice none 0 0, .slice none 0 0, .int .i64 0] 87 (0, 0))) (by rfl) (by first | (go_simp; done) | (go_simp; rfl)) ?_
                      have ha : Below wd.heap.size wd (wd.alloc (.cells #[.int .i64 0, .int .i64 0, .int .i64 0, .int .i64 0, .int .i64 0, .slice none 0 0, .int .i64 0, .int .i64 0, .int .i64 0, .slice none 0 0, .slice none 0 0, .slice none 0 0, .int .i64 0] 87 (0, 0))) := below_alloc (Below.refl _ _) _
                      have hBa := HPd.out.below.trans (ha.mono HPd.out.below.size)
                      refine hK.out _ _ ⟨ha, (by have h := (cells85 HC.out hBa HLT.out HY.out).2.2; rw [HSY.out] at h; exact h)⟩ (fun hHeld => ?_)
                      clear hK K
                      skip
                      refine norm_ (a' := ?_) ?_ ?_
                      rotate_left
                      · show Act.put _ (some 14) _ = _
                        simp only [Act.put, List.setIfInBounds_toArray, List.set_cons_zero, List.set_cons_succ, i64_w, i32_w]
                        rfl
                      refine one_ (i := 6) (N := some 123) #[true, true, true, true, true, true, true, true, false] rfl rfl (by kernel_rfl) (by decide) (fun K hK => ?_)
                      refine goes_ Try.func48 (by kernel_rfl) rfl #[.agg #[.int .i64 l.x.f0, .int .i64 l.x.f1, .int .i64 l.x.f2, .int .i64 l.x.f3, .int .i64 l.x.f4, .slice Aq l.q.length cq, .int .i64 l.base, .int .i64 l.out, .int .i64 l.want, .slice Ae l.er.length ce], .agg #[.int .i64 p.f0, .int .i64 p.f1, .int .i64 p.f2, .int .i64 p.f3, .int .i64 p.f4, .int .i64 p.f5, .string p.f6]] (by rfl) rfl rfl (by first | rfl | (simp only [List.map_toArray, List.map_cons, List.map_nil]; rfl)) ?_
                      refine (take13_is HR.out.one (by have := HR.out.few; have := HN50.out; omega) (HPd.out.q.bound.below ha) (HPd.out.e.bound.below ha) p).mono ?_
                      rintro e W2 ⟨vq2, ve2, t2, o2, rfl, hq2, he2, ht2, ho2, hb2⟩
                      have hB2 := hBa.trans (hb2.mono hBa.size)
                      refine ⟨_, rfl, hK.out _ _ ⟨ha.trans (hb2.mono ha.size), (by have h := (cells85 HC.out hB2 HLT.out HY.out).2.2; rw [HSY.out] at h; exact h)⟩ (fun hHeld => ?_)⟩
                      clear hK K
                      refine norm_ (a' := ?_) ?_ ?_
                      rotate_left
                      · show Act.put _ (some 123) _ = _
                        simp only [Act.put, List.setIfInBounds_toArray, List.set_cons_zero, List.set_cons_succ, i64_w, i32_w]
                        rfl
                      refine norm_ ?_ (HCO.out (wd.heap.size, vq2, ve2, t2, o2) _ (J1.two hb2 hq2 he2 ht2 ho2))
                      simp only [putAll, Act.put, List.setIfInBounds_toArray, List.set_cons_zero, List.set_cons_succ, i64_w, i32_w]
                      try rfl
                  rintro ⟨b, vq2, ve2, t2, o2⟩ W3 hj
                  try dsimp only at hj ⊢
                  refine norm_ (a' := ?_) ?_ ?_
                  rotate_left
                  · simp only [putAll, Act.put, List.setIfInBounds_toArray, List.set_cons_zero, List.set_cons_succ, i64_w, i32_w]
                    rfl
                  have HJ := Aside0.mk hj
                  obtain ⟨Aq2, cq2, rfl, hcq2, _⟩ := hj.q
                  obtain ⟨Ae2, ce2, rfl, hce2, _⟩ := hj.e
                  obtain ⟨Ao, co, rfl, hco, ho5⟩ := R_named hj.o HNO.out
                  obtain ⟨At, ct, rfl, hct, ht5⟩ := R_named hj.t HNT.out
                  rw [erS_len] at HJ ⊢
                  clear hj
                  skip
                  refine last_ (i := 8) (N := none) #[true, true, true, true, true, true, true, true, true] rfl rfl (by kernel_rfl) (by decide) (fun K hK => ?_)
                  refine storeRow_ (by rfl) 87 (.tmp 14) (.tmp 123) rfl rfl b #[.int .i64 (tkL l p).x.f0, .int .i64 (tkL l p).x.f1, .int .i64 (tkL l p).x.f2, .int .i64 (tkL l p).x.f3, .int .i64 (tkL l p).x.f4, .slice Aq2 (tkL l p).q.length cq2, .int .i64 (tkL l p).base, .int .i64 (tkL l p).out, .int .i64 (tkL l p).want, .slice Ae2 (tkL l p).er.length ce2, .slice At nt ct, .slice Ao np co, .int .i64 (tkE l p)] rfl rfl 87 _ HJ.out.box info87s rfl (by rw [List.all_toArray]; rfl) ?_
                  refine hK.out _ _ ?_
                  clear hK K
                  refine done_ (by kernel_rfl) ?_
                  have HB4 := Aside0.mk (setRow_heap W3 b _ #[.int .i64 (tkL l p).x.f0, .int .i64 (tkL l p).x.f1, .int .i64 (tkL l p).x.f2, .int .i64 (tkL l p).x.f3, .int .i64 (tkL l p).x.f4, .slice Aq2 (tkL l p).q.length cq2, .int .i64 (tkL l p).base, .int .i64 (tkL l p).out, .int .i64 (tkL l p).want, .slice Ae2 (tkL l p).er.length ce2, .slice At nt ct, .slice Ao np co, .int .i64 (tkE l p)] 87 (0, 0) HJ.out.box)
                  have HD3 := Aside0.mk (keepB HPd.out.bd HJ.out.below)
                  have hne : gd ≠ b := by have := blk_lt HPd.out.bd; have := HJ.out.new; omega
                  have HD4 := Aside0.mk ((setRow_other W3 b gd #[.int .i64 (tkL l p).x.f0, .int .i64 (tkL l p).x.f1, .int .i64 (tkL l p).x.f2, .int .i64 (tkL l p).x.f3, .int .i64 (tkL l p).x.f4, .slice Aq2 (tkL l p).q.length cq2, .int .i64 (tkL l p).base, .int .i64 (tkL l p).out, .int .i64 (tkL l p).want, .slice Ae2 (tkL l p).er.length ce2, .slice At nt ct, .slice Ao np co, .int .i64 (tkE l p)] hne).trans HD3.out)
                  have y0 : (W3.setRow b #[.int .i64 (tkL l p).x.f0, .int .i64 (tkL l p).x.f1, .int .i64 (tkL l p).x.f2, .int .i64 (tkL l p).x.f3, .int .i64 (tkL l p).x.f4, .slice Aq2 (tkL l p).q.length cq2, .int .i64 (tkL l p).base, .int .i64 (tkL l p).out, .int .i64 (tkL l p).want, .slice Ae2 (tkL l p).er.length ce2, .slice At nt ct, .slice Ao np co, .int .i64 (tkE l p)]).cell? ⟨b, 0, none⟩ = some (.int .i64 (tkL l p).x.f0) := (blk_cell HB4.out 0).trans rfl
                  have y1 : (W3.setRow b #[.int .i64 (tkL l p).x.f0, .int .i64 (tkL l p).x.f1, .int .i64 (tkL l p).x.f2, .int .i64 (tkL l p).x.f3, .int .i64 (tkL l p).x.f4, .slice Aq2 (tkL l p).q.length cq2, .int .i64 (tkL l p).base, .int .i64 (tkL l p).out, .int .i64 (tkL l p).want, .slice Ae2 (tkL l p).er.length ce2, .slice At nt ct, .slice Ao np co, .int .i64 (tkE l p)]).cell? ⟨b, 1, none⟩ = some (.int .i64 (tkL l p).x.f1) := (blk_cell HB4.out 1).trans rfl
                  have y2 : (W3.setRow b #[.int .i64 (tkL l p).x.f0, .int .i64 (tkL l p).x.f1, .int .i64 (tkL l p).x.f2, .int .i64 (tkL l p).x.f3, .int .i64 (tkL l p).x.f4, .slice Aq2 (tkL l p).q.length cq2, .int .i64 (tkL l p).base, .int .i64 (tkL l p).out, .int .i64 (tkL l p).want, .slice Ae2 (tkL l p).er.length ce2, .slice At nt ct, .slice Ao np co, .int .i64 (tkE l p)]).cell? ⟨b, 2, none⟩ = some (.int .i64 (tkL l p).x.f2) := (blk_cell HB4.out 2).trans rfl
                  have y3 : (W3.setRow b #[.int .i64 (tkL l p).x.f0, .int .i64 (tkL l p).x.f1, .int .i64 (tkL l p).x.f2, .int .i64 (tkL l p).x.f3, .int .i64 (tkL l p).x.f4, .slice Aq2 (tkL l p).q.length cq2, .int .i64 (tkL l p).base, .int .i64 (tkL l p).out, .int .i64 (tkL l p).want, .slice Ae2 (tkL l p).er.length ce2, .slice At nt ct, .slice Ao np co, .int .i64 (tkE l p)]).cell? ⟨b, 3, none⟩ = some (.int .i64 (tkL l p).x.f3) := (blk_cell HB4.out 3).trans rfl
                  have y4 : (W3.setRow b #[.int .i64 (tkL l p).x.f0, .int .i64 (tkL l p).x.f1, .int .i64 (tkL l p).x.f2, .int .i64 (tkL l p).x.f3, .int .i64 (tkL l p).x.f4, .slice Aq2 (tkL l p).q.length cq2, .int .i64 (tkL l p).base, .int .i64 (tkL l p).out, .int .i64 (tkL l p).want, .slice Ae2 (tkL l p).er.length ce2, .slice At nt ct, .slice Ao np co, .int .i64 (tkE l p)]).cell? ⟨b, 4, none⟩ = some (.int .i64 (tkL l p).x.f4) := (blk_cell HB4.out 4).trans rfl
                  have y5 : (W3.setRow b #[.int .i64 (tkL l p).x.f0, .int .i64 (tkL l p).x.f1, .int .i64 (tkL l p).x.f2, .int .i64 (tkL l p).x.f3, .int .i64 (tkL l p).x.f4, .slice Aq2 (tkL l p).q.length cq2, .int .i64 (tkL l p).base, .int .i64 (tkL l p).out, .int .i64 (tkL l p).want, .slice Ae2 (tkL l p).er.length ce2, .slice At nt ct, .slice Ao np co, .int .i64 (tkE l p)]).cell? ⟨b, 5, none⟩ = some (.slice Aq2 (tkL l p).q.length cq2) := (blk_cell HB4.out 5).trans rfl
                  have y6 : (W3.setRow b #[.int .i64 (tkL l p).x.f0, .int .i64 (tkL l p).x.f1, .int .i64 (tkL l p).x.f2, .int .i64 (tkL l p).x.f3, .int .i64 (tkL l p).x.f4, .slice Aq2 (tkL l p).q.length cq2, .int .i64 (tkL l p).base, .int .i64 (tkL l p).out, .int .i64 (tkL l p).want, .slice Ae2 (tkL l p).er.length ce2, .slice At nt ct, .slice Ao np co, .int .i64 (tkE l p)]).cell? ⟨b, 6, none⟩ = some (.int .i64 (tkL l p).base) := (blk_cell HB4.out 6).trans rfl
                  have y7 : (W3.setRow b #[.int .i64 (tkL l p).x.f0, .int .i64 (tkL l p).x.f1, .int .i64 (tkL l p).x.f2, .int .i64 (tkL l p).x.f3, .int .i64 (tkL l p).x.f4, .slice Aq2 (tkL l p).q.length cq2, .int .i64 (tkL l p).base, .int .i64 (tkL l p).out, .int .i64 (tkL l p).want, .slice Ae2 (tkL l p).er.length ce2, .slice At nt ct, .slice Ao np co, .int .i64 (tkE l p)]).cell? ⟨b, 7, none⟩ = some (.int .i64 (tkL l p).out) := (blk_cell HB4.out 7).trans rfl
                  have y8 : (W3.setRow b #[.int .i64 (tkL l p).x.f0, .int .i64 (tkL l p).x.f1, .int .i64 (tkL l p).x.f2, .int .i64 (tkL l p).x.f3, .int .i64 (tkL l p).x.f4, .slice Aq2 (tkL l p).q.length cq2, .int .i64 (tkL l p).base, .int .i64 (tkL l p).out, .int .i64 (tkL l p).want, .slice Ae2 (tkL l p).er.length ce2, .slice At nt ct, .slice Ao np co, .int .i64 (tkE l p)]).cell? ⟨b, 8, none⟩ = some (.int .i64 (tkL l p).want) := (blk_cell HB4.out 8).trans rfl
                  have y9 : (W3.setRow b #[.int .i64 (tkL l p).x.f0, .int .i64 (tkL l p).x.f1, .int .i64 (tkL l p).x.f2, .int .i64 (tkL l p).x.f3, .int .i64 (tkL l p).x.f4, .slice Aq2 (tkL l p).q.length cq2, .int .i64 (tkL l p).base, .int .i64 (tkL l p).out, .int .i64 (tkL l p).want, .slice Ae2 (tkL l p).er.length ce2, .slice At nt ct, .slice Ao np co, .int .i64 (tkE l p)]).cell? ⟨b, 9, none⟩ = some (.slice Ae2 (tkL l p).er.length ce2) := (blk_cell HB4.out 9).trans rfl
                  go_wp2_with (first
                    | ((with_reducible refine gate_store (t := 81) (p := 6) rfl ?_); refine wpList_store_row rfl 81 (.tmp 6) (.tmp 125) rfl gd #[.int .i64 (tkL l p).x.f0, .int .i64 (tkL l p).x.f1, .int .i64 (tkL l p).x.f2, .int .i64 (tkL l p).x.f3, .int .i64 (tkL l p).x.f4, .slice Aq2 (tkL l p).q.length cq2, .int .i64 (tkL l p).base, .int .i64 (tkL l p).out, .int .i64 (tkL l p).want, .slice Ae2 (tkL l p).er.length ce2] rfl rfl 81 _ HD4.out info81s rfl (by rw [List.all_toArray]; rfl) ?_))
                  try simp only [Act.put, List.setIfInBounds_toArray, List.set_cons_zero, List.set_cons_succ]
                  clear y0 y1 y2 y3 y4 y5 y6 y7 y8 y9
                  have HP5 := Aside0.mk (J1.pl HPd.out HJ.out #[.int .i64 (tkL l p).x.f0, .int .i64 (tkL l p).x.f1, .int .i64 (tkL l p).x.f2, .int .i64 (tkL l p).x.f3, .int .i64 (tkL l p).x.f4, .slice Aq2 (tkL l p).q.length cq2, .int .i64 (tkL l p).base, .int .i64 (tkL l p).out, .int .i64 (tkL l p).want, .slice Ae2 (tkL l p).er.length ce2, .slice At nt ct, .slice Ao np co, .int .i64 (tkE l p)])
                  have HB5 := Aside0.mk ((setRow_other (W3.setRow b #[.int .i64 (tkL l p).x.f0, .int .i64 (tkL l p).x.f1, .int .i64 (tkL l p).x.f2, .int .i64 (tkL l p).x.f3, .int .i64 (tkL l p).x.f4, .slice Aq2 (tkL l p).q.length cq2, .int .i64 (tkL l p).base, .int .i64 (tkL l p).out, .int .i64 (tkL l p).want, .slice Ae2 (tkL l p).er.length ce2, .slice At nt ct, .slice Ao np co, .int .i64 (tkE l p)]) gd b #[.int .i64 (tkL l p).x.f0, .int .i64 (tkL l p).x.f1, .int .i64 (tkL l p).x.f2, .int .i64 (tkL l p).x.f3, .int .i64 (tkL l p).x.f4, .slice Aq2 (tkL l p).q.length cq2, .int .i64 (tkL l p).base, .int .i64 (tkL l p).out, .int .i64 (tkL l p).want, .slice Ae2 (tkL l p).er.length ce2] (Ne.symm hne)).trans HB4.out)
                  have HOP5 := Aside0.mk (R_two HOP.out HJ.out.below HJ.out.box HD3.out (k28_types (by decide)) (k28_types (by decide)) #[.int .i64 (tkL l p).x.f0, .int .i64 (tkL l p).x.f1, .int .i64 (tkL l p).x.f2, .int .i64 (tkL l p).x.f3, .int .i64 (tkL l p).x.f4, .slice Aq2 (tkL l p).q.length cq2, .int .i64 (tkL l p).base, .int .i64 (tkL l p).out, .int .i64 (tkL l p).want, .slice Ae2 (tkL l p).er.length ce2, .slice At nt ct, .slice Ao np co, .int .i64 (tkE l p)] #[.int .i64 (tkL l p).x.f0, .int .i64 (tkL l p).x.f1, .int .i64 (tkL l p).x.f2, .int .i64 (tkL l p).x.f3, .int .i64 (tkL l p).x.f4, .slice Aq2 (tkL l p).q.length cq2, .int .i64 (tkL l p).base, .int .i64 (tkL l p).out, .int .i64 (tkL l p).want, .slice Ae2 (tkL l p).er.length ce2])
                  have HO5 := Aside0.mk (R_two ho5 (Below.refl _ _) HJ.out.box HD3.out (k58_types (by decide)) (k58_types (by decide)) #[.int .i64 (tkL l p).x.f0, .int .i64 (tkL l p).x.f1, .int .i64 (tkL l p).x.f2, .int .i64 (tkL l p).x.f3, .int .i64 (tkL l p).x.f4, .slice Aq2 (tkL l p).q.length cq2, .int .i64 (tkL l p).base, .int .i64 (tkL l p).out, .int .i64 (tkL l p).want, .slice Ae2 (tkL l p).er.length ce2, .slice At nt ct, .slice Ao np co, .int .i64 (tkE l p)] #[.int .i64 (tkL l p).x.f0, .int .i64 (tkL l p).x.f1, .int .i64 (tkL l p).x.f2, .int .i64 (tkL l p).x.f3, .int .i64 (tkL l p).x.f4, .slice Aq2 (tkL l p).q.length cq2, .int .i64 (tkL l p).base, .int .i64 (tkL l p).out, .int .i64 (tkL l p).want, .slice Ae2 (tkL l p).er.length ce2])
                  have HTP5 := Aside0.mk (R_two HTP.out HJ.out.below HJ.out.box HD3.out (string_types (by decide)) (string_types (by decide)) #[.int .i64 (tkL l p).x.f0, .int .i64 (tkL l p).x.f1, .int .i64 (tkL l p).x.f2, .int .i64 (tkL l p).x.f3, .int .i64 (tkL l p).x.f4, .slice Aq2 (tkL l p).q.length cq2, .int .i64 (tkL l p).base, .int .i64 (tkL l p).out, .int .i64 (tkL l p).want, .slice Ae2 (tkL l p).er.length ce2, .slice At nt ct, .slice Ao np co, .int .i64 (tkE l p)] #[.int .i64 (tkL l p).x.f0, .int .i64 (tkL l p).x.f1, .int .i64 (tkL l p).x.f2, .int .i64 (tkL l p).x.f3, .int .i64 (tkL l p).x.f4, .slice Aq2 (tkL l p).q.length cq2, .int .i64 (tkL l p).base, .int .i64 (tkL l p).out, .int .i64 (tkL l p).want, .slice Ae2 (tkL l p).er.length ce2])
                  have HT5 := Aside0.mk (R_two ht5 (Below.refl _ _) HJ.out.box HD3.out (string_types (by decide)) (string_types (by decide)) #[.int .i64 (tkL l p).x.f0, .int .i64 (tkL l p).x.f1, .int .i64 (tkL l p).x.f2, .int .i64 (tkL l p).x.f3, .int .i64 (tkL l p).x.f4, .slice Aq2 (tkL l p).q.length cq2, .int .i64 (tkL l p).base, .int .i64 (tkL l p).out, .int .i64 (tkL l p).want, .slice Ae2 (tkL l p).er.length ce2, .slice At nt ct, .slice Ao np co, .int .i64 (tkE l p)] #[.int .i64 (tkL l p).x.f0, .int .i64 (tkL l p).x.f1, .int .i64 (tkL l p).x.f2, .int .i64 (tkL l p).x.f3, .int .i64 (tkL l p).x.f4, .slice Aq2 (tkL l p).q.length cq2, .int .i64 (tkL l p).base, .int .i64 (tkL l p).out, .int .i64 (tkL l p).want, .slice Ae2 (tkL l p).er.length ce2])
                  clear ht5 HTP
                  clear HB4 HD3 HD4 HJ ho5 HOP HPd HP1
                  generalize hw5 : (W3.setRow b #[.int .i64 (tkL l p).x.f0, .int .i64 (tkL l p).x.f1, .int .i64 (tkL l p).x.f2, .int .i64 (tkL l p).x.f3, .int .i64 (tkL l p).x.f4, .slice Aq2 (tkL l p).q.length cq2, .int .i64 (tkL l p).base, .int .i64 (tkL l p).out, .int .i64 (tkL l p).want, .slice Ae2 (tkL l p).er.length ce2, .slice At nt ct, .slice Ao np co, .int .i64 (tkE l p)]).setRow gd #[.int .i64 (tkL l p).x.f0, .int .i64 (tkL l p).x.f1, .int .i64 (tkL l p).x.f2, .int .i64 (tkL l p).x.f3, .int .i64 (tkL l p).x.f4, .slice Aq2 (tkL l p).q.length cq2, .int .i64 (tkL l p).base, .int .i64 (tkL l p).out, .int .i64 (tkL l p).want, .slice Ae2 (tkL l p).er.length ce2] = w5 at *
                  clear hw5
                  have HBd := Aside0.mk (blk_drew HB5.out)
                  have HPe := Aside0.mk (HP5.out.bel (below_drew1 (Below.refl _ _)))
                  have HOPd := Aside0.mk (Kd.R_drew HOP5.out)
                  have HOd := Aside0.mk (Kd.R_drew HO5.out)
                  have HTPd := Aside0.mk (Kd.R_drew HTP5.out)
                  have HTd := Aside0.mk (Kd.R_drew HT5.out)
                  clear HTP5 HT5
                  clear HB5 HP5 HOP5 HO5
                  refine start_ (n := 19) (S := fun w' => Below w5.drew.heap.size w5.drew w' ∧ True) (ds := []) #[false, false, false, false, false, false, false, false, false, false, false, false, false, false, false, false, false, false, false] (by kernel_rfl) rfl rfl ⟨Below.refl _ _, trivial⟩ (fun hHeld => ?_)
                  refine pure_ (i := 0) (N := some 126) (v := ?_) (a' := ?_) #[true, false, false, false, false, false, false, false, false, false, false, false, false, false, false, false, false, false, false] rfl rfl (by kernel_rfl) (fun _ _ _ h => h) (Or.inl ⟨by rfl, ?_⟩) ?_ ?_
                  rotate_left
                  · intro w'; go_simp; with_reducible rfl
                  rotate_left
                  · simp only [Act.put, List.setIfInBounds_toArray, List.set_cons_zero, List.set_cons_succ, i64_w, i32_w]; rfl
                  refine pure_ (i := 1) (N := some 127) (v := ?_) (a' := ?_) #[true, true, false, false, false, false, false, false, false, false, false, false, false, false, false, false, false, false, false] rfl rfl (by kernel_rfl) (fun _ _ _ h => h) (Or.inl ⟨by rfl, ?_⟩) ?_ ?_
                  rotate_left
                  · intro w'; go_simp; with_reducible rfl
                  rotate_left
                  · simp only [Act.put, List.setIfInBounds_toArray, List.set_cons_zero, List.set_cons_succ, i64_w, i32_w]; rfl
                  generalize hwe : w5.drew = we at *
                  clear hwe
                  refine take_ (i := 2) (N := some 128) (v := ?_) (a' := ?_) #[true, true, true, false, false, false, false, false, false, false, false, false, false, false, false, false, false, false, false] rfl rfl (by kernel_rfl) (fun _ _ _ h => h) (Or.inl ⟨by rfl, ?_⟩) hHeld ?_ ?_
                  rotate_left
                  · rintro w' ⟨s0, _⟩
                    have y0 := (blk_cell (keepB HBd.out s0) 12).trans (show _ = some (.int .i64 (tkE l p)) from rfl)
                    go_simp; with_reducible rfl
                  rotate_left
                  · simp only [Act.put, List.setIfInBounds_toArray, List.set_cons_zero, List.set_cons_succ, i64_w, i32_w]; rfl
                  refine pure_ (i := 3) (N := some 129) (v := ?_) (a' := ?_) #[true, true, true, true, false, false, false, false, false, false, false, false, false, false, false, false, false, false, false] rfl rfl (by kernel_rfl) (fun _ _ _ h => h) (Or.inl ⟨by rfl, ?_⟩) ?_ ?_
                  rotate_left
                  · intro w'; go_simp; with_reducible rfl
                  rotate_left
                  · simp only [Act.put, List.setIfInBounds_toArray, List.set_cons_zero, List.set_cons_succ, i64_w, i32_w]; rfl
                  refine pure_ (i := 4) (N := some 130) (v := ?_) (a' := ?_) #[true, true, true, true, true, false, false, false, false, false, false, false, false, false, false, false, false, false, false] rfl rfl (by kernel_rfl) (fun _ _ _ h => h) (Or.inl ⟨by rfl, ?_⟩) ?_ ?_
                  rotate_left
                  · intro w'; go_simp; with_reducible rfl
                  rotate_left
                  · simp only [Act.put, List.setIfInBounds_toArray, List.set_cons_zero, List.set_cons_succ, i64_w, i32_w]; rfl
                  refine pure_ (i := 5) (N := some 131) (v := ?_) (a' := ?_) #[true, true, true, true, true, true, false, false, false, false, false, false, false, false, false, false, false, false, false] rfl rfl (by kernel_rfl) (fun _ _ _ h => h) (Or.inl ⟨by rfl, ?_⟩) ?_ ?_
                  rotate_left
                  · intro w'; go_simp; with_reducible rfl
                  rotate_left
                  · simp only [Act.put, List.setIfInBounds_toArray, List.set_cons_zero, List.set_cons_succ, i64_w, i32_w]; rfl
                  refine pure_ (i := 7) (N := some 133) (v := ?_) (a' := ?_) #[true, true, true, true, true, true, false, true, false, false, false, false, false, false, false, false, false, false, false] rfl rfl (by kernel_rfl) (fun _ _ _ h => h) (Or.inl ⟨by rfl, ?_⟩) ?_ ?_
                  rotate_left
                  · intro w'; go_simp; with_reducible rfl
                  rotate_left
                  · simp only [Act.put, List.setIfInBounds_toArray, List.set_cons_zero, List.set_cons_succ, i64_w, i32_w]; rfl
                  refine take_ (i := 8) (N := some 134) (v := ?_) (a' := ?_) #[true, true, true, true, true, true, false, true, true, false, false, false, false, false, false, false, false, false, false] rfl rfl (by kernel_rfl) (fun _ _ _ h => h) (Or.inl ⟨by rfl, ?_⟩) hHeld ?_ ?_
                  rotate_left
                  · rintro w' ⟨s0, _⟩
                    have y0 := (blk_cell (keepB HBd.out s0) 11).trans (show _ = some (.slice Ao np co) from rfl)
                    go_simp; with_reducible rfl
                  rotate_left
                  · simp only [Act.put, List.setIfInBounds_toArray, List.set_cons_zero, List.set_cons_succ, i64_w, i32_w]; rfl
                  refine one_ (i := 6) (N := some 132) #[true, true, true, true, true, true, true, true, true, false, false, false, false, false, false, false, false, false, false] rfl rfl (by kernel_rfl) (by decide) (fun K hK => ?_)
                  refine goes_ Try.func47 (by kernel_rfl) rfl #[.slice Ap np cp] (by rfl) rfl rfl (by first | rfl | (simp only [List.map_toArray, List.map_cons, List.map_nil]; rfl)) ?_
                  refine (packets13_n (C_named HOPd.out).2 (C_named HOPd.out).1 (by rw [HNP.out]; have := HN8.out; omega) HNP.out).mono ?_
                  rintro e W6 ⟨o6, rfl, ho6, hb6⟩; obtain ⟨A6, c6, rfl, hc6, ho6⟩ := R_named ho6 HNO.out; have HO6 := Aside0.mk ho6; have HB6 := Aside0.mk hb6; clear ho6 hb6
                  refine ⟨_, rfl, hK.out _ _ ⟨HB6.out, trivial⟩ (fun hHeld => ?_)⟩
                  clear hK K
                  refine norm_ (a' := ?_) ?_ ?_
                  rotate_left
                  · show Act.put _ (some 132) _ = _
                    simp only [Act.put, List.setIfInBounds_toArray, List.set_cons_zero, List.set_cons_succ, i64_w, i32_w]
                    rfl
                  refine one_ (i := 9) (N := some 135) #[true, true, true, true, true, true, true, true, true, true, false, false, false, false, false, false, false, false, false] rfl rfl (by kernel_rfl) (by decide) (fun K hK => ?_)
                  refine goes_ Try.func46 (by kernel_rfl) rfl #[.slice A6 np c6, .slice Ao np co] (by rfl) rfl rfl (by first | rfl | (simp only [List.map_toArray, List.map_cons, List.map_nil]; rfl)) ?_
                  refine (same58_is (C_named HO6.out).2 (C_named HO6.out).1 (C_named (Kd.R_below HOd.out HB6.out)).2 (C_named (Kd.R_below HOd.out HB6.out)).1 (by rw [HNO.out]; have := HN8.out; omega) HNO.out).mono ?_
                  rintro e W7 ⟨rfl, hb7⟩; have HB7 := Aside0.mk (HB6.out.trans (hb7.mono HB6.out.size)); clear hb7
                  refine ⟨_, rfl, hK.out _ _ ⟨HB7.out, trivial⟩ (fun hHeld => ?_)⟩
                  clear hK K
                  refine norm_ (a' := ?_) ?_ ?_
                  rotate_left
                  · show Act.put _ (some 135) _ = _
                    simp only [Act.put, List.setIfInBounds_toArray, List.set_cons_zero, List.set_cons_succ, i64_w, i32_w]
                    rfl
                  refine pure_ (i := 10) (N := some 136) (v := ?_) (a' := ?_) #[true, true, true, true, true, true, true, true, true, true, true, false, false, false, false, false, false, false, false] rfl rfl (by kernel_rfl) (fun _ _ _ h => h) (Or.inl ⟨by rfl, ?_⟩) ?_ ?_
                  rotate_left
                  · intro w'; go_simp; with_reducible rfl
                  rotate_left
                  · simp only [Act.put, List.setIfInBounds_toArray, List.set_cons_zero, List.set_cons_succ, i64_w, i32_w]; rfl
                  refine pure_ (i := 11) (N := some 137) (v := ?_) (a' := ?_) #[true, true, true, true, true, true, true, true, true, true, true, true, false, false, false, false, false, false, false] rfl rfl (by kernel_rfl) (fun _ _ _ h => h) (Or.inl ⟨by rfl, ?_⟩) ?_ ?_
                  rotate_left
                  · intro w'; go_simp; with_reducible rfl
                  rotate_left
                  · simp only [Act.put, List.setIfInBounds_toArray, List.set_cons_zero, List.set_cons_succ, i64_w, i32_w]; rfl
                  refine pure_ (i := 12) (N := some 138) (v := ?_) (a' := ?_) #[true, true, true, true, true, true, true, true, true, true, true, true, true, false, false, false, false, false, false] rfl rfl (by kernel_rfl) (fun _ _ _ h => h) (Or.inl ⟨by rfl, ?_⟩) ?_ ?_
                  rotate_left
                  · intro w'; go_simp; with_reducible rfl
                  rotate_left
                  · simp only [Act.put, List.setIfInBounds_toArray, List.set_cons_zero, List.set_cons_succ, i64_w, i32_w]; rfl
                  refine pure_ (i := 13) (N := some 139) (v := ?_) (a' := ?_) #[true, true, true, true, true, true, true, true, true, true, true, true, true, true, false, false, false, false, false] rfl rfl (by kernel_rfl) (fun _ _ _ h => h) (Or.inl ⟨by rfl, ?_⟩) ?_ ?_
                  rotate_left
                  · intro w'; go_simp; with_reducible rfl
                  rotate_left
                  · simp only [Act.put, List.setIfInBounds_toArray, List.set_cons_zero, List.set_cons_succ, i64_w, i32_w]; rfl
                  refine pure_ (i := 14) (N := some 140) (v := ?_) (a' := ?_) #[true, true, true, true, true, true, true, true, true, true, true, true, true, true, true, false, false, false, false] rfl rfl (by kernel_rfl) (fun _ _ _ h => h) (Or.inl ⟨by rfl, ?_⟩) ?_ ?_
                  rotate_left
                  · intro w'; go_simp; with_reducible rfl
                  rotate_left
                  · simp only [Act.put, List.setIfInBounds_toArray, List.set_cons_zero, List.set_cons_succ, i64_w, i32_w]; rfl
                  refine take_ (i := 15) (N := some 141) (v := ?_) (a' := ?_) #[true, true, true, true, true, true, true, true, true, true, true, true, true, true, true, true, false, false, false] rfl rfl (by kernel_rfl) (fun _ _ _ h => h) (Or.inl ⟨by rfl, ?_⟩) hHeld ?_ ?_
                  rotate_left
                  · rintro w' ⟨s0, _⟩
                    have y0 := (blk_cell (keepB HBd.out s0) 10).trans (show _ = some (.slice At nt ct) from rfl)
                    go_simp; with_reducible rfl
                  rotate_left
                  · simp only [Act.put, List.setIfInBounds_toArray, List.set_cons_zero, List.set_cons_succ, i64_w, i32_w]; rfl
                  refine one_ (i := 16) (N := some 142) #[true, true, true, true, true, true, true, true, true, true, true, true, true, true, true, true, true, false, false] rfl rfl (by kernel_rfl) (by decide) (fun K hK => ?_)
                  refine goes_ Try.func49 (by kernel_rfl) rfl #[.slice Atp nt ctp, .slice At nt ct] (by rfl) rfl rfl (by first | rfl | (simp only [List.map_toArray, List.map_cons, List.map_nil]; rfl)) ?_
                  refine (sameTexts_is (C_named (Kd.R_below HTPd.out HB7.out)).2 (C_named (Kd.R_below HTPd.out HB7.out)).1 (C_named (Kd.R_below HTd.out HB7.out)).2 (C_named (Kd.R_below HTd.out HB7.out)).1 (by rw [HNT.out]; exact HNT8.out) HNT.out).mono ?_
                  rintro e W8 ⟨rfl, hb8⟩; have HB8 := Aside0.mk (HB7.out.trans (hb8.mono HB7.out.size)); clear hb8
                  refine ⟨_, rfl, hK.out _ _ ⟨HB8.out, trivial⟩ (fun hHeld => ?_)⟩
                  clear hK K
                  refine norm_ (a' := ?_) ?_ ?_
                  rotate_left
                  · show Act.put _ (some 142) _ = _
                    simp only [Act.put, List.setIfInBounds_toArray, List.set_cons_zero, List.set_cons_succ, i64_w, i32_w]
                    rfl
                  refine pure_ (i := 17) (N := some 143) (v := ?_) (a' := ?_) #[true, true, true, true, true, true, true, true, true, true, true, true, true, true, true, true, true, true, false] rfl rfl (by kernel_rfl) (fun _ _ _ h => h) (Or.inl ⟨by rfl, ?_⟩) ?_ ?_
                  rotate_left
                  · intro w'; go_simp; with_reducible rfl
                  rotate_left
                  · simp only [Act.put, List.setIfInBounds_toArray, List.set_cons_zero, List.set_cons_succ, i64_w, i32_w]; rfl
                  refine pure_ (i := 18) (N := some 144) (v := ?_) (a' := ?_) #[true, true, true, true, true, true, true, true, true, true, true, true, true, true, true, true, true, true, true] rfl rfl (by kernel_rfl) (fun _ _ _ h => h) (Or.inl ⟨by rfl, ?_⟩) ?_ ?_
                  rotate_left
                  · intro w'; go_simp; with_reducible rfl
                  rotate_left
                  · simp only [Act.put, List.setIfInBounds_toArray, List.set_cons_zero, List.set_cons_succ, i64_w, i32_w]; rfl
                  refine done_ (by kernel_rfl) ?_
                  go_wp2
                  go_meet
                  case rel => exact ⟨tkL l p, v', _, _, ⟨⟨HPe.out.bel HB8.out, HR.out.one.take (by have := HR.out.few; have := HN50.out; omega) p, by have := HR.out.few; have := tkL_er (l := l) p; omega⟩⟩⟩
                · have f1 : (y.f0 == 1) = false := by simpa using k1'
                  by_cases k2' : y.f0 = 2
                  · have f2 : (y.f0 == 2) = true := by rw [k2']; rfl
                    clear k0 k1' k2'
                    obtain ⟨np, hnp⟩ : ∃ np, (outs l 0 l.out).length = np := ⟨_, rfl⟩
                    have HNP := Aside0.mk hnp
                    have HNO := Aside0.mk (show ((outs l 0 l.out).map to58).length = np by rw [List.length_map]; exact hnp)
                    have HN8 := Aside0.mk (show np ≤ 8 by rw [← hnp, outs_len]; exact HR.out.one.bd.o8)
                    clear hnp e1 e2 e3 e4 e5 e6 e7 e8
                    go_wp2
                    clear e0
                    have HPd := Aside0.mk (HR.out.pl.bel (below_drew1 (Below.refl _ _)))
                    refine start_ (n := 7) (S := fun w' => Below wr.drew.heap.size wr.drew w' ∧ True) (ds := []) #[false, false, false, false, false, false, false] (by kernel_rfl) rfl rfl ⟨Below.refl _ _, trivial⟩ (fun hHeld => ?_)
                    refine pure_ (i := 0) (N := some 147) (v := ?_) (a' := ?_) #[true, false, false, false, false, false, false] rfl rfl (by kernel_rfl) (fun _ _ _ h => h) (Or.inl ⟨by rfl, ?_⟩) ?_ ?_
                    rotate_left
                    · intro w'; go_simp; with_reducible rfl
                    rotate_left
                    · simp only [Act.put, List.setIfInBounds_toArray, List.set_cons_zero, List.set_cons_succ, i64_w, i32_w]; rfl
                    generalize hwd : wr.drew = wd at *
                    clear hwd
                    refine take_ (i := 3) (N := some 150) (v := ?_) (a' := ?_) #[true, false, false, true, false, false, false] rfl rfl (by kernel_rfl) (fun _ _ _ h => h) (Or.inl ⟨by rfl, ?_⟩) hHeld ?_ ?_
                    rotate_left
                    · rintro w' ⟨s0, _⟩
                      have y0 := (blk_cell (keepB HPd.out.bd s0) 0).trans (show _ = some (.int .i64 l.x.f0) from rfl)
                      have y1 := (blk_cell (keepB HPd.out.bd s0) 1).trans (show _ = some (.int .i64 l.x.f1) from rfl)
                      have y2 := (blk_cell (keepB HPd.out.bd s0) 2).trans (show _ = some (.int .i64 l.x.f2) from rfl)
                      have y3 := (blk_cell (keepB HPd.out.bd s0) 3).trans (show _ = some (.int .i64 l.x.f3) from rfl)
                      have y4 := (blk_cell (keepB HPd.out.bd s0) 4).trans (show _ = some (.int .i64 l.x.f4) from rfl)
                      have y5 := (blk_cell (keepB HPd.out.bd s0) 5).trans (show _ = some (.slice Aq l.q.length cq) from rfl)
                      have y6 := (blk_cell (keepB HPd.out.bd s0) 6).trans (show _ = some (.int .i64 l.base) from rfl)
                      have y7 := (blk_cell (keepB HPd.out.bd s0) 7).trans (show _ = some (.int .i64 l.out) from rfl)
                      have y8 := (blk_cell (keepB HPd.out.bd s0) 8).trans (show _ = some (.int .i64 l.want) from rfl)
                      have y9 := (blk_cell (keepB HPd.out.bd s0) 9).trans (show _ = some (.slice Ae l.er.length ce) from rfl)
                      go_simp; with_reducible rfl
                    rotate_left
                    · simp only [Act.put, List.setIfInBounds_toArray, List.set_cons_zero, List.set_cons_succ, i64_w, i32_w]; rfl
                    refine one_ (i := 1) (N := some 148) #[true, true, false, true, false, false, false] rfl rfl (by kernel_rfl) (by decide) (fun K hK => ?_)
                    refine goes_ Try.func50 (by kernel_rfl) rfl #[ptr g] (by rfl) rfl rfl (by first | rfl | (simp only [List.map_toArray, List.map_cons, List.map_nil]; rfl)) ?_
                    refine (tick_is HPd.out.lk HR.out.one.bd).mono ?_
                    rintro e W5 ⟨o5, rfl, ho5, hb5⟩; obtain ⟨Ap, cp, rfl, hcp, ho5⟩ := R_named ho5 HNP.out; have HO5 := Aside0.mk ho5; have HB5 := Aside0.mk hb5; clear ho5 hb5
                    refine ⟨_, rfl, hK.out _ _ ⟨HB5.out, trivial⟩ (fun hHeld => ?_)⟩
                    clear hK K
                    refine norm_ (a' := ?_) ?_ ?_
                    rotate_left
                    · show Act.put _ (some 148) _ = _
                      simp only [Act.put, List.setIfInBounds_toArray, List.set_cons_zero, List.set_cons_succ, i64_w, i32_w]
                      rfl
                    refine one_ (i := 2) (N := some 149) #[true, true, true, true, false, false, false] rfl rfl (by kernel_rfl) (by decide) (fun K hK => ?_)
                    refine goes_ Try.func47 (by kernel_rfl) rfl #[.slice Ap np cp] (by rfl) rfl rfl (by first | rfl | (simp only [List.map_toArray, List.map_cons, List.map_nil]; rfl)) ?_
                    refine (packets13_n (C_named HO5.out).2 (C_named HO5.out).1 (by rw [HNP.out]; have := HN8.out; omega) HNP.out).mono ?_
                    rintro e W6 ⟨o6, rfl, ho6, hb6⟩; obtain ⟨A6, c6, rfl, hc6, ho6⟩ := R_named ho6 HNO.out; have HO6 := Aside0.mk ho6; have HB6 := Aside0.mk (HB5.out.trans (hb6.mono HB5.out.size)); clear ho6 hb6
                    refine ⟨_, rfl, hK.out _ _ ⟨HB6.out, trivial⟩ (fun hHeld => ?_)⟩
                    clear hK K
                    refine norm_ (a' := ?_) ?_ ?_
                    rotate_left
                    · show Act.put _ (some 149) _ = _
                      simp only [Act.put, List.setIfInBounds_toArray, List.set_cons_zero, List.set_cons_succ, i64_w, i32_w]
                      rfl
                    refine one_ (i := 4) (N := some 151) #[true, true, true, true, true, false, false] rfl rfl (by kernel_rfl) (by decide) (fun K hK => ?_)
                    refine goes_ Try.func51 (by kernel_rfl) rfl #[.agg #[.int .i64 l.x.f0, .int .i64 l.x.f1, .int .i64 l.x.f2, .int .i64 l.x.f3, .int .i64 l.x.f4, .slice Aq l.q.length cq, .int .i64 l.base, .int .i64 l.out, .int .i64 l.want, .slice Ae l.er.length ce]] (by rfl) rfl rfl (by first | rfl | (simp only [List.map_toArray, List.map_cons, List.map_nil]; rfl)) ?_
                    refine (tick13_is HR.out.one.bd (Kd.C_below (RW_C HPd.out.q).2 HB6.out) hcq (Kd.C_below (RW_Ce HPd.out.e) HB6.out) hce).mono ?_
                    rintro e W7 ⟨o7, rfl, ho7, hb7⟩; obtain ⟨A7, c7, rfl, hc7, ho7⟩ := R_named ho7 HNO.out; have HO7 := Aside0.mk ho7; have HO6b := Aside0.mk (Kd.R_below HO6.out hb7); have HB7 := Aside0.mk (HB6.out.trans (hb7.mono HB6.out.size)); clear ho7 hb7
                    refine ⟨_, rfl, hK.out _ _ ⟨HB7.out, trivial⟩ (fun hHeld => ?_)⟩
                    clear hK K
                    refine norm_ (a' := ?_) ?_ ?_
                    rotate_left
                    · show Act.put _ (some 151) _ = _
                      simp only [Act.put, List.setIfInBounds_toArray, List.set_cons_zero, List.set_cons_succ, i64_w, i32_w]
                      rfl
                    refine one_ (i := 5) (N := some 152) #[true, true, true, true, true, true, false] rfl rfl (by kernel_rfl) (by decide) (fun K hK => ?_)
                    refine goes_ Try.func46 (by kernel_rfl) rfl #[.slice A6 np c6, .slice A7 np c7] (by rfl) rfl rfl (by first | rfl | (simp only [List.map_toArray, List.map_cons, List.map_nil]; rfl)) ?_
                    refine (same58_is (C_named HO6b.out).2 (C_named HO6b.out).1 (C_named HO7.out).2 (C_named HO7.out).1 (by rw [HNO.out]; have := HN8.out; omega) HNO.out).mono ?_
                    rintro e W8 ⟨rfl, hb8⟩; have HB8 := Aside0.mk (HB7.out.trans (hb8.mono HB7.out.size)); clear hb8
                    refine ⟨_, rfl, hK.out _ _ ⟨HB8.out, trivial⟩ (fun hHeld => ?_)⟩
                    clear hK K
                    refine norm_ (a' := ?_) ?_ ?_
                    rotate_left
                    · show Act.put _ (some 152) _ = _
                      simp only [Act.put, List.setIfInBounds_toArray, List.set_cons_zero, List.set_cons_succ, i64_w, i32_w]
                      rfl
                    refine pure_ (i := 6) (N := some 153) (v := ?_) (a' := ?_) #[true, true, true, true, true, true, true] rfl rfl (by kernel_rfl) (fun _ _ _ h => h) (Or.inl ⟨by rfl, ?_⟩) ?_ ?_
                    rotate_left
                    · intro w'; go_simp; with_reducible rfl
                    rotate_left
                    · simp only [Act.put, List.setIfInBounds_toArray, List.set_cons_zero, List.set_cons_succ, i64_w, i32_w]; rfl
                    refine done_ (by kernel_rfl) ?_
                    go_wp2
                    go_meet
                    case rel => exact ⟨l, v, _, _, ⟨⟨HPd.out.bel HB8.out, HR.out.one, by have := HR.out.few; omega⟩⟩⟩
                  · have f2 : (y.f0 == 2) = false := by simpa using k2'
                    clear k0 k1' k2'
                    go_wp2
                    go_meet
                    case rel => exact ⟨l, v, _, _, ⟨⟨HR.out.pl, HR.out.one, by have := HR.out.few; omega⟩⟩⟩
            case rest =>
            clear e0 e1 e2 e3 e4 e5 e6 e7 e8 HR
            obtain ⟨l2, v2, vq2, ve2, HR2⟩ := hcut
            obtain ⟨Aq2, cq2, rfl, hcq2, _⟩ := HR2.out.pl.q
            obtain ⟨Ae2, ce2, rfl, hce2, _⟩ := HR2.out.pl.e
            rw [erS_len] at HR2
            go_wp2
            have HPd := Aside0.mk (HR2.out.pl.bel (below_drew1 (Below.refl _ _)))
            refine start_ (n := 28) (S := fun w' => Below wc.drew.heap.size wc.drew w' ∧ True) (ds := []) #[false, false, false, false, false, false, false, false, false, false, false, false, false, false, false, false, false, false, false, false, false, false, false, false, false, false, false, false] (by kernel_rfl) rfl rfl ⟨Below.refl _ _, trivial⟩ (fun hHeld => ?_)
            refine pure_ (i := 0) (N := some 154) (v := ?_) (a' := ?_) #[true, false, false, false, false, false, false, false, false, false, false, false, false, false, false, false, false, false, false, false, false, false, false, false, false, false, false, false] rfl rfl (by kernel_rfl) (fun _ _ _ h => h) (Or.inl ⟨by rfl, ?_⟩) ?_ ?_
            rotate_left
            · intro w'; go_simp; with_reducible rfl
            rotate_left
            · simp only [Act.put, List.setIfInBounds_toArray, List.set_cons_zero, List.set_cons_succ, i64_w, i32_w]; rfl
            generalize hwd : wc.drew = wd at *
            clear hwd
            refine pure_ (i := 2) (N := some 156) (v := ?_) (a' := ?_) #[true, false, true, false, false, false, false, false, false, false, false, false, false, false, false, false, false, false, false, false, false, false, false, false, false, false, false, false] rfl rfl (by kernel_rfl) (fun _ _ _ h => h) (Or.inl ⟨by rfl, ?_⟩) ?_ ?_
            rotate_left
            · intro w'; go_simp; with_reducible rfl
            rotate_left
            · simp only [Act.put, List.setIfInBounds_toArray, List.set_cons_zero, List.set_cons_succ, i64_w, i32_w]; rfl
            refine take_ (i := 3) (N := some 157) (v := ?_) (a' := ?_) #[true, false, true, true, false, false, false, false, false, false, false, false, false, false, false, false, false, false, false, false, false, false, false, false, false, false, false, false] rfl rfl (by kernel_rfl) (fun _ _ _ h => h) (Or.inl ⟨by rfl, ?_⟩) hHeld ?_ ?_
            rotate_left
            · rintro w' ⟨s0, _⟩
              have y0 := (blk_cell (keepB HPd.out.bd s0) 5).trans (show _ = some (.slice Aq2 l2.q.length cq2) from rfl)
              go_simp; with_reducible rfl
            rotate_left
            · simp only [Act.put, List.setIfInBounds_toArray, List.set_cons_zero, List.set_cons_succ, i64_w, i32_w]; rfl
            refine pure_ (i := 4) (N := some 158) (v := ?_) (a' := ?_) #[true, false, true, true, true, false, false, false, false, false, false, false, false, false, false, false, false, false, false, false, false, false, false, false, false, false, false, false] rfl rfl (by kernel_rfl) (fun _ _ _ h => h) (Or.inl ⟨by rfl, ?_⟩) ?_ ?_
            rotate_left
            · intro w'; go_simp; with_reducible rfl
            rotate_left
            · simp only [Act.put, List.setIfInBounds_toArray, List.set_cons_zero, List.set_cons_succ, i64_w, i32_w]; rfl
            refine one_ (i := 1) (N := some 155) #[true, true, true, true, true, false, false, false, false, false, false, false, false, false, false, false, false, false, false, false, false, false, false, false, false, false, false, false] rfl rfl (by kernel_rfl) (by decide) (fun K hK => ?_)
            refine goes_ Try.func40 (by kernel_rfl) rfl #[ptr g] (by rfl) rfl rfl (by first | rfl | (simp only [List.map_toArray, List.map_cons, List.map_nil]; rfl)) ?_
            refine (left_is HPd.out.lk).mono ?_
            rintro e W5 ⟨rfl, hb5⟩; have HB5 := Aside0.mk hb5; clear hb5
            refine ⟨_, rfl, hK.out _ _ ⟨HB5.out, trivial⟩ (fun hHeld => ?_)⟩
            clear hK K
            refine norm_ (a' := ?_) ?_ ?_
            rotate_left
            · show Act.put _ (some 155) _ = _
              simp only [Act.put, List.setIfInBounds_toArray, List.set_cons_zero, List.set_cons_succ, i64_w, i32_w]
              rfl
            refine pure_ (i := 5) (N := some 159) (v := ?_) (a' := ?_) #[true, true, true, true, true, true, false, false, false, false, false, false, false, false, false, false, false, false, false, false, false, false, false, false, false, false, false, false] rfl rfl (by kernel_rfl) (fun _ _ _ h => h) (Or.inl ⟨by rfl, ?_⟩) ?_ ?_
            rotate_left
            · intro w'; go_simp; with_reducible rfl
            rotate_left
            · simp only [Act.put, List.setIfInBounds_toArray, List.set_cons_zero, List.set_cons_succ, i64_w, i32_w]; rfl
            refine pure_ (i := 6) (N := some 160) (v := ?_) (a' := ?_) #[true, true, true, true, true, true, true, false, false, false, false, false, false, false, false, false, false, false, false, false, false, false, false, false, false, false, false, false] rfl rfl (by kernel_rfl) (fun _ _ _ h => h) (Or.inl ⟨by rfl, ?_⟩) ?_ ?_
            rotate_left
            · intro w'; go_simp; with_reducible rfl
            rotate_left
            · simp only [Act.put, List.setIfInBounds_toArray, List.set_cons_zero, List.set_cons_succ, i64_w, i32_w]; rfl
            refine pure_ (i := 7) (N := some 161) (v := ?_) (a' := ?_) #[true, true, true, true, true, true, true, true, false, false, false, false, false, false, false, false, false, false, false, false, false, false, false, false, false, false, false, false] rfl rfl (by kernel_rfl) (fun _ _ _ h => h) (Or.inl ⟨by rfl, ?_⟩) ?_ ?_
            rotate_left
            · intro w'; go_simp; with_reducible rfl
            rotate_left
            · simp only [Act.put, List.setIfInBounds_toArray, List.set_cons_zero, List.set_cons_succ, i64_w, i32_w]; rfl
            refine pure_ (i := 9) (N := some 163) (v := ?_) (a' := ?_) #[true, true, true, true, true, true, true, true, false, true, false, false, false, false, false, false, false, false, false, false, false, false, false, false, false, false, false, false] rfl rfl (by kernel_rfl) (fun _ _ _ h => h) (Or.inl ⟨by rfl, ?_⟩) ?_ ?_
            rotate_left
            · intro w'; go_simp; with_reducible rfl
            rotate_left
            · simp only [Act.put, List.setIfInBounds_toArray, List.set_cons_zero, List.set_cons_succ, i64_w, i32_w]; rfl
            refine take_ (i := 10) (N := some 164) (v := ?_) (a' := ?_) #[true, true, true, true, true, true, true, true, false, true, true, false, false, false, false, false, false, false, false, false, false, false, false, false, false, false, false, false] rfl rfl (by kernel_rfl) (fun _ _ _ h => h) (Or.inl ⟨by rfl, ?_⟩) hHeld ?_ ?_
            rotate_left
            · rintro w' ⟨s0, _⟩
              have y0 := (blk_cell (keepB HPd.out.bd s0) 6).trans (show _ = some (.int .i64 l2.base) from rfl)
              go_simp; with_reducible rfl
            rotate_left
            · simp only [Act.put, List.setIfInBounds_toArray, List.set_cons_zero, List.set_cons_succ, i64_w, i32_w]; rfl
            refine one_ (i := 8) (N := some 162) #[true, true, true, true, true, true, true, true, true, true, true, false, false, false, false, false, false, false, false, false, false, false, false, false, false, false, false, false] rfl rfl (by kernel_rfl) (by decide) (fun K hK => ?_)
            refine goes_ Try.func41 (by kernel_rfl) rfl #[ptr g] (by rfl) rfl rfl (by first | rfl | (simp only [List.map_toArray, List.map_cons, List.map_nil]; rfl)) ?_
            refine (base_is (HPd.out.lk.below HB5.out)).mono ?_
            rintro e W6 ⟨rfl, hb6⟩; have HB6 := Aside0.mk (HB5.out.trans (hb6.mono HB5.out.size)); clear hb6
            refine ⟨_, rfl, hK.out _ _ ⟨HB6.out, trivial⟩ (fun hHeld => ?_)⟩
            clear hK K
            refine norm_ (a' := ?_) ?_ ?_
            rotate_left
            · show Act.put _ (some 162) _ = _
              simp only [Act.put, List.setIfInBounds_toArray, List.set_cons_zero, List.set_cons_succ, i64_w, i32_w]
              rfl
            refine pure_ (i := 11) (N := some 165) (v := ?_) (a' := ?_) #[true, true, true, true, true, true, true, true, true, true, true, true, false, false, false, false, false, false, false, false, false, false, false, false, false, false, false, false] rfl rfl (by kernel_rfl) (fun _ _ _ h => h) (Or.inl ⟨by rfl, ?_⟩) ?_ ?_
            rotate_left
            · intro w'; go_simp; with_reducible rfl
            rotate_left
            · simp only [Act.put, List.setIfInBounds_toArray, List.set_cons_zero, List.set_cons_succ, i64_w, i32_w]; rfl
            refine pure_ (i := 12) (N := some 166) (v := ?_) (a' := ?_) #[true, true, true, true, true, true, true, true, true, true, true, true, true, false, false, false, false, false, false, false, false, false, false, false, false, false, false, false] rfl rfl (by kernel_rfl) (fun _ _ _ h => h) (Or.inl ⟨by rfl, ?_⟩) ?_ ?_
            rotate_left
            · intro w'; go_simp; with_reducible rfl
            rotate_left
            · simp only [Act.put, List.setIfInBounds_toArray, List.set_cons_zero, List.set_cons_succ, i64_w, i32_w]; rfl
            refine pure_ (i := 13) (N := some 167) (v := ?_) (a' := ?_) #[true, true, true, true, true, true, true, true, true, true, true, true, true, true, false, false, false, false, false, false, false, false, false, false, false, false, false, false] rfl rfl (by kernel_rfl) (fun _ _ _ h => h) (Or.inl ⟨by rfl, ?_⟩) ?_ ?_
            rotate_left
            · intro w'; go_simp; with_reducible rfl
            rotate_left
            · simp only [Act.put, List.setIfInBounds_toArray, List.set_cons_zero, List.set_cons_succ, i64_w, i32_w]; rfl
            refine pure_ (i := 14) (N := some 168) (v := ?_) (a' := ?_) #[true, true, true, true, true, true, true, true, true, true, true, true, true, true, true, false, false, false, false, false, false, false, false, false, false, false, false, false] rfl rfl (by kernel_rfl) (fun _ _ _ h => h) (Or.inl ⟨by rfl, ?_⟩) ?_ ?_
            rotate_left
            · intro w'; go_simp; with_reducible rfl
            rotate_left
            · simp only [Act.put, List.setIfInBounds_toArray, List.set_cons_zero, List.set_cons_succ, i64_w, i32_w]; rfl
            refine pure_ (i := 16) (N := some 170) (v := ?_) (a' := ?_) #[true, true, true, true, true, true, true, true, true, true, true, true, true, true, true, false, true, false, false, false, false, false, false, false, false, false, false, false] rfl rfl (by kernel_rfl) (fun _ _ _ h => h) (Or.inl ⟨by rfl, ?_⟩) ?_ ?_
            rotate_left
            · intro w'; go_simp; with_reducible rfl
            rotate_left
            · simp only [Act.put, List.setIfInBounds_toArray, List.set_cons_zero, List.set_cons_succ, i64_w, i32_w]; rfl
            refine take_ (i := 17) (N := some 171) (v := ?_) (a' := ?_) #[true, true, true, true, true, true, true, true, true, true, true, true, true, true, true, false, true, true, false, false, false, false, false, false, false, false, false, false] rfl rfl (by kernel_rfl) (fun _ _ _ h => h) (Or.inl ⟨by rfl, ?_⟩) hHeld ?_ ?_
            rotate_left
            · rintro w' ⟨s0, _⟩
              have y0 := (blk_cell (keepB HPd.out.bd s0) 8).trans (show _ = some (.int .i64 l2.want) from rfl)
              go_simp; with_reducible rfl
            rotate_left
            · simp only [Act.put, List.setIfInBounds_toArray, List.set_cons_zero, List.set_cons_succ, i64_w, i32_w]; rfl
            refine one_ (i := 15) (N := some 169) #[true, true, true, true, true, true, true, true, true, true, true, true, true, true, true, true, true, true, false, false, false, false, false, false, false, false, false, false] rfl rfl (by kernel_rfl) (by decide) (fun K hK => ?_)
            refine goes_ Try.func52 (by kernel_rfl) rfl #[ptr g] (by rfl) rfl rfl (by first | rfl | (simp only [List.map_toArray, List.map_cons, List.map_nil]; rfl)) ?_
            refine (wants_is (HPd.out.lk.below HB6.out)).mono ?_
            rintro e W7 ⟨rfl, hb7⟩; have HB7 := Aside0.mk (HB6.out.trans (hb7.mono HB6.out.size)); clear hb7
            refine ⟨_, rfl, hK.out _ _ ⟨HB7.out, trivial⟩ (fun hHeld => ?_)⟩
            clear hK K
            refine norm_ (a' := ?_) ?_ ?_
            rotate_left
            · show Act.put _ (some 169) _ = _
              simp only [Act.put, List.setIfInBounds_toArray, List.set_cons_zero, List.set_cons_succ, i64_w, i32_w]
              rfl
            refine pure_ (i := 18) (N := some 172) (v := ?_) (a' := ?_) #[true, true, true, true, true, true, true, true, true, true, true, true, true, true, true, true, true, true, true, false, false, false, false, false, false, false, false, false] rfl rfl (by kernel_rfl) (fun _ _ _ h => h) (Or.inl ⟨by rfl, ?_⟩) ?_ ?_
            rotate_left
            · intro w'; go_simp; with_reducible rfl
            rotate_left
            · simp only [Act.put, List.setIfInBounds_toArray, List.set_cons_zero, List.set_cons_succ, i64_w, i32_w]; rfl
            refine pure_ (i := 19) (N := some 173) (v := ?_) (a' := ?_) #[true, true, true, true, true, true, true, true, true, true, true, true, true, true, true, true, true, true, true, true, false, false, false, false, false, false, false, false] rfl rfl (by kernel_rfl) (fun _ _ _ h => h) (Or.inl ⟨by rfl, ?_⟩) ?_ ?_
            rotate_left
            · intro w'; go_simp; with_reducible rfl
            rotate_left
            · simp only [Act.put, List.setIfInBounds_toArray, List.set_cons_zero, List.set_cons_succ, i64_w, i32_w]; rfl
            refine pure_ (i := 20) (N := some 174) (v := ?_) (a' := ?_) #[true, true, true, true, true, true, true, true, true, true, true, true, true, true, true, true, true, true, true, true, true, false, false, false, false, false, false, false] rfl rfl (by kernel_rfl) (fun _ _ _ h => h) (Or.inl ⟨by rfl, ?_⟩) ?_ ?_
            rotate_left
            · intro w'; go_simp; with_reducible rfl
            rotate_left
            · simp only [Act.put, List.setIfInBounds_toArray, List.set_cons_zero, List.set_cons_succ, i64_w, i32_w]; rfl
            refine pure_ (i := 21) (N := some 175) (v := ?_) (a' := ?_) #[true, true, true, true, true, true, true, true, true, true, true, true, true, true, true, true, true, true, true, true, true, true, false, false, false, false, false, false] rfl rfl (by kernel_rfl) (fun _ _ _ h => h) (Or.inl ⟨by rfl, ?_⟩) ?_ ?_
            rotate_left
            · intro w'; go_simp; with_reducible rfl
            rotate_left
            · simp only [Act.put, List.setIfInBounds_toArray, List.set_cons_zero, List.set_cons_succ, i64_w, i32_w]; rfl
            refine pure_ (i := 23) (N := some 177) (v := ?_) (a' := ?_) #[true, true, true, true, true, true, true, true, true, true, true, true, true, true, true, true, true, true, true, true, true, true, false, true, false, false, false, false] rfl rfl (by kernel_rfl) (fun _ _ _ h => h) (Or.inl ⟨by rfl, ?_⟩) ?_ ?_
            rotate_left
            · intro w'; go_simp; with_reducible rfl
            rotate_left
            · simp only [Act.put, List.setIfInBounds_toArray, List.set_cons_zero, List.set_cons_succ, i64_w, i32_w]; rfl
            refine take_ (i := 24) (N := some 178) (v := ?_) (a' := ?_) #[true, true, true, true, true, true, true, true, true, true, true, true, true, true, true, true, true, true, true, true, true, true, false, true, true, false, false, false] rfl rfl (by kernel_rfl) (fun _ _ _ h => h) (Or.inl ⟨by rfl, ?_⟩) hHeld ?_ ?_
            rotate_left
            · rintro w' ⟨s0, _⟩
              have y0 := (blk_cell (keepB HPd.out.bd s0) 9).trans (show _ = some (.slice Ae2 l2.er.length ce2) from rfl)
              go_simp; with_reducible rfl
            rotate_left
            · simp only [Act.put, List.setIfInBounds_toArray, List.set_cons_zero, List.set_cons_succ, i64_w, i32_w]; rfl
            refine pure_ (i := 25) (N := some 179) (v := ?_) (a' := ?_) #[true, true, true, true, true, true, true, true, true, true, true, true, true, true, true, true, true, true, true, true, true, true, false, true, true, true, false, false] rfl rfl (by kernel_rfl) (fun _ _ _ h => h) (Or.inl ⟨by rfl, ?_⟩) ?_ ?_
            rotate_left
            · intro w'; go_simp; with_reducible rfl
            rotate_left
            · simp only [Act.put, List.setIfInBounds_toArray, List.set_cons_zero, List.set_cons_succ, i64_w, i32_w]; rfl
            refine one_ (i := 22) (N := some 176) #[true, true, true, true, true, true, true, true, true, true, true, true, true, true, true, true, true, true, true, true, true, true, true, true, true, true, false, false] rfl rfl (by kernel_rfl) (by decide) (fun K hK => ?_)
            refine goes_ Try.func53 (by kernel_rfl) rfl #[ptr g] (by rfl) rfl rfl (by first | rfl | (simp only [List.map_toArray, List.map_cons, List.map_nil]; rfl)) ?_
            refine (early_is (HPd.out.lk.below HB7.out)).mono ?_
            rintro e W8 ⟨rfl, hb8⟩; have HB8 := Aside0.mk (HB7.out.trans (hb8.mono HB7.out.size)); clear hb8
            refine ⟨_, rfl, hK.out _ _ ⟨HB8.out, trivial⟩ (fun hHeld => ?_)⟩
            clear hK K
            refine norm_ (a' := ?_) ?_ ?_
            rotate_left
            · show Act.put _ (some 176) _ = _
              simp only [Act.put, List.setIfInBounds_toArray, List.set_cons_zero, List.set_cons_succ, i64_w, i32_w]
              rfl
            refine pure_ (i := 26) (N := some 180) (v := ?_) (a' := ?_) #[true, true, true, true, true, true, true, true, true, true, true, true, true, true, true, true, true, true, true, true, true, true, true, true, true, true, true, false] rfl rfl (by kernel_rfl) (fun _ _ _ h => h) (Or.inl ⟨by rfl, ?_⟩) ?_ ?_
            rotate_left
            · intro w'; go_simp; with_reducible rfl
            rotate_left
            · simp only [Act.put, List.setIfInBounds_toArray, List.set_cons_zero, List.set_cons_succ, i64_w, i32_w]; rfl
            refine pure_ (i := 27) (N := some 181) (v := ?_) (a' := ?_) #[true, true, true, true, true, true, true, true, true, true, true, true, true, true, true, true, true, true, true, true, true, true, true, true, true, true, true, true] rfl rfl (by kernel_rfl) (fun _ _ _ h => h) (Or.inl ⟨by rfl, ?_⟩) ?_ ?_
            rotate_left
            · intro w'; go_simp; with_reducible rfl
            rotate_left
            · simp only [Act.put, List.setIfInBounds_toArray, List.set_cons_zero, List.set_cons_succ, i64_w, i32_w]; rfl
            refine done_ (by kernel_rfl) ?_
            go_wp2
            go_roundg k1
            case measure => omega
            case rel => exact ⟨n + 1, l2, v2, _, _, by first | rfl | (simp; done) | (simp; unfold wrap64; omega), ⟨by have := HN.out; omega⟩, ⟨⟨HPd.out.bel HB8.out, HR2.out.one, HR2.out.few⟩⟩⟩
end Go.Proofs.Ytdibaeomepallaa.LK
