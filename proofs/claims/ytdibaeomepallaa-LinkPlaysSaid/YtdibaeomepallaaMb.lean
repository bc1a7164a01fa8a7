/- The document's link: packets go out (goOut), copied rows of packets. By hand. -/
import Derived.Test.YtdibaeomepallaaMa
namespace Go.Proofs.Ytdibaeomepallaa.LK
open Go.RowKit Go.Proofs.YtdibaeomepallaaW.PrintWords Go.Proofs.YtdibaeomepallaaW.PrintLast Go.Proofs.YtdibaeomepallaaW.PrintMore Go.Proofs.Ytdibaeomepallaa.PAll Go.Proofs.Ytdibaeomepallaa.NW
set_option linter.unusedVariables false
set_option linter.unusedSimpArgs false
set_option maxRecDepth 100000
/-! ### the document's goOut -/
theorem info81s : (Try.prog.info? 81).map (·.size) = some 10 := by kernel_rfl
theorem info87s : (Try.prog.info? 87).map (·.size) = some 13 := by kernel_rfl
theorem info58p : (Try.prog.info? 58).map (fun i => (i.zero, i.size, i.bytes)) = some (some (.agg #[.int .i64 0, .int .i64 0, .int .i64 0, .int .i64 0, .int .i64 0, .int .i64 0, .string ⟨#[]⟩]), k58.sz, 64) := info58
theorem k58_types {t : Nat} (ht : 58 ≠ t) : ∀ q, q ∈ (58 : Nat) :: k58.E → q ≠ t := by
  intro q hq
  have : q = 58 := by simpa [k58, Kd.iso, Kd.pair, Kd.int, Kd.string, Kd.scalar] using hq
  subst this
  exact ht
theorem to58_M (w : World) (base : Nat) (ok : Nat → Prop) (p : Pk) : k58.M w base ok (to58 p) (pk p) := k58_mkM _ _ _ (to58 p)
theorem cell_of_C {w : World} {A : Option Addr} {q : List ByteArray} (h : Kd.string.C w A q.length q) {i : Nat} (hi : i < q.length) : ∃ ad, A = some ad ∧ w.cell? (ad.add i) = some (.string (q.getD i e0)) := by
  obtain ⟨ad, hA, hcell⟩ := Kd.at_string h (i : Int) (by omega) (by omega)
  refine ⟨ad, hA, ?_⟩
  rw [Int.toNat_natCast] at hcell
  rw [hcell]
  unfold rdOf
  rw [Int.toNat_natCast]
  rfl
theorem C_cell {w W : World} {ad : Addr} {q : List ByteArray} (h : Kd.string.C w (some ad) q.length q) (hb : Below w.heap.size w W) {i : Nat} (hi : i < q.length) : W.cell? (ad.add i) = some (.string (q.getD i e0)) := by
  obtain ⟨ad', hA, e⟩ := cell_of_C (Kd.C_below h hb) hi
  injection hA with hA
  subst hA
  exact e
/-- The boxes of goOut: the link that came in (g1), the answer's cell (g2), what was done (g3). -/
structure GS (w w' : World) (g1 g2 g3 : Nat) (l : Lk) (vq ve : Value) (o : Nat) (u : Value) : Prop where
  h1 : w'.heap[g1]? = some (.cells #[.int .i64 l.x.f0, .int .i64 l.x.f1, .int .i64 l.x.f2, .int .i64 l.x.f3, .int .i64 l.x.f4, vq, .int .i64 l.base, .int .i64 l.out, .int .i64 l.want, ve] 81 (0, 0))
  h2 : w'.heap[g2]? = some (.cells #[.int .i64 0, .int .i64 0, .int .i64 0, .int .i64 0, .int .i64 0, .slice none 0 0, .int .i64 0, .int .i64 0, .int .i64 0, .slice none 0 0, .slice none 0 0, .slice none 0 0, .int .i64 0] 87 (0, 0))
  h3 : w'.heap[g3]? = some (.cells #[.int .i64 l.x.f0, .int .i64 l.x.f1, .int .i64 l.x.f2, .int .i64 l.x.f3, .int .i64 l.x.f4, vq, .int .i64 l.base, .int .i64 o, .int .i64 l.want, ve, .slice none 0 0, u, .int .i64 0] 87 (0, 0))
  n12 : g1 < g2
  n23 : g2 < g3
  low : w.heap.size ≤ g1
  below : Below w.heap.size w w'
section
variable {w w' W : World} {g1 g2 g3 : Nat} {l : Lk} {vq ve : Value} {o : Nat} {u : Value}
theorem GS.bel (h : GS w w' g1 g2 g3 l vq ve o u) (hb : Below w'.heap.size w' W) : GS w W g1 g2 g3 l vq ve o u :=
  ⟨keepB h.h1 hb, keepB h.h2 hb, keepB h.h3 hb, h.n12, h.n23, h.low, h.below.trans (hb.mono h.below.size)⟩
theorem GS.grown (h : GS w w' g1 g2 g3 l vq ve o u) {row : Option Nat} (hg : w'.grownBy W row) (hr : ∀ k, row = some k → g3 < k) : GS w W g1 g2 g3 l vq ve o u := by
  have keep : ∀ k, k ≤ g3 → k < w'.heap.size → W.heap[k]? = w'.heap[k]? := fun k hk hlt => hg.block k hlt (fun e => by have := hr k e.symm; omega)
  have n12 := h.n12
  have n23 := h.n23
  have low := h.low
  refine ⟨(keep _ (by omega) (blk_lt h.h1)).trans h.h1, (keep _ (by omega) (blk_lt h.h2)).trans h.h2, (keep _ (by omega) (blk_lt h.h3)).trans h.h3, h.n12, h.n23, h.low, ?_⟩
  have hm := (Mods.of_below h.below (F := fun _ => False)).grown hg (fun k hk => .inr (by have := hr k hk; omega))
  exact hm.below (Nat.le_refl _) (fun k hk => hk.elim)
theorem GS.out (h : GS w w' g1 g2 g3 l vq ve o u) (u' : Value) : GS w (w'.setCell ⟨g3, 11, none⟩ u') g1 g2 g3 l vq ve o u' := by
  have n12 := h.n12
  have n23 := h.n23
  have low := h.low
  exact ⟨blk_far h.h1 (p := ⟨g3, 11, none⟩) (by show g1 ≠ g3; omega) _, blk_far h.h2 (p := ⟨g3, 11, none⟩) (by show g2 ≠ g3; omega) _, blk_set h.h3 11 _, h.n12, h.n23, h.low, below_cell h.below (show w.heap.size ≤ g3 by omega) _⟩
theorem GS.one (h : GS w w' g1 g2 g3 l vq ve o u) : GS w (w'.setCell ⟨g3, 7, none⟩ (.int .i64 ((o : Int) + 1))) g1 g2 g3 l vq ve (o + 1) u := by
  have n12 := h.n12
  have n23 := h.n23
  have low := h.low
  refine ⟨blk_far h.h1 (p := ⟨g3, 7, none⟩) (by show g1 ≠ g3; omega) _, blk_far h.h2 (p := ⟨g3, 7, none⟩) (by show g2 ≠ g3; omega) _, ?_, h.n12, h.n23, h.low, below_cell h.below (show w.heap.size ≤ g3 by omega) _⟩
  exact blk_set h.h3 7 _
theorem goOut13_end {w wr : World} {g1 g2 g3 : Nat} {l : Lk} {vq ve u : Value} {o : Nat} (ho : o = max l.out (min 8 l.q.length)) (h : GS w wr g1 g2 g3 l vq ve o u) (hr : k58.R 58 wr w.heap.size (fun _ => True) u ((outs l l.out (o - l.out)).map to58)) (cs : Array Value) :
    ∃ o', Ending.returned (.agg #[.int .i64 l.x.f0, .int .i64 l.x.f1, .int .i64 l.x.f2, .int .i64 l.x.f3, .int .i64 l.x.f4, vq, .int .i64 l.base, .int .i64 o, .int .i64 l.want, ve, .slice none 0 0, u, .int .i64 0]) = .returned (.agg #[.int .i64 (goL l).x.f0, .int .i64 (goL l).x.f1, .int .i64 (goL l).x.f2, .int .i64 (goL l).x.f3, .int .i64 (goL l).x.f4, vq, .int .i64 (goL l).base, .int .i64 (goL l).out, .int .i64 (goL l).want, ve, .slice none 0 0, o', .int .i64 0]) ∧ k58.R 58 (wr.setRow g2 cs) w.heap.size (fun _ => True) o' ((goP l).map to58) ∧ Below w.heap.size w (wr.setRow g2 cs) := by
  subst ho
  have n12 := h.n12
  have low := h.low
  refine ⟨u, rfl, ?_, below_setRow h.below (by omega) _⟩
  have e : max l.out (min 8 l.q.length) - l.out = min 8 l.q.length - l.out := by omega
  rw [e] at hr
  refine Kd.R_step (ok := fun k => k ≠ g2) (Kd.R_mono (Kd.R_bound hr) (fun k hk e => ?_)) (fun k hk hlt => setRow_other wr g2 k cs hk) |> fun h => Kd.R_mono h (fun _ _ => trivial)
  obtain ⟨_, _, _, q, hq, cells, hc⟩ := hk
  rw [e, h.h2] at hc
  injection hc with hc
  injection hc with _ hc2 _
  exact k58_types (t := 87) (by decide) q hq hc2.symm
theorem packet13_is {w : World} {l : Lk} {Aq Ae : Option Addr} {cq ce : Nat} (hb : Bd l) (hq : Kd.string.C w Aq l.q.length l.q) (hcq : l.q.length ≤ cq) (he : k142.C w Ae l.er.length (erS l.er)) (hce : l.er.length ≤ ce) (seq : Int) (s : ByteArray) :
    Calls Try.prog 82 #[.agg #[.int .i64 l.x.f0, .int .i64 l.x.f1, .int .i64 l.x.f2, .int .i64 l.x.f3, .int .i64 l.x.f4, .slice Aq l.q.length cq, .int .i64 l.base, .int .i64 l.out, .int .i64 l.want, .slice Ae l.er.length ce], .int .i64 seq, .string s] w fun e w' => e = .returned (.agg #[.int .i64 (pkt l seq s).f0, .int .i64 (pkt l seq s).f1, .int .i64 (pkt l seq s).f2, .int .i64 (pkt l seq s).f3, .int .i64 (pkt l seq s).f4, .int .i64 (pkt l seq s).f5, .string (pkt l seq s).f6]) ∧ Below w.heap.size w w' := by
  have h := caduceusref13_Link_packet.calls l.x.f0 l.x.f1 l.x.f2 l.x.f3 l.x.f4 Aq cq l.q l.base l.out l.want Ae ce (erS l.er) seq s _ _ _ _ _ _ _ w hq hcq (by rw [erS_len]; exact he) (by rw [erS_len]; exact hce) (packet_f l (by have := hb.w1; omega) hb.w2 seq s)
  rw [erS_len] at h
  exact h
set_option maxHeartbeats 2000000 in
theorem goOut13_is {w : World} {l : Lk} {Aq Ae : Option Addr} {cq ce : Nat} (hb : Bd l) (hq : Kd.string.C w Aq l.q.length l.q) (hcq : l.q.length ≤ cq) (he : k142.C w Ae l.er.length (erS l.er)) (hce : l.er.length ≤ ce) :
    Calls Try.prog 78 #[.agg #[.int .i64 l.x.f0, .int .i64 l.x.f1, .int .i64 l.x.f2, .int .i64 l.x.f3, .int .i64 l.x.f4, .slice Aq l.q.length cq, .int .i64 l.base, .int .i64 l.out, .int .i64 l.want, .slice Ae l.er.length ce]] w fun e w' => ∃ o, e = .returned (.agg #[.int .i64 (goL l).x.f0, .int .i64 (goL l).x.f1, .int .i64 (goL l).x.f2, .int .i64 (goL l).x.f3, .int .i64 (goL l).x.f4, .slice Aq l.q.length cq, .int .i64 (goL l).base, .int .i64 (goL l).out, .int .i64 (goL l).want, .slice Ae l.er.length ce, .slice none 0 0, o, .int .i64 0]) ∧ k58.R 58 w' w.heap.size (fun _ => True) o ((goP l).map to58) ∧ Below w.heap.size w w' := by
  have hu81 := Try.underlying81
  have hu87 := Try.underlying87
  have hu58 := Try.underlying58
  have HBd := Aside0.mk hb
  obtain ⟨p1, p2, o8, oq, q64, z1, z2, e1000⟩ := hb
  have HQ := Aside0.mk hq
  have HE := Aside0.mk he
  obtain ⟨N, hN⟩ : ∃ N, N = min 8 l.q.length - l.out := ⟨_, rfl⟩
  have HN := Aside0.mk hN
  clear hq he hN
  go_enter Try.func78, Try.ntmps78
  go_wp2_with (first
    | ((with_reducible refine gate_dst (N := 1) rfl ?_); refine box_event ?hg (N := 1) ?hd (cs := #[.int .i64 l.x.f0, .int .i64 l.x.f1, .int .i64 l.x.f2, .int .i64 l.x.f3, .int .i64 l.x.f4, .slice Aq l.q.length cq, .int .i64 l.base, .int .i64 l.out, .int .i64 l.want, .slice Ae l.er.length ce]) (t := 81) ?hr ?_; (case hd => rfl); (case hg => rfl); (case hr => first | (go_simp; done) | (go_simp; rfl)); intro g1 hg1 v1 kg1 bg1; have Gg1 := Aside0.mk hg1; clear hg1; have H1 := Aside0.mk kg1; have HB1 := Aside0.mk bg1; clear kg1 bg1)
    | ((with_reducible refine gate_dst (N := 2) rfl ?_); refine box_event ?hg (N := 2) ?hd (cs := #[.int .i64 0, .int .i64 0, .int .i64 0, .int .i64 0, .int .i64 0, .slice none 0 0, .int .i64 0, .int .i64 0, .int .i64 0, .slice none 0 0, .slice none 0 0, .slice none 0 0, .int .i64 0]) (t := 87) ?hr ?_; (case hd => rfl); (case hg => rfl); (case hr => first | (go_simp; done) | (go_simp; rfl)); intro g2 hg2 v2 kg2 bg2; have Gg2 := Aside0.mk hg2; clear hg2; have H2 := Aside0.mk kg2; have H12 := Aside0.mk (keepB H1.out bg2); have HB2 := Aside0.mk (HB1.out.trans (bg2.mono HB1.out.size)); clear kg2 bg2)
    | ((with_reducible refine gate_dst (N := 4) rfl ?_); refine wpList_load_row rfl 81 (.tmp 1) rfl g1 rfl 81 _ (0, 0) _ H12.out Try.underlying81 rfl info81s ?_)
    | ((with_reducible refine gate_dst (N := 3) rfl ?_); refine box_event ?hg (N := 3) ?hd (cs := #[.int .i64 0, .int .i64 0, .int .i64 0, .int .i64 0, .int .i64 0, .slice none 0 0, .int .i64 0, .int .i64 0, .int .i64 0, .slice none 0 0, .slice none 0 0, .slice none 0 0, .int .i64 0]) (t := 87) ?hr ?_; (case hd => rfl); (case hg => rfl); (case hr => first | (go_simp; done) | (go_simp; rfl)); intro g3 hg3 v3 kg3 bg3; have Gg3 := Aside0.mk hg3; clear hg3; have H3 := Aside0.mk kg3; have H13 := Aside0.mk (keepB H12.out bg3); have H23 := Aside0.mk (keepB H2.out bg3); have HB3 := Aside0.mk (HB2.out.trans (bg3.mono HB2.out.size)); clear kg3 bg3)
    | ((with_reducible refine gate_store (t := 87) (p := 3) rfl ?_); refine wpList_store_row rfl 87 (.tmp 3) (.tmp 5) rfl g3 #[.int .i64 l.x.f0, .int .i64 l.x.f1, .int .i64 l.x.f2, .int .i64 l.x.f3, .int .i64 l.x.f4, .slice Aq l.q.length cq, .int .i64 l.base, .int .i64 l.out, .int .i64 l.want, .slice Ae l.er.length ce, .slice none 0 0, .slice none 0 0, .int .i64 0] rfl rfl 87 _ H3.out info87s rfl (by rw [List.all_toArray]; rfl) ?_))
  simp only [Act.put, List.setIfInBounds_toArray, List.set_cons_zero, List.set_cons_succ]
  have HS := Aside0.mk (show GS w (v3.setRow g3 #[.int .i64 l.x.f0, .int .i64 l.x.f1, .int .i64 l.x.f2, .int .i64 l.x.f3, .int .i64 l.x.f4, .slice Aq l.q.length cq, .int .i64 l.base, .int .i64 l.out, .int .i64 l.want, .slice Ae l.er.length ce, .slice none 0 0, .slice none 0 0, .int .i64 0]) g1 g2 g3 l (.slice Aq l.q.length cq) (.slice Ae l.er.length ce) l.out (.slice none 0 0) from by
    have a1 := blk_lt H1.out
    have a2 := blk_lt H2.out
    have b1 := Gg1.out
    have b2 := Gg2.out
    have b3 := Gg3.out
    exact ⟨(setRow_other _ _ _ _ (by omega)).trans H13.out, (setRow_other _ _ _ _ (by omega)).trans H23.out, setRow_heap _ _ _ _ _ _ H3.out, by omega, by omega, by omega, below_setRow HB3.out (by have := HB2.out.size; omega) _⟩)
  have HZ := Aside0.mk (show g3 < v3.heap.size from blk_lt H3.out)
  clear H1 H2 H12 H3 H13 H23 HB1 HB2 HB3 Gg1 Gg2 Gg3
  go_loopg [] N (fun kq w' => ∃ (o : Nat) (u : Value), Aside0 (l.out ≤ o ∧ o + kq = l.out + N) ∧ Aside0 (k58.R 58 w' v3.heap.size (fun _ => True) u ((outs l l.out (o - l.out)).map to58)) ∧ Aside0 (v3.heap.size ≤ w'.heap.size) ∧ Aside0 (GS w w' g1 g2 g3 l (.slice Aq l.q.length cq) (.slice Ae l.er.length ce) o u))
  case atStart => exact ⟨l.out, _, ⟨⟨Nat.le_refl _, rfl⟩⟩, ⟨by rw [Nat.sub_self]; exact Kd.R_nil _ _ _ _ _⟩, ⟨by simp [World.setRow]⟩, HS⟩
  case round =>
    clear HS
    obtain ⟨o, u, HO, HR, HV, HS⟩ := hrel
    obtain ⟨ho1, ho2⟩ := HO.out
    have hNo := HN.out
    have c7 : wr.cell? ⟨g3, 7, none⟩ = some (.int .i64 o) := (blk_cell HS.out.h3 7).trans rfl
    have c5 : wr.cell? ⟨g1, 5, none⟩ = some (.slice Aq l.q.length cq) := (blk_cell HS.out.h1 5).trans rfl
    cases gk with
    | zero =>
      have hcond : ¬ (o < 8 ∧ o < l.q.length) := by omega
      have hend : o = max l.out (min 8 l.q.length) := by omega
      have HEn := Aside0.mk hend
      clear hend
      by_cases h8 : o < 8
      · have d1 : decide ((o : Int) < 8) = true := decide_eq_true (by omega)
        have d2 : decide (o < l.q.length) = false := decide_eq_false (fun e => hcond ⟨h8, e⟩)
        obtain ⟨Au, cu, rfl⟩ := Kd.R_slice HR.out
        go_wp2_with (first
          | ((with_reducible refine gate_dst (N := 45) rfl ?_); refine wpList_load_row rfl 87 (.tmp 3) rfl g3 rfl 87 _ (0, 0) _ HS.out.h3 Try.underlying87 rfl info87s ?_)
          | ((with_reducible refine gate_store (t := 87) (p := 2) rfl ?_); refine wpList_store_row rfl 87 (.tmp 2) (.tmp 45) rfl g2 #[.int .i64 l.x.f0, .int .i64 l.x.f1, .int .i64 l.x.f2, .int .i64 l.x.f3, .int .i64 l.x.f4, .slice Aq l.q.length cq, .int .i64 l.base, .int .i64 o, .int .i64 l.want, .slice Ae l.er.length ce, .slice none 0 0, (.slice Au ((outs l l.out (o - l.out)).map to58).length cu), .int .i64 0] rfl rfl 87 _ HS.out.h2 info87s rfl (by rw [List.all_toArray]; rfl) ?_))
        refine bodyPost_ret (results_cell_row rfl _ _ g2 87 #[.int .i64 l.x.f0, .int .i64 l.x.f1, .int .i64 l.x.f2, .int .i64 l.x.f3, .int .i64 l.x.f4, .slice Aq l.q.length cq, .int .i64 l.base, .int .i64 o, .int .i64 l.want, .slice Ae l.er.length ce, .slice none 0 0, (.slice Au ((outs l l.out (o - l.out)).map to58).length cu), .int .i64 0] (0, 0) _ rfl (setRow_heap _ _ _ _ _ _ HS.out.h2) hu87 rfl info87s) rfl ?_
        exact goOut13_end HEn.out HS.out (Kd.R_lower HR.out (by have := HS.out.low; have := HS.out.n12; have := HS.out.n23; have := HZ.out; omega)) _
      · have d1 : decide ((o : Int) < 8) = false := decide_eq_false (by omega)
        obtain ⟨Au, cu, rfl⟩ := Kd.R_slice HR.out
        go_wp2_with (first
          | ((with_reducible refine gate_dst (N := 45) rfl ?_); refine wpList_load_row rfl 87 (.tmp 3) rfl g3 rfl 87 _ (0, 0) _ HS.out.h3 Try.underlying87 rfl info87s ?_)
          | ((with_reducible refine gate_store (t := 87) (p := 2) rfl ?_); refine wpList_store_row rfl 87 (.tmp 2) (.tmp 45) rfl g2 #[.int .i64 l.x.f0, .int .i64 l.x.f1, .int .i64 l.x.f2, .int .i64 l.x.f3, .int .i64 l.x.f4, .slice Aq l.q.length cq, .int .i64 l.base, .int .i64 o, .int .i64 l.want, .slice Ae l.er.length ce, .slice none 0 0, (.slice Au ((outs l l.out (o - l.out)).map to58).length cu), .int .i64 0] rfl rfl 87 _ HS.out.h2 info87s rfl (by rw [List.all_toArray]; rfl) ?_))
        refine bodyPost_ret (results_cell_row rfl _ _ g2 87 #[.int .i64 l.x.f0, .int .i64 l.x.f1, .int .i64 l.x.f2, .int .i64 l.x.f3, .int .i64 l.x.f4, .slice Aq l.q.length cq, .int .i64 l.base, .int .i64 o, .int .i64 l.want, .slice Ae l.er.length ce, .slice none 0 0, (.slice Au ((outs l l.out (o - l.out)).map to58).length cu), .int .i64 0] (0, 0) _ rfl (setRow_heap _ _ _ _ _ _ HS.out.h2) hu87 rfl info87s) rfl ?_
        exact goOut13_end HEn.out HS.out (Kd.R_lower HR.out (by have := HS.out.low; have := HS.out.n12; have := HS.out.n23; have := HZ.out; omega)) _
    | succ k1 =>
      have h8 : o < 8 := by omega
      have hqo : o < l.q.length := by omega
      have d1 : decide ((o : Int) < 8) = true := decide_eq_true (by omega)
      have d2 : decide (o < l.q.length) = true := decide_eq_true hqo
      go_wp2
      have HSW := Aside0.mk (HS.out.bel (below_drew1 (Below.refl wr.heap.size wr)))
      have HRW := Aside0.mk (Kd.R_drew HR.out)
      have HVW := Aside0.mk (show v3.heap.size ≤ wr.drew.heap.size from HV.out)
      clear c7 c5 HS HR HV
      obtain ⟨s, hs⟩ : ∃ s, s = l.q.getD o e0 := ⟨_, rfl⟩
      have HSt := Aside0.mk hs
      clear hs
      obtain ⟨ad, hA, _⟩ := cell_of_C HQ.out hqo
      subst hA
      have xt : wr.drew.cell? (ad.add o) = some (.string s) := by rw [HSt.out]; exact C_cell HQ.out HSW.out.below hqo
      have i1 : (0 : Int) ≤ (o : Int) := by omega
      have i2 : (o : Int) < (l.q.length : Int) := by omega
      refine start_ (n := 21) (S := fun w' => w'.heap[g1]? = some (.cells #[.int .i64 l.x.f0, .int .i64 l.x.f1, .int .i64 l.x.f2, .int .i64 l.x.f3, .int .i64 l.x.f4, .slice (some ad) l.q.length cq, .int .i64 l.base, .int .i64 l.out, .int .i64 l.want, .slice Ae l.er.length ce] 81 (0, 0)) ∧ w'.heap[g3]? = some (.cells #[.int .i64 l.x.f0, .int .i64 l.x.f1, .int .i64 l.x.f2, .int .i64 l.x.f3, .int .i64 l.x.f4, .slice (some ad) l.q.length cq, .int .i64 l.base, .int .i64 o, .int .i64 l.want, .slice Ae l.er.length ce, .slice none 0 0, u, .int .i64 0] 87 (0, 0)) ∧ w'.cell? (ad.add o) = some (.string s)) (ds := [20]) #[false, false, false, false, false, false, false, false, false, false, false, false, false, false, false, false, false, false, false, false, false] (by kernel_rfl) rfl rfl ⟨HSW.out.h1, HSW.out.h3, xt⟩ (fun hHeld => ?_)
      refine pure_ (i := 0) (N := some 19) (v := ?_) (a' := ?_) #[true, false, false, false, false, false, false, false, false, false, false, false, false, false, false, false, false, false, false, false, false] rfl rfl (by kernel_rfl) (fun _ _ _ h => h) (Or.inl ⟨by rfl, ?_⟩) ?_ ?_
      rotate_left
      · intro w'; go_simp; with_reducible rfl
      rotate_left
      · simp only [Act.put, List.setIfInBounds_toArray, List.set_cons_zero, List.set_cons_succ, i64_w, i32_w]; rfl
      refine take_ (i := 1) (N := some 20) (v := ?_) (a' := ?_) #[true, true, false, false, false, false, false, false, false, false, false, false, false, false, false, false, false, false, false, false, false] rfl rfl (by kernel_rfl) (fun _ _ _ h => h) (Or.inl ⟨by rfl, ?_⟩) hHeld ?_ ?_
      rotate_left
      · rintro w' ⟨s0, s1, s2⟩
        have y0 := (blk_cell s1 11).trans (show _ = some u from rfl)
        go_simp; with_reducible rfl
      rotate_left
      · simp only [Act.put, List.setIfInBounds_toArray, List.set_cons_zero, List.set_cons_succ, i64_w, i32_w]; rfl
      refine take_ (i := 2) (N := some 21) (v := ?_) (a' := ?_) #[true, true, true, false, false, false, false, false, false, false, false, false, false, false, false, false, false, false, false, false, false] rfl rfl (by kernel_rfl) (fun _ _ _ h => h) (Or.inl ⟨by rfl, ?_⟩) hHeld ?_ ?_
      rotate_left
      · rintro w' ⟨s0, s1, s2⟩
        have y0 := (blk_cell s0 0).trans (show _ = some (.int .i64 l.x.f0) from rfl)
        have y1 := (blk_cell s0 1).trans (show _ = some (.int .i64 l.x.f1) from rfl)
        have y2 := (blk_cell s0 2).trans (show _ = some (.int .i64 l.x.f2) from rfl)
        have y3 := (blk_cell s0 3).trans (show _ = some (.int .i64 l.x.f3) from rfl)
        have y4 := (blk_cell s0 4).trans (show _ = some (.int .i64 l.x.f4) from rfl)
        have y5 := (blk_cell s0 5).trans (show _ = some (.slice (some ad) l.q.length cq) from rfl)
        have y6 := (blk_cell s0 6).trans (show _ = some (.int .i64 l.base) from rfl)
        have y7 := (blk_cell s0 7).trans (show _ = some (.int .i64 l.out) from rfl)
        have y8 := (blk_cell s0 8).trans (show _ = some (.int .i64 l.want) from rfl)
        have y9 := (blk_cell s0 9).trans (show _ = some (.slice Ae l.er.length ce) from rfl)
        go_simp; with_reducible rfl
      rotate_left
      · simp only [Act.put, List.setIfInBounds_toArray, List.set_cons_zero, List.set_cons_succ, i64_w, i32_w]; rfl
      refine pure_ (i := 3) (N := some 22) (v := ?_) (a' := ?_) #[true, true, true, true, false, false, false, false, false, false, false, false, false, false, false, false, false, false, false, false, false] rfl rfl (by kernel_rfl) (fun _ _ _ h => h) (Or.inl ⟨by rfl, ?_⟩) ?_ ?_
      rotate_left
      · intro w'; go_simp; with_reducible rfl
      rotate_left
      · simp only [Act.put, List.setIfInBounds_toArray, List.set_cons_zero, List.set_cons_succ, i64_w, i32_w]; rfl
      refine take_ (i := 4) (N := some 23) (v := ?_) (a' := ?_) #[true, true, true, true, true, false, false, false, false, false, false, false, false, false, false, false, false, false, false, false, false] rfl rfl (by kernel_rfl) (fun _ _ _ h => h) (Or.inl ⟨by rfl, ?_⟩) hHeld ?_ ?_
      rotate_left
      · rintro w' ⟨s0, s1, s2⟩
        have y0 := (blk_cell s0 6).trans (show _ = some (.int .i64 l.base) from rfl)
        go_simp; with_reducible rfl
      rotate_left
      · simp only [Act.put, List.setIfInBounds_toArray, List.set_cons_zero, List.set_cons_succ, i64_w, i32_w]; rfl
      refine pure_ (i := 5) (N := some 24) (v := ?_) (a' := ?_) #[true, true, true, true, true, true, false, false, false, false, false, false, false, false, false, false, false, false, false, false, false] rfl rfl (by kernel_rfl) (fun _ _ _ h => h) (Or.inl ⟨by rfl, ?_⟩) ?_ ?_
      rotate_left
      · intro w'; go_simp; with_reducible rfl
      rotate_left
      · simp only [Act.put, List.setIfInBounds_toArray, List.set_cons_zero, List.set_cons_succ, i64_w, i32_w]; rfl
      refine pure_ (i := 6) (N := some 25) (v := ?_) (a' := ?_) #[true, true, true, true, true, true, true, false, false, false, false, false, false, false, false, false, false, false, false, false, false] rfl rfl (by kernel_rfl) (fun _ _ _ h => h) (Or.inl ⟨by rfl, ?_⟩) ?_ ?_
      rotate_left
      · intro w'; go_simp; with_reducible rfl
      rotate_left
      · simp only [Act.put, List.setIfInBounds_toArray, List.set_cons_zero, List.set_cons_succ, i64_w, i32_w]; rfl
      refine take_ (i := 7) (N := some 26) (v := ?_) (a' := ?_) #[true, true, true, true, true, true, true, true, false, false, false, false, false, false, false, false, false, false, false, false, false] rfl rfl (by kernel_rfl) (fun _ _ _ h => h) (Or.inl ⟨by rfl, ?_⟩) hHeld ?_ ?_
      rotate_left
      · rintro w' ⟨s0, s1, s2⟩
        have y0 := (blk_cell s1 7).trans (show _ = some (.int .i64 o) from rfl)
        go_simp; with_reducible rfl
      rotate_left
      · simp only [Act.put, List.setIfInBounds_toArray, List.set_cons_zero, List.set_cons_succ, i64_w, i32_w]; rfl
      refine pure_ (i := 8) (N := some 27) (v := ?_) (a' := ?_) #[true, true, true, true, true, true, true, true, true, false, false, false, false, false, false, false, false, false, false, false, false] rfl rfl (by kernel_rfl) (fun _ _ _ h => h) (Or.inl ⟨by rfl, ?_⟩) ?_ ?_
      rotate_left
      · intro w'; go_simp; with_reducible rfl
      rotate_left
      · simp only [Act.put, List.setIfInBounds_toArray, List.set_cons_zero, List.set_cons_succ, i64_w, i32_w]; rfl
      refine pure_ (i := 9) (N := some 28) (v := ?_) (a' := ?_) #[true, true, true, true, true, true, true, true, true, true, false, false, false, false, false, false, false, false, false, false, false] rfl rfl (by kernel_rfl) (fun _ _ _ h => h) (Or.inl ⟨by rfl, ?_⟩) ?_ ?_
      rotate_left
      · intro w'; go_simp; with_reducible rfl
      rotate_left
      · simp only [Act.put, List.setIfInBounds_toArray, List.set_cons_zero, List.set_cons_succ, i64_w, i32_w]; rfl
      refine take_ (i := 10) (N := some 29) (v := ?_) (a' := ?_) #[true, true, true, true, true, true, true, true, true, true, true, false, false, false, false, false, false, false, false, false, false] rfl rfl (by kernel_rfl) (fun _ _ _ h => h) (Or.inl ⟨by rfl, ?_⟩) hHeld ?_ ?_
      rotate_left
      · rintro w' ⟨s0, s1, s2⟩
        have y0 := (blk_cell s0 5).trans (show _ = some (.slice (some ad) l.q.length cq) from rfl)
        go_simp; with_reducible rfl
      rotate_left
      · simp only [Act.put, List.setIfInBounds_toArray, List.set_cons_zero, List.set_cons_succ, i64_w, i32_w]; rfl
      refine pure_ (i := 11) (N := some 30) (v := ?_) (a' := ?_) #[true, true, true, true, true, true, true, true, true, true, true, true, false, false, false, false, false, false, false, false, false] rfl rfl (by kernel_rfl) (fun _ _ _ h => h) (Or.inl ⟨by rfl, ?_⟩) ?_ ?_
      rotate_left
      · intro w'; go_simp; with_reducible rfl
      rotate_left
      · simp only [Act.put, List.setIfInBounds_toArray, List.set_cons_zero, List.set_cons_succ, i64_w, i32_w]; rfl
      refine pure_ (i := 12) (N := some 31) (v := ?_) (a' := ?_) #[true, true, true, true, true, true, true, true, true, true, true, true, true, false, false, false, false, false, false, false, false] rfl rfl (by kernel_rfl) (fun _ _ _ h => h) (Or.inl ⟨by rfl, ?_⟩) ?_ ?_
      rotate_left
      · intro w'; go_simp; with_reducible rfl
      rotate_left
      · simp only [Act.put, List.setIfInBounds_toArray, List.set_cons_zero, List.set_cons_succ, i64_w, i32_w]; rfl
      refine take_ (i := 13) (N := some 32) (v := ?_) (a' := ?_) #[true, true, true, true, true, true, true, true, true, true, true, true, true, true, false, false, false, false, false, false, false] rfl rfl (by kernel_rfl) (fun _ _ _ h => h) (Or.inl ⟨by rfl, ?_⟩) hHeld ?_ ?_
      rotate_left
      · rintro w' ⟨s0, s1, s2⟩
        have y0 := (blk_cell s1 7).trans (show _ = some (.int .i64 o) from rfl)
        go_simp; with_reducible rfl
      rotate_left
      · simp only [Act.put, List.setIfInBounds_toArray, List.set_cons_zero, List.set_cons_succ, i64_w, i32_w]; rfl
      refine pure_ (i := 14) (N := some 33) (v := ?_) (a' := ?_) #[true, true, true, true, true, true, true, true, true, true, true, true, true, true, true, false, false, false, false, false, false] rfl rfl (by kernel_rfl) (fun _ _ _ h => h) (Or.inl ⟨by rfl, ?_⟩) ?_ ?_
      rotate_left
      · intro w'; go_simp; with_reducible rfl
      rotate_left
      · simp only [Act.put, List.setIfInBounds_toArray, List.set_cons_zero, List.set_cons_succ, i64_w, i32_w]; rfl
      refine take_ (i := 15) (N := some 34) (v := ?_) (a' := ?_) #[true, true, true, true, true, true, true, true, true, true, true, true, true, true, true, true, false, false, false, false, false] rfl rfl (by kernel_rfl) (fun _ _ _ h => h) (Or.inl ⟨by rfl, ?_⟩) hHeld ?_ ?_
      rotate_left
      · rintro w' ⟨s0, s1, s2⟩; go_simp; with_reducible rfl
      rotate_left
      · simp only [Act.put, List.setIfInBounds_toArray, List.set_cons_zero, List.set_cons_succ, i64_w, i32_w]; rfl
      rw [wrapId (x := l.base + (o : Int)) (by omega) (by omega)]
      refine one_ (i := 16) (N := some 35) #[true, true, true, true, true, true, true, true, true, true, true, true, true, true, true, true, true, false, false, false, false] rfl rfl (by kernel_rfl) (by decide) (fun K hK => ?_)
      refine goes_ Try.func82 (by kernel_rfl) rfl #[.agg #[.int .i64 l.x.f0, .int .i64 l.x.f1, .int .i64 l.x.f2, .int .i64 l.x.f3, .int .i64 l.x.f4, .slice (some ad) l.q.length cq, .int .i64 l.base, .int .i64 l.out, .int .i64 l.want, .slice Ae l.er.length ce], .int .i64 (l.base + (o : Int)), .string s] (by rfl) rfl rfl (by first | rfl | (simp only [List.map_toArray, List.map_cons, List.map_nil]; rfl)) ?_
      refine (packet13_is HBd.out (Kd.C_below HQ.out HSW.out.below) hcq (Kd.C_below HE.out HSW.out.below) hce (l.base + (o : Int)) s).mono ?_
      rintro e W2 ⟨rfl, hb2⟩; have HS2 := Aside0.mk (HSW.out.bel hb2); have HR2 := Aside0.mk (Kd.R_below HRW.out hb2); have HV2 := Aside0.mk (Nat.le_trans HVW.out hb2.size); clear hb2 HSW HRW HVW
      refine ⟨_, rfl, hK.out _ _ ⟨HS2.out.h1, HS2.out.h3, by rw [HSt.out]; exact C_cell HQ.out HS2.out.below hqo⟩ (fun hHeld => ?_)⟩
      clear hK K
      refine norm_ (a' := ?_) ?_ ?_
      rotate_left
      · show Act.put _ (some 35) _ = _
        simp only [Act.put, List.setIfInBounds_toArray, List.set_cons_zero, List.set_cons_succ, i64_w, i32_w]
        rfl
      obtain ⟨p, hp⟩ : ∃ p, p = nth l o := ⟨_, rfl⟩
      have HP := Aside0.mk hp
      have HPk := Aside0.mk (show pkt l (l.base + (o : Int)) s = p by rw [hp, HSt.out]; rfl)
      rw [HPk.out]
      clear hp
      refine one_ (i := 17) (N := some 36) #[true, true, true, true, true, true, true, true, true, true, true, true, true, true, true, true, true, true, false, false, false] rfl rfl (by kernel_rfl) (by decide) (fun K hK => ?_)
      refine event_step (v := .slice (some ⟨W2.heap.size, 0, none⟩) 1 1) (w1 := W2.alloc (.cells (pk p).toArray 58 (0, 0))) (by rfl) (by go_simp; rfl) ?_
      have HS3 := Aside0.mk (HS2.out.bel (below_alloc (Below.refl _ _) (.cells (pk p).toArray 58 (0, 0))))
      refine hK.out _ _ ⟨HS3.out.h1, HS3.out.h3, by rw [HSt.out]; exact C_cell HQ.out HS3.out.below hqo⟩ (fun hHeld => ?_)
      clear hK K HS3
      refine norm_ (a' := ?_) ?_ ?_
      rotate_left
      · show Act.put _ (some 36) _ = _
        simp only [Act.put, List.setIfInBounds_toArray, List.set_cons_zero, List.set_cons_succ, i64_w, i32_w]
        rfl
      refine one_ (i := 18) (N := some 37) #[true, true, true, true, true, true, true, true, true, true, true, true, true, true, true, true, true, true, true, false, false] rfl rfl (by kernel_rfl) (by decide) (fun K hK => ?_)
      refine Kd.R_append_step k58 (w0 := W2) v3.heap.size (by rfl) (.tmp 20) (.tmp 36) 37 58 (.agg #[.int .i64 0, .int .i64 0, .int .i64 0, .int .i64 0, .int .i64 0, .int .i64 0, .string ⟨#[]⟩]) 64 rfl Try.underlying37 info58p rfl (by decide) (by omega) u ((outs l l.out (o - l.out)).map to58) (to58 p) (pk p) (fun _ => True) (fun _ => False) rfl rfl (to58_M _ _ _ p) (fun _ hk => hk.elim) (fun _ _ => trivial) HR2.out (Below.refl _ _) HV2.out (by rw [List.length_map, outs_len]; omega) ?_
      intro u4 W4 ho4 hb4 hg4 hat4
      obtain ⟨A4, n4, c4, rfl⟩ : ∃ A n c, u4 = .slice A n c := by obtain ⟨A, c, h⟩ := Kd.R_slice ho4; exact ⟨A, _, c, h⟩
      have hne : ∀ k, u.ownBlock = some k → g3 < k := fun k hk => by
        obtain ⟨inner, hi⟩ := Kd.R_own HR2.out
        exact Nat.lt_of_lt_of_le HZ.out (own_base hi k hk)
      have HS4 := Aside0.mk (HS2.out.grown hg4 hne)
      have HR4 := Aside0.mk (show k58.R 58 W4 v3.heap.size (fun _ => True) (.slice A4 n4 c4) ((outs l l.out (o + 1 - l.out)).map to58) by
        rw [show o + 1 - l.out = (o - l.out) + 1 by omega, outs_succ, show l.out + (o - l.out) = o by omega, ← HP.out, List.map_append]
        exact ho4)
      have HV4 := Aside0.mk (Nat.le_trans HV2.out hg4.size)
      clear ho4 hb4 hg4 hat4 hne HR2 HS2 HV2
      refine hK.out _ _ ⟨HS4.out.h1, HS4.out.h3, by rw [HSt.out]; exact C_cell HQ.out HS4.out.below hqo⟩ (fun hHeld => ?_)
      clear hK K
      refine norm_ (a' := ?_) ?_ ?_
      rotate_left
      · show Act.put _ (some 37) _ = _
        simp only [Act.put, List.setIfInBounds_toArray, List.set_cons_zero, List.set_cons_succ, i64_w, i32_w]
        rfl
      refine pure_ (i := 19) (N := some 38) (v := ?_) (a' := ?_) #[true, true, true, true, true, true, true, true, true, true, true, true, true, true, true, true, true, true, true, true, false] rfl rfl (by kernel_rfl) (fun _ _ _ h => h) (Or.inl ⟨by rfl, ?_⟩) ?_ ?_
      rotate_left
      · intro w'; go_simp; with_reducible rfl
      rotate_left
      · simp only [Act.put, List.setIfInBounds_toArray, List.set_cons_zero, List.set_cons_succ, i64_w, i32_w]; rfl
      refine last_ (i := 20) (N := none) #[true, true, true, true, true, true, true, true, true, true, true, true, true, true, true, true, true, true, true, true, true] rfl rfl (by kernel_rfl) (by decide) (fun K hK => ?_)
      have hf : W4.frozen? ⟨g3, 11, none⟩ = false := blk_frozen HS4.out.h3 11
      have hx : W4.cell? ⟨g3, 11, none⟩ = some u := (blk_cell HS4.out.h3 11).trans rfl
      refine skip_ (w1 := ?_) (by rfl) rfl ?_ ?_
      rotate_left
      · go_simp
        rfl
      refine hK.out _ _ ?_
      clear hK K hf hx
      refine done_ (by kernel_rfl) ?_
      have HS5 := Aside0.mk (HS4.out.out (.slice A4 n4 c4))
      have HR5 := Aside0.mk (Kd.R_set HR4.out HS4.out.h3 (k58_types (by decide)) 11 (.slice A4 n4 c4))
      have HV5 := Aside0.mk (show v3.heap.size ≤ (W4.setCell ⟨g3, 11, none⟩ (.slice A4 n4 c4)).heap.size by have := HV4.out; simpa using this)
      obtain ⟨W5, hW5⟩ : ∃ W5, W5 = W4.setCell ⟨g3, 11, none⟩ (.slice A4 n4 c4) := ⟨_, rfl⟩
      rw [← hW5] at HS5 HR5 HV5 ⊢
      clear hW5 HS4 HR4 HV4
      have c7 : W5.cell? ⟨g3, 7, none⟩ = some (.int .i64 o) := (blk_cell HS5.out.h3 7).trans rfl
      have f7 : W5.frozen? ⟨g3, 7, none⟩ = false := blk_frozen HS5.out.h3 7
      go_wp2
      go_roundg k1
      case measure => omega
      case rel => exact ⟨o + 1, (.slice A4 n4 c4), ⟨by omega, by omega⟩, ⟨Kd.R_set HR5.out HS5.out.h3 (k58_types (by decide)) 7 _⟩, ⟨by have := HV5.out; simpa using this⟩, ⟨HS5.out.one⟩⟩
end
end Go.Proofs.Ytdibaeomepallaa.LK
