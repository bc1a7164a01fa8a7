/- The document's link: rows that are read; packets turned into the document's (packets); Send. By hand. -/
import Derived.Test.YtdibaeomepallaaMb
namespace Go.Proofs.Ytdibaeomepallaa.LK
open Go.RowKit Go.Proofs.YtdibaeomepallaaW.PrintWords Go.Proofs.YtdibaeomepallaaW.PrintLast Go.Proofs.YtdibaeomepallaaW.PrintMore Go.Proofs.Ytdibaeomepallaa.PAll Go.Proofs.Ytdibaeomepallaa.NW
set_option linter.unusedVariables false
set_option linter.unusedSimpArgs false
set_option maxRecDepth 100000
/-! ### rows that are read -/
/-- A row is read, out of blocks of which ok holds. -/
def RW {α : Type} (d : Kd α) (W : World) (ok : Nat → Prop) (v : Value) (xs : List α) : Prop := ∃ A c, v = .slice A xs.length c ∧ xs.length ≤ c ∧ Kd.F d W ok A xs.length xs
section
variable {α : Type} {d : Kd α} {W W1 : World} {ok ok' : Nat → Prop} {v : Value} {xs : List α}
theorem RW.mono (h : RW d W ok v xs) (hk : ∀ k, ok k → ok' k) : RW d W ok' v xs := by
  obtain ⟨A, c, e, hc, hf⟩ := h
  exact ⟨A, c, e, hc, Kd.F_mono hf hk⟩
theorem RW.bound (h : RW d W ok v xs) : RW d W (fun k => ok k ∧ k < W.heap.size) v xs := by
  obtain ⟨A, c, e, hc, hf⟩ := h
  exact ⟨A, c, e, hc, Kd.F_bound hf⟩
theorem RW.step (h : RW d W ok v xs) (hm : ∀ k, ok k → k < W.heap.size → W1.heap[k]? = W.heap[k]?) : RW d W1 ok v xs := by
  obtain ⟨A, c, e, hc, hf⟩ := h
  exact ⟨A, c, e, hc, Kd.F_step hf hm⟩
theorem RW.below (h : RW d W ok v xs) (hb : Below W.heap.size W W1) : RW d W1 ok v xs := h.step (fun k _ hk => hb.block k hk)
theorem RW.of_R {e base : Nat} (h : d.R e W base ok v xs) : RW d W (fun k => base ≤ k) v xs := by
  have h2 := Kd.R_bound h
  obtain ⟨A, c, rfl, hc, _⟩ := Kd.R_reads h
  exact ⟨A, c, rfl, hc, Kd.F_mono (Kd.R_F h2) (fun k hk => hk.2.1)⟩
theorem RW.nil (d : Kd α) (W : World) (ok : Nat → Prop) : RW d W ok (.slice none 0 0) [] := ⟨none, 0, rfl, Nat.le_refl _, Kd.F_nil d W ok⟩
theorem R_setRow {e base : Nat} (h : d.R e W base ok v xs) {g t : Nat} {cells : Array Value} (hb : W.heap[g]? = some (.cells cells t (0, 0))) (ht : ∀ q, q ∈ e :: d.E → q ≠ t) (cs : Array Value) : d.R e (W.setRow g cs) base ok v xs := by
  have h2 : d.R e W base (fun k => ok k ∧ k ≠ g) v xs := Kd.R_mono (Kd.R_bound h) (fun k hk => ⟨hk.1, fun eg => by
    obtain ⟨_, _, _, q, hq, cells', hc⟩ := hk
    rw [eg, hb] at hc
    injection hc with hc
    injection hc with _ hc2 _
    exact ht q hq hc2.symm⟩)
  exact Kd.R_mono (Kd.R_step h2 (fun k hk _ => setRow_other W g k cs hk.2)) (fun k hk => hk.1)
end
/-! ### packets as the document has them -/
set_option maxHeartbeats 2000000 in
theorem packets13_is {w : World} {A : Option Addr} {c : Nat} {xs : List Pk} (hx : k28.C w A xs.length xs) (hc : xs.length ≤ c) (hl : xs.length ≤ 1000) :
    Calls Try.prog 47 #[.slice A xs.length c] w fun e w' => ∃ o, e = .returned o ∧ k58.R 58 w' w.heap.size (fun _ => True) o (xs.map to58) ∧ Below w.heap.size w w' := by
  have hu28 := Try.underlying28
  have HC := Aside0.mk hx
  clear hx
  go_enter Try.func47, Try.ntmps47
  go_wp2
  go_loopg [3, 4] xs.length (fun kq v3 v4 w' => ∃ i : Nat, v4 = .int .i64 i ∧ Aside0 (k58.R 58 w' w.heap.size (fun _ => True) v3 ((xs.take i).map to58)) ∧ Aside0 (i + kq = xs.length) ∧ Aside0 (Below w.heap.size w w'))
  case atStart => exact ⟨0, rfl, ⟨Kd.R_nil _ _ _ _ _⟩, ⟨by omega⟩, ⟨Below.refl _ _⟩⟩
  case round =>
    obtain ⟨i, rfl, HO, HK, HB⟩ := hrel
    cases gk with
    | zero =>
      have e : i = xs.length := by have := HK.out; omega
      subst e
      have d1 : decide ((xs.length : Int) < (xs.length : Int)) = false := decide_eq_false (by omega)
      go_wp2
      go_ret
      exact ⟨_, rfl, by have h := HO.out; rw [List.take_length] at h; exact h, HB.out⟩
    | succ k1 =>
      have hi : i < xs.length := by have := HK.out; omega
      have d1 : decide ((i : Int) < (xs.length : Int)) = true := decide_eq_true (by omega)
      have i0 : (0 : Int) ≤ (i : Int) := by omega
      have i1 : (i : Int) < (xs.length : Int) := by omega
      obtain ⟨ad, hA, e0, e1, e2, e3, e4, e5, e6⟩ := at_T28 (Kd.C_below HC.out HB.out) (i : Int) i0 i1
      subst hA
      simp only [Int.toNat_natCast] at e0 e1 e2 e3 e4 e5 e6
      obtain ⟨p, hp⟩ : ∃ p, rd_T28 xs (i : Int) = p := ⟨_, rfl⟩
      rw [hp] at e0 e1 e2 e3 e4 e5 e6
      have HT := Aside0.mk (show (xs.take (i + 1)).map to58 = (xs.take i).map to58 ++ [to58 p] by
        rw [List.take_add_one, List.getElem?_eq_getElem hi, List.map_append, ← hp, rd28_at (List.getElem?_eq_getElem hi)]
        rfl)
      clear hp
      go_wp2_with ((with_reducible refine gate_builtin (b := .append) (xs := #[.tmp 11, .tmp 16]) rfl ?_); at_builtin; refine Kd.R_append k58 (w0 := w) w.heap.size rfl (.tmp 11) (.tmp 16) 37 58 _ 64 rfl Try.underlying37 info58p rfl (by decide) (by omega) _ _ (to58 p) (pk p) (fun _ => True) (fun _ => False) rfl rfl (to58_M _ _ _ p) (fun _ hk => hk.elim) (fun _ _ => trivial) HO.out HB.out HB.out.size (by rw [List.length_map, List.length_take]; omega) ?_; intro v1 w1 h1 h2 h3 h4; have HV1 := Aside0.mk h1; have HB1 := Aside0.mk h2; clear h1 h2 h3 h4)
      go_roundg k1
      case measure => omega
      case rel => exact ⟨i + 1, by first | rfl | simp, ⟨by rw [HT.out]; exact HV1.out⟩, ⟨by have := HK.out; omega⟩, HB1⟩
/-! ### the document's Send -/
def SendOut13 (w : World) (P : Nat → Prop) (l : Lk) (ve : Value) (s : ByteArray) (e : Ending) (w' : World) : Prop :=
  ∃ vq o, e = .returned (.agg #[.int .i64 (sdL l s).x.f0, .int .i64 (sdL l s).x.f1, .int .i64 (sdL l s).x.f2, .int .i64 (sdL l s).x.f3, .int .i64 (sdL l s).x.f4, vq, .int .i64 (sdL l s).base, .int .i64 (sdL l s).out, .int .i64 (sdL l s).want, ve, .slice none 0 0, o, .int .i64 (sdE l s)]) ∧ RW Kd.string w' (fun k => P k ∨ w.heap.size ≤ k) vq (sdL l s).q ∧ k58.R 58 w' w.heap.size (fun _ => True) o ((sdP l s).map to58) ∧ Below w.heap.size w w'
theorem send13_no {w w' : World} {P : Nat → Prop} {l : Lk} {vq ve : Value} {s : ByteArray} {n : Int} (hq : RW Kd.string w P vq l.q) (hb : Below w.heap.size w w') (hn : sdE l s = n) (h0 : n ≠ 0) : SendOut13 w P l ve s (.returned (.agg #[.int .i64 l.x.f0, .int .i64 l.x.f1, .int .i64 l.x.f2, .int .i64 l.x.f3, .int .i64 l.x.f4, vq, .int .i64 l.base, .int .i64 l.out, .int .i64 l.want, ve, .slice none 0 0, .slice none 0 0, .int .i64 n])) w' := by
  subst hn
  have e1 : sdL l s = l := if_neg h0
  have e2 : sdP l s = [] := if_neg h0
  refine ⟨vq, .slice none 0 0, ?_, ?_, ?_, hb⟩
  · rw [e1]
  · rw [e1]; exact (hq.below hb).mono (fun k hk => .inl hk)
  · rw [e2]; exact Kd.R_nil _ _ _ _ _
theorem goOut13_q {w : World} {l : Lk} {q : List ByteArray} {Aq Ae : Option Addr} {cq ce : Nat} (hb : Bd { l with q := q }) (hq : Kd.string.C w Aq q.length q) (hcq : q.length ≤ cq) (he : k142.C w Ae l.er.length (erS l.er)) (hce : l.er.length ≤ ce) :
    Calls Try.prog 78 #[.agg #[.int .i64 l.x.f0, .int .i64 l.x.f1, .int .i64 l.x.f2, .int .i64 l.x.f3, .int .i64 l.x.f4, .slice Aq q.length cq, .int .i64 l.base, .int .i64 l.out, .int .i64 l.want, .slice Ae l.er.length ce]] w fun e w' => ∃ o, e = .returned (.agg #[.int .i64 l.x.f0, .int .i64 l.x.f1, .int .i64 l.x.f2, .int .i64 l.x.f3, .int .i64 l.x.f4, .slice Aq q.length cq, .int .i64 l.base, .int .i64 (goL { l with q := q }).out, .int .i64 l.want, .slice Ae l.er.length ce, .slice none 0 0, o, .int .i64 0]) ∧ k58.R 58 w' w.heap.size (fun _ => True) o ((goP { l with q := q }).map to58) ∧ Below w.heap.size w w' :=
  goOut13_is hb hq hcq he hce
theorem send13_yes {w W W3 : World} {P : Nat → Prop} {l : Lk} {v1 ve o : Value} {s : ByteArray} {g2 : Nat} {cells : Array Value} (hE : sdE l s = 0) (h1 : Kd.string.R 9 W w.heap.size (fun _ => True) v1 (l.q ++ [s])) (hb : Below w.heap.size w W) (h3 : k58.R 58 W3 W.heap.size (fun _ => True) o ((goP { l with q := l.q ++ [s] }).map to58)) (hb3 : Below W.heap.size W W3) (hg : W3.heap[g2]? = some (.cells cells 87 (0, 0))) (hlow : w.heap.size ≤ g2) (cs : Array Value) :
    SendOut13 w P l ve s (.returned (.agg #[.int .i64 l.x.f0, .int .i64 l.x.f1, .int .i64 l.x.f2, .int .i64 l.x.f3, .int .i64 l.x.f4, v1, .int .i64 l.base, .int .i64 (goL { l with q := l.q ++ [s] }).out, .int .i64 l.want, ve, .slice none 0 0, o, .int .i64 0])) (W3.setRow g2 cs) := by
  have e1 : sdL l s = goL { l with q := l.q ++ [s] } := if_pos hE
  have e2 : sdP l s = goP { l with q := l.q ++ [s] } := if_pos hE
  refine ⟨v1, o, ?_, ?_, ?_, below_setRow (hb.trans (hb3.mono hb.size)) hlow _⟩
  · rw [e1, hE]; rfl
  · rw [e1]
    exact (RW.of_R (R_setRow (Kd.R_below h1 hb3) hg (string_types (by decide)) cs)).mono (fun k hk => .inr hk)
  · rw [e2]
    exact Kd.R_lower (R_setRow h3 hg (k58_types (by decide)) cs) hb.size
set_option maxHeartbeats 2000000 in
theorem send13_is {w : World} {P : Nat → Prop} {l : Lk} {vq : Value} {Ae : Option Addr} {ce : Nat} (hb : Bd l) (hq : RW Kd.string w P vq l.q) (he : k142.C w Ae l.er.length (erS l.er)) (hce : l.er.length ≤ ce) (s : ByteArray) (hs : s.size ≤ 4611686018427387904) :
    Calls Try.prog 45 #[.agg #[.int .i64 l.x.f0, .int .i64 l.x.f1, .int .i64 l.x.f2, .int .i64 l.x.f3, .int .i64 l.x.f4, vq, .int .i64 l.base, .int .i64 l.out, .int .i64 l.want, .slice Ae l.er.length ce], .string s] w (SendOut13 w P l (.slice Ae l.er.length ce) s) := by
  have hu81 := Try.underlying81
  have hu87 := Try.underlying87
  have HBd := Aside0.mk hb
  have HQ0 := Aside0.mk hq
  have HE0 := Aside0.mk he
  obtain ⟨p1, p2, o8, oq, q64, z1, z2, e1000⟩ := hb
  obtain ⟨Aq, cq, rfl, hcq, hF⟩ := hq
  have HQ := Aside0.mk (Kd.F_now hF)
  clear hF he
  by_cases h1 : 32768 < s.size
  · have d1 : decide ((32768 : Int) < (s.size : Int)) = true := decide_eq_true (by omega)
    have HE := Aside0.mk (show sdE l s = 1 from if_pos h1)
    clear h1
    go_enter Try.func45, Try.ntmps45
    go_wp2_with (first
      | ((with_reducible refine gate_dst (N := 2) rfl ?_); refine box_event ?hg (N := 2) ?hd (cs := #[.int .i64 l.x.f0, .int .i64 l.x.f1, .int .i64 l.x.f2, .int .i64 l.x.f3, .int .i64 l.x.f4, .slice Aq l.q.length cq, .int .i64 l.base, .int .i64 l.out, .int .i64 l.want, .slice Ae l.er.length ce]) (t := 81) ?hr ?_; (case hd => rfl); (case hg => rfl); (case hr => first | (go_simp; done) | (go_simp; rfl)); intro g1 hg1 v1 kg1 bg1; have Gg1 := Aside0.mk hg1; clear hg1; have H1 := Aside0.mk kg1; have HB1 := Aside0.mk bg1; clear kg1 bg1)
      | ((with_reducible refine gate_dst (N := 4) rfl ?_); refine box_event ?hg (N := 4) ?hd (cs := #[.int .i64 0, .int .i64 0, .int .i64 0, .int .i64 0, .int .i64 0, .slice none 0 0, .int .i64 0, .int .i64 0, .int .i64 0, .slice none 0 0, .slice none 0 0, .slice none 0 0, .int .i64 0]) (t := 87) ?hr ?_; (case hd => rfl); (case hg => rfl); (case hr => first | (go_simp; done) | (go_simp; rfl)); intro g2 hg2 v2 kg2 bg2; have Gg2 := Aside0.mk hg2; clear hg2; have H2 := Aside0.mk kg2; have H12 := Aside0.mk (keepB H1.out bg2); have HBw := Aside0.mk (HB1.out.trans (bg2.mono HB1.out.size)); have Hlow1 := Aside0.mk (show w.heap.size ≤ g1 by rw [Gg1.out]; exact Nat.le_refl _); have Hlow2 := Aside0.mk (show w.heap.size ≤ g2 by rw [Gg2.out]; exact HB1.out.size); have Hne := Aside0.mk (show g1 ≠ g2 by have := blk_lt H1.out; have := Gg2.out; omega); clear kg2 bg2 HB1 H1; have c5 : v2.cell? ⟨g1, 5, none⟩ = some (.slice Aq l.q.length cq) := (blk_cell H12.out 5).trans rfl; have c6 : v2.cell? ⟨g1, 6, none⟩ = some (.int .i64 l.base) := (blk_cell H12.out 6).trans rfl)
      | ((with_reducible refine gate_dst (N := 10) rfl ?_); refine wpList_load_row rfl 81 (.tmp 2) rfl g1 rfl 81 _ (0, 0) _ H12.out Try.underlying81 rfl info81s ?_)
      | ((with_reducible refine gate_store (t := 87) (p := 4) rfl ?_); refine wpList_store_row rfl 87 (.tmp 4) (.tmp 11) rfl g2 #[.int .i64 l.x.f0, .int .i64 l.x.f1, .int .i64 l.x.f2, .int .i64 l.x.f3, .int .i64 l.x.f4, .slice Aq l.q.length cq, .int .i64 l.base, .int .i64 l.out, .int .i64 l.want, .slice Ae l.er.length ce, .slice none 0 0, .slice none 0 0, .int .i64 1] rfl rfl 87 _ H2.out info87s rfl (by rw [List.all_toArray]; rfl) ?_))
    refine bodyPost_ret (results_cell_row rfl _ _ g2 87 #[.int .i64 l.x.f0, .int .i64 l.x.f1, .int .i64 l.x.f2, .int .i64 l.x.f3, .int .i64 l.x.f4, .slice Aq l.q.length cq, .int .i64 l.base, .int .i64 l.out, .int .i64 l.want, .slice Ae l.er.length ce, .slice none 0 0, .slice none 0 0, .int .i64 1] (0, 0) _ rfl (setRow_heap _ _ _ _ _ _ H2.out) hu87 rfl info87s) rfl ?_
    exact send13_no HQ0.out (below_setRow HBw.out Hlow2.out _) HE.out (by decide)
  · have d1 : decide ((32768 : Int) < (s.size : Int)) = false := decide_eq_false (by omega)
    by_cases h2 : 1099511627775 ≤ l.base + l.q.length
    · have d2 : decide (1099511627775 ≤ l.base + (l.q.length : Int)) = true := decide_eq_true h2
      have HE := Aside0.mk (show sdE l s = 13 by unfold sdE; rw [if_neg h1, if_pos h2])
      clear h1 h2
      go_enter Try.func45, Try.ntmps45
      go_wp2_with (first
        | ((with_reducible refine gate_dst (N := 2) rfl ?_); refine box_event ?hg (N := 2) ?hd (cs := #[.int .i64 l.x.f0, .int .i64 l.x.f1, .int .i64 l.x.f2, .int .i64 l.x.f3, .int .i64 l.x.f4, .slice Aq l.q.length cq, .int .i64 l.base, .int .i64 l.out, .int .i64 l.want, .slice Ae l.er.length ce]) (t := 81) ?hr ?_; (case hd => rfl); (case hg => rfl); (case hr => first | (go_simp; done) | (go_simp; rfl)); intro g1 hg1 v1 kg1 bg1; have Gg1 := Aside0.mk hg1; clear hg1; have H1 := Aside0.mk kg1; have HB1 := Aside0.mk bg1; clear kg1 bg1)
        | ((with_reducible refine gate_dst (N := 4) rfl ?_); refine box_event ?hg (N := 4) ?hd (cs := #[.int .i64 0, .int .i64 0, .int .i64 0, .int .i64 0, .int .i64 0, .slice none 0 0, .int .i64 0, .int .i64 0, .int .i64 0, .slice none 0 0, .slice none 0 0, .slice none 0 0, .int .i64 0]) (t := 87) ?hr ?_; (case hd => rfl); (case hg => rfl); (case hr => first | (go_simp; done) | (go_simp; rfl)); intro g2 hg2 v2 kg2 bg2; have Gg2 := Aside0.mk hg2; clear hg2; have H2 := Aside0.mk kg2; have H12 := Aside0.mk (keepB H1.out bg2); have HBw := Aside0.mk (HB1.out.trans (bg2.mono HB1.out.size)); have Hlow1 := Aside0.mk (show w.heap.size ≤ g1 by rw [Gg1.out]; exact Nat.le_refl _); have Hlow2 := Aside0.mk (show w.heap.size ≤ g2 by rw [Gg2.out]; exact HB1.out.size); have Hne := Aside0.mk (show g1 ≠ g2 by have := blk_lt H1.out; have := Gg2.out; omega); clear kg2 bg2 HB1 H1; have c5 : v2.cell? ⟨g1, 5, none⟩ = some (.slice Aq l.q.length cq) := (blk_cell H12.out 5).trans rfl; have c6 : v2.cell? ⟨g1, 6, none⟩ = some (.int .i64 l.base) := (blk_cell H12.out 6).trans rfl)
        | ((with_reducible refine gate_dst (N := 19) rfl ?_); refine wpList_load_row rfl 81 (.tmp 2) rfl g1 rfl 81 _ (0, 0) _ H12.out Try.underlying81 rfl info81s ?_)
        | ((with_reducible refine gate_store (t := 87) (p := 4) rfl ?_); refine wpList_store_row rfl 87 (.tmp 4) (.tmp 20) rfl g2 #[.int .i64 l.x.f0, .int .i64 l.x.f1, .int .i64 l.x.f2, .int .i64 l.x.f3, .int .i64 l.x.f4, .slice Aq l.q.length cq, .int .i64 l.base, .int .i64 l.out, .int .i64 l.want, .slice Ae l.er.length ce, .slice none 0 0, .slice none 0 0, .int .i64 13] rfl rfl 87 _ H2.out info87s rfl (by rw [List.all_toArray]; rfl) ?_))
      refine bodyPost_ret (results_cell_row rfl _ _ g2 87 #[.int .i64 l.x.f0, .int .i64 l.x.f1, .int .i64 l.x.f2, .int .i64 l.x.f3, .int .i64 l.x.f4, .slice Aq l.q.length cq, .int .i64 l.base, .int .i64 l.out, .int .i64 l.want, .slice Ae l.er.length ce, .slice none 0 0, .slice none 0 0, .int .i64 13] (0, 0) _ rfl (setRow_heap _ _ _ _ _ _ H2.out) hu87 rfl info87s) rfl ?_
      exact send13_no HQ0.out (below_setRow HBw.out Hlow2.out _) HE.out (by decide)
    · have d2 : decide (1099511627775 ≤ l.base + (l.q.length : Int)) = false := decide_eq_false h2
      by_cases h3 : 64 ≤ l.q.length
      · have d3 : decide ((64 : Int) ≤ (l.q.length : Int)) = true := decide_eq_true (by omega)
        have d3n : decide (64 ≤ l.q.length) = true := decide_eq_true h3
        have HE := Aside0.mk (show sdE l s = 6 by unfold sdE; rw [if_neg h1, if_neg h2, if_pos h3])
        clear h1 h2
        go_enter Try.func45, Try.ntmps45
        go_wp2_with (first
          | ((with_reducible refine gate_dst (N := 2) rfl ?_); refine box_event ?hg (N := 2) ?hd (cs := #[.int .i64 l.x.f0, .int .i64 l.x.f1, .int .i64 l.x.f2, .int .i64 l.x.f3, .int .i64 l.x.f4, .slice Aq l.q.length cq, .int .i64 l.base, .int .i64 l.out, .int .i64 l.want, .slice Ae l.er.length ce]) (t := 81) ?hr ?_; (case hd => rfl); (case hg => rfl); (case hr => first | (go_simp; done) | (go_simp; rfl)); intro g1 hg1 v1 kg1 bg1; have Gg1 := Aside0.mk hg1; clear hg1; have H1 := Aside0.mk kg1; have HB1 := Aside0.mk bg1; clear kg1 bg1)
          | ((with_reducible refine gate_dst (N := 4) rfl ?_); refine box_event ?hg (N := 4) ?hd (cs := #[.int .i64 0, .int .i64 0, .int .i64 0, .int .i64 0, .int .i64 0, .slice none 0 0, .int .i64 0, .int .i64 0, .int .i64 0, .slice none 0 0, .slice none 0 0, .slice none 0 0, .int .i64 0]) (t := 87) ?hr ?_; (case hd => rfl); (case hg => rfl); (case hr => first | (go_simp; done) | (go_simp; rfl)); intro g2 hg2 v2 kg2 bg2; have Gg2 := Aside0.mk hg2; clear hg2; have H2 := Aside0.mk kg2; have H12 := Aside0.mk (keepB H1.out bg2); have HBw := Aside0.mk (HB1.out.trans (bg2.mono HB1.out.size)); have Hlow1 := Aside0.mk (show w.heap.size ≤ g1 by rw [Gg1.out]; exact Nat.le_refl _); have Hlow2 := Aside0.mk (show w.heap.size ≤ g2 by rw [Gg2.out]; exact HB1.out.size); have Hne := Aside0.mk (show g1 ≠ g2 by have := blk_lt H1.out; have := Gg2.out; omega); clear kg2 bg2 HB1 H1; have c5 : v2.cell? ⟨g1, 5, none⟩ = some (.slice Aq l.q.length cq) := (blk_cell H12.out 5).trans rfl; have c6 : v2.cell? ⟨g1, 6, none⟩ = some (.int .i64 l.base) := (blk_cell H12.out 6).trans rfl)
          | ((with_reducible refine gate_dst (N := 25) rfl ?_); refine wpList_load_row rfl 81 (.tmp 2) rfl g1 rfl 81 _ (0, 0) _ H12.out Try.underlying81 rfl info81s ?_)
          | ((with_reducible refine gate_store (t := 87) (p := 4) rfl ?_); refine wpList_store_row rfl 87 (.tmp 4) (.tmp 26) rfl g2 #[.int .i64 l.x.f0, .int .i64 l.x.f1, .int .i64 l.x.f2, .int .i64 l.x.f3, .int .i64 l.x.f4, .slice Aq l.q.length cq, .int .i64 l.base, .int .i64 l.out, .int .i64 l.want, .slice Ae l.er.length ce, .slice none 0 0, .slice none 0 0, .int .i64 6] rfl rfl 87 _ H2.out info87s rfl (by rw [List.all_toArray]; rfl) ?_))
        refine bodyPost_ret (results_cell_row rfl _ _ g2 87 #[.int .i64 l.x.f0, .int .i64 l.x.f1, .int .i64 l.x.f2, .int .i64 l.x.f3, .int .i64 l.x.f4, .slice Aq l.q.length cq, .int .i64 l.base, .int .i64 l.out, .int .i64 l.want, .slice Ae l.er.length ce, .slice none 0 0, .slice none 0 0, .int .i64 6] (0, 0) _ rfl (setRow_heap _ _ _ _ _ _ H2.out) hu87 rfl info87s) rfl ?_
        exact send13_no HQ0.out (below_setRow HBw.out Hlow2.out _) HE.out (by decide)
      · have d3 : decide ((64 : Int) ≤ (l.q.length : Int)) = false := decide_eq_false (by omega)
        have d3n : decide (64 ≤ l.q.length) = false := decide_eq_false h3
        have HE := Aside0.mk (show sdE l s = 0 by unfold sdE; rw [if_neg h1, if_neg h2, if_neg h3])
        have HB2 := Aside0.mk (show Bd { l with q := l.q ++ [s] } from HBd.out.add (by omega) (by omega))
        have hq63 : l.q.length < 64 := by omega
        clear h1 h2
        go_enter Try.func45, Try.ntmps45
        go_wp2_with (first
          | ((with_reducible refine gate_dst (N := 2) rfl ?_); refine box_event ?hg (N := 2) ?hd (cs := #[.int .i64 l.x.f0, .int .i64 l.x.f1, .int .i64 l.x.f2, .int .i64 l.x.f3, .int .i64 l.x.f4, .slice Aq l.q.length cq, .int .i64 l.base, .int .i64 l.out, .int .i64 l.want, .slice Ae l.er.length ce]) (t := 81) ?hr ?_; (case hd => rfl); (case hg => rfl); (case hr => first | (go_simp; done) | (go_simp; rfl)); intro g1 hg1 v1 kg1 bg1; have Gg1 := Aside0.mk hg1; clear hg1; have H1 := Aside0.mk kg1; have HB1 := Aside0.mk bg1; clear kg1 bg1)
          | ((with_reducible refine gate_dst (N := 4) rfl ?_); refine box_event ?hg (N := 4) ?hd (cs := #[.int .i64 0, .int .i64 0, .int .i64 0, .int .i64 0, .int .i64 0, .slice none 0 0, .int .i64 0, .int .i64 0, .int .i64 0, .slice none 0 0, .slice none 0 0, .slice none 0 0, .int .i64 0]) (t := 87) ?hr ?_; (case hd => rfl); (case hg => rfl); (case hr => first | (go_simp; done) | (go_simp; rfl)); intro g2 hg2 v2 kg2 bg2; have Gg2 := Aside0.mk hg2; clear hg2; have H2 := Aside0.mk kg2; have H12 := Aside0.mk (keepB H1.out bg2); have HBw := Aside0.mk (HB1.out.trans (bg2.mono HB1.out.size)); have Hlow1 := Aside0.mk (show w.heap.size ≤ g1 by rw [Gg1.out]; exact Nat.le_refl _); have Hlow2 := Aside0.mk (show w.heap.size ≤ g2 by rw [Gg2.out]; exact HB1.out.size); have Hne := Aside0.mk (show g1 ≠ g2 by have := blk_lt H1.out; have := Gg2.out; omega); clear kg2 bg2 HB1 H1; have c5 : v2.cell? ⟨g1, 5, none⟩ = some (.slice Aq l.q.length cq) := (blk_cell H12.out 5).trans rfl; have c6 : v2.cell? ⟨g1, 6, none⟩ = some (.int .i64 l.base) := (blk_cell H12.out 6).trans rfl))
        clear c5 c6
        go_loopg [5, 6] l.q.length (fun kq v5 v6 w' => ∃ i : Nat, v6 = .int .i64 i ∧ Aside0 (Kd.string.R 9 w' v2.heap.size (fun _ => True) v5 (l.q.take i)) ∧ Aside0 (i + kq = l.q.length) ∧ Aside0 (Below v2.heap.size v2 w'))
        case atStart => exact ⟨0, rfl, ⟨Kd.R_nil _ _ _ _ _⟩, ⟨by omega⟩, ⟨Below.refl _ _⟩⟩
        case round =>
          obtain ⟨i, rfl, HO, HK, HB⟩ := hrel
          have c5 : wr.cell? ⟨g1, 5, none⟩ = some (.slice Aq l.q.length cq) := (blk_cell (keepB H12.out HB.out) 5).trans rfl
          cases gk with
          | zero =>
            have e : i = l.q.length := by have := HK.out; omega
            subst e
            have d5 : decide ((l.q.length : Int) < (l.q.length : Int)) = false := decide_eq_false (by omega)
            have HO2 := Aside0.mk (show Kd.string.R 9 wr v2.heap.size (fun _ => True) u5 l.q by have h := HO.out; rw [List.take_length] at h; exact h)
            clear HO
            obtain ⟨q2, hq2⟩ : ∃ q2, l.q ++ [s] = q2 := ⟨_, rfl⟩
            have HQ2 := Aside0.mk hq2
            have HB2' := Aside0.mk (show Bd { l with q := q2 } by rw [← hq2]; exact HB2.out)
            clear hq2
            go_wp2_with (first
              | ((with_reducible refine gate_builtin (b := .append) (xs := #[.tmp 42, .tmp 44]) rfl ?_); at_builtin; refine Kd.R_append Kd.string (w0 := v2) v2.heap.size rfl (.tmp 42) (.tmp 44) 73 9 (.string ⟨#[]⟩) 16 rfl Try.underlying73 info9 rfl (by decide) (by omega) _ _ s [.string s] (fun _ => True) (fun _ => False) rfl rfl rfl (fun _ hk => hk.elim) (fun _ _ => trivial) HO2.out HB.out HB.out.size (by omega) ?_; intro v1' w1 h1 h2 h3 h4; rw [HQ2.out] at h1; obtain ⟨A1, c1, rfl, hc1, hC1⟩ := Kd.R_reads h1; have HV1 := Aside0.mk h1; have HB1 := Aside0.mk h2; clear h1 h2 h3 h4 c5 hC1; have HC1 := Aside0.mk hc1; clear hc1; have c5 : w1.cell? ⟨g1, 5, none⟩ = some (.slice Aq l.q.length cq) := (blk_cell (keepB H12.out HB1.out) 5).trans rfl; have f5 := blk_frozen (keepB H12.out HB1.out) 5)
              | ((with_reducible refine gate_dst (N := 48) rfl ?_); refine wpList_load_row rfl 81 (.tmp 2) rfl g1 rfl 81 _ (0, 0) _ (show (w1.setCell ⟨g1, 5, none⟩ (.slice A1 q2.length c1)).heap[g1]? = some (.cells #[.int .i64 l.x.f0, .int .i64 l.x.f1, .int .i64 l.x.f2, .int .i64 l.x.f3, .int .i64 l.x.f4, .slice A1 q2.length c1, .int .i64 l.base, .int .i64 l.out, .int .i64 l.want, .slice Ae l.er.length ce] 81 (0, 0)) from blk_set (keepB H12.out HB1.out) 5 _) Try.underlying81 rfl info81s ?_)
              | ((with_reducible refine gate_dst (N := 49) rfl ?_); refine goesL_ (some 49) rfl rfl Try.func78 (by kernel_rfl) rfl #[.agg #[.int .i64 l.x.f0, .int .i64 l.x.f1, .int .i64 l.x.f2, .int .i64 l.x.f3, .int .i64 l.x.f4, .slice A1 q2.length c1, .int .i64 l.base, .int .i64 l.out, .int .i64 l.want, .slice Ae l.er.length ce]] rfl (by first | (simp only [List.map_toArray, List.map_cons, List.map_nil]; rfl) | rfl) ?_; refine (goOut13_q HB2'.out (Kd.R_reads' (Kd.R_set HV1.out (keepB H12.out HB1.out) (string_types (by decide)) 5 _)).2.2 HC1.out (Kd.C_below HE0.out (below_cell (HBw.out.trans (HB1.out.mono HBw.out.size)) Hlow1.out _)) hce).mono ?_; rintro e w3 ⟨o, rfl, ho, hb3⟩; obtain ⟨Ao, co, rfl⟩ := Kd.R_slice ho; have HO3 := Aside0.mk ho; have HB3 := Aside0.mk hb3; have H23 := Aside0.mk (keepB (blk_far (keepB H2.out HB1.out) (p := ⟨g1, 5, none⟩) (Ne.symm Hne.out) _) hb3); clear ho hb3 c5 f5; refine ⟨_, rfl, ?_⟩)
              | ((with_reducible refine gate_store (t := 87) (p := 4) rfl ?_); refine wpList_store_row rfl 87 (.tmp 4) (.tmp 49) rfl g2 #[.int .i64 l.x.f0, .int .i64 l.x.f1, .int .i64 l.x.f2, .int .i64 l.x.f3, .int .i64 l.x.f4, .slice A1 q2.length c1, .int .i64 l.base, .int .i64 (goL { l with q := q2 }).out, .int .i64 l.want, .slice Ae l.er.length ce, .slice none 0 0, .slice Ao ((goP { l with q := q2 }).map to58).length co, .int .i64 0] rfl rfl 87 _ H23.out info87s rfl (by rw [List.all_toArray]; rfl) ?_))
            refine bodyPost_ret (results_cell_row rfl _ _ g2 87 #[.int .i64 l.x.f0, .int .i64 l.x.f1, .int .i64 l.x.f2, .int .i64 l.x.f3, .int .i64 l.x.f4, .slice A1 q2.length c1, .int .i64 l.base, .int .i64 (goL { l with q := q2 }).out, .int .i64 l.want, .slice Ae l.er.length ce, .slice none 0 0, .slice Ao ((goP { l with q := q2 }).map to58).length co, .int .i64 0] (0, 0) _ rfl (setRow_heap _ _ _ _ _ _ H23.out) hu87 rfl info87s) rfl ?_
            obtain rfl := HQ2.out
            exact send13_yes HE.out (Kd.R_lower (Kd.R_set HV1.out (keepB H12.out HB1.out) (string_types (by decide)) 5 _) HBw.out.size) (below_cell (HBw.out.trans (HB1.out.mono HBw.out.size)) Hlow1.out _) HO3.out HB3.out H23.out Hlow2.out _
          | succ k1 =>
            have hi : i < l.q.length := by have := HK.out; omega
            have d5 : decide ((i : Int) < (l.q.length : Int)) = true := decide_eq_true (by omega)
            have i0 : (0 : Int) ≤ (i : Int) := by omega
            have i1 : (i : Int) < (l.q.length : Int) := by omega
            obtain ⟨ad, hA, _⟩ := cell_of_C HQ.out hi
            subst hA
            have xt := C_cell HQ.out (HBw.out.trans (HB.out.mono HBw.out.size)) hi
            obtain ⟨x, hx⟩ : ∃ x, l.q.getD i e0 = x := ⟨_, rfl⟩
            rw [hx] at xt
            have HT := Aside0.mk (show l.q.take (i + 1) = l.q.take i ++ [x] by
              rw [List.take_add_one, List.getElem?_eq_getElem hi, ← hx, List.getD_eq_getElem?_getD, List.getElem?_eq_getElem hi]
              rfl)
            clear hx
            go_wp2_with ((with_reducible refine gate_builtin (b := .append) (xs := #[.tmp 34, .tmp 40]) rfl ?_); at_builtin; refine Kd.R_append Kd.string (w0 := v2) v2.heap.size rfl (.tmp 34) (.tmp 40) 73 9 (.string ⟨#[]⟩) 16 rfl Try.underlying73 info9 rfl (by decide) (by omega) _ _ x [.string x] (fun _ => True) (fun _ => False) rfl rfl rfl (fun _ hk => hk.elim) (fun _ _ => trivial) HO.out HB.out HB.out.size (by rw [List.length_take]; omega) ?_; intro v1' w1 h1 h2 h3 h4; have HV1 := Aside0.mk h1; have HB1 := Aside0.mk h2; clear h1 h2 h3 h4 c5 xt)
            go_roundg k1
            case measure => omega
            case rel => exact ⟨i + 1, by first | rfl | simp, ⟨by rw [HT.out]; exact HV1.out⟩, ⟨by have := HK.out; omega⟩, HB1⟩
end Go.Proofs.Ytdibaeomepallaa.LK
