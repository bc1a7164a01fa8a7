/- What is taken from a queue: Poll. By hand. -/
import Derived.Test.YtmcochnofkjhaaaDoorQd
namespace Go.Proofs.YtmcochnofkjhaaaDoor.QU
open Go.RowKit Go.Proofs.YtmcochnofkjhaaaDoorW.PrintWords Go.Proofs.YtmcochnofkjhaaaDoorW.PrintLast Go.Proofs.YtmcochnofkjhaaaDoorW.PrintMore Go.Proofs.YtmcochnofkjhaaaDoor.PAll
set_option linter.unusedVariables false
set_option linter.unusedSimpArgs false
set_option maxRecDepth 100000
theorem QAt.cell1 {w : World} {g m n c : Nat} {q : Qu} {A : Option Addr} (h : QAt w g q (.slice A n c) m) : w.cell? ⟨g, 1, none⟩ = some (.slice A n c) := (blk_cell h.blk 1).trans rfl
theorem QAt.G {w : World} {g m n c : Nat} {q : Qu} {A : Option Addr} (h : QAt w g q (.slice A n c) m) : q.l.length ≤ c ∧ GRow w (fun _ => True) A q.l.length q.l := by
  obtain ⟨h1, h2, h3⟩ := GRow.of_R h.row
  exact ⟨by omega, h3⟩
/-- The queue's row is another one. -/
theorem QAt.row_set {w W : World} {g m n c n2 c2 : Nat} {q : Qu} {A A2 : Option Addr} {l : List S36} {ok : Nat → Prop} (h : QAt w g q (.slice A n c) m) (hb : Below w.heap.size w W) (hr : k36.R 36 W 0 ok (.slice A2 n2 c2) l) (ho : ∀ k, (Value.slice A2 n2 c2).ownBlock = some k → w.heap.size ≤ k) :
    QStep w g (.slice A n c) m { q with l := l } (.slice A2 n2 c2) (W.setCell ⟨g, 1, none⟩ (.slice A2 n2 c2)) := by
  have e1 := keepB h.blk hb
  refine ⟨⟨blk_set e1 1 _, Kd.R_mono (Kd.R_set hr e1 (k36_types (by decide) (by decide)) 1 _) (fun _ _ => trivial), ?_⟩, fun k hk => .inr (ho k hk), (Mods.of_below hb).set (.inl (.inl rfl)) _⟩
  refine (h.below hb).ov.other ?_
  rw [Below.heap_setCell _ _ _ _ h.ne_map]
/-- How many are taken. -/
def pollN (q : Qu) (most : Int) : Nat := (min (max most 0) (q.l.length : Int)).toNat
def PollOut (w : World) (g : Nat) (q : Qu) (v : Value) (m : Nat) (most : Int) (e : Ending) (w' : World) : Prop :=
  ∃ o v', e = .returned o ∧ k36.R 36 w' 0 (fun _ => True) o (q.l.take (pollN q most)) ∧ QStep w g v m { q with l := q.l.drop (pollN q most) } v' w'
theorem info36ex : ∃ i, Tryd.prog.info? 36 = some i ∧ i.size = 7 := by
  have h := info36s
  cases e : Tryd.prog.info? 36 with
  | none => rw [e] at h; cases h
  | some i => rw [e] at h; exact ⟨i, rfl, Option.some.inj h⟩
set_option maxHeartbeats 4000000 in
theorem poll_is {w : World} {g m : Nat} {q : Qu} {v : Value} (h : QAt w g q v m) {k : Nat} (hq : Bq q k) (most : Int) :
    Calls Tryd.prog 11 #[.pointer (some ⟨g, 0, none⟩), .int .i64 most] w (PollOut w g q v m most) := by
  obtain ⟨b1, b2, b3, _, _⟩ := hq
  obtain ⟨A, c, rfl, hcl, hC⟩ := Kd.R_reads h.row
  clear hC
  have HL := Aside0.mk h
  clear h
  by_cases h0 : min (max most 0) (q.l.length : Int) = 0
  · have d1 : (min (max most 0) (q.l.length : Int) == 0) = true := beq_iff_eq.2 h0
    go_enter Tryd.func11, Tryd.ntmps11
    go_wp2_with (((with_reducible refine gate_dst (N := 10) rfl ?_); refine goesL_ (some 10) rfl rfl Tryd.func14 (by kernel_rfl) rfl #[.pointer (some ⟨g, 0, none⟩)] rfl (by first | (simp only [List.map_toArray, List.map_cons, List.map_nil]; rfl) | rfl) ?_; refine (len_is HL.out).mono ?_; rintro e w1 ⟨rfl, hb⟩; have HB := Aside0.mk hb; clear hb; refine ⟨_, rfl, ?_⟩))
    go_ret
    have e0 : pollN q most = 0 := by unfold pollN; rw [h0]; rfl
    refine ⟨_, .slice A q.l.length c, rfl, ?_, ?_⟩
    · rw [e0]; exact Kd.R_nil _ _ _ _ _
    · rw [e0]; exact qstep_refl HL.out HB.out
  · have d1 : (min (max most 0) (q.l.length : Int) == 0) = false := by simpa using h0
    obtain ⟨i, hi, hsz⟩ := info36ex
    have hN : (pollN q most : Int) = min (max most 0) (q.l.length : Int) := by unfold pollN; omega
    have hN1 : pollN q most ≤ q.l.length := by omega
    have hc1 := cut_to (P := Tryd.prog) 37 36 .i64 Tryd.underlying37 hi A q.l.length c (min (max most 0) (q.l.length : Int)) (by omega) (by omega) hcl
    have hc2 := cut_from (P := Tryd.prog) 37 36 .i64 Tryd.underlying37 hi 7 hsz A q.l.length c (min (max most 0) (q.l.length : Int)) (by omega) (by omega)
    rw [show (min (max most 0) (q.l.length : Int)).toNat = pollN q most from rfl] at hc1 hc2
    obtain ⟨A3, hA3⟩ : ∃ A3, A3 = (if c = pollN q most then A else A.map (·.add (pollN q most * 7))) := ⟨_, rfl⟩
    rw [← hA3] at hc2
    have HA3 := Aside0.mk hA3
    clear hA3
    have hl1 : (q.l.take (pollN q most)).length = pollN q most := by rw [List.length_take]; omega
    have hl2 : (q.l.drop (pollN q most)).length = q.l.length - pollN q most := List.length_drop
    go_enter Tryd.func11, Tryd.ntmps11
    go_wp2_with (first
      | ((with_reducible refine gate_dst (N := 10) rfl ?_); refine goesL_ (some 10) rfl rfl Tryd.func14 (by kernel_rfl) rfl #[.pointer (some ⟨g, 0, none⟩)] rfl (by first | (simp only [List.map_toArray, List.map_cons, List.map_nil]; rfl) | rfl) ?_; refine (len_is HL.out).mono ?_; rintro e w1 ⟨rfl, hb⟩; have HB := Aside0.mk hb; have H1 := Aside0.mk (HL.out.below hb); clear hb; have c1 := H1.out.cell1; refine ⟨_, rfl, ?_⟩)
      | ((with_reducible refine gate_dst (N := 20) rfl ?_); refine goesL_ (some 20) rfl rfl Tryd.func27 (by kernel_rfl) rfl #[.slice A (pollN q most) c] rfl (by first | (simp only [List.map_toArray, List.map_cons, List.map_nil]; rfl) | rfl) ?_; refine (cloneG_is (GRow.take H1.out.G.2 hN1) (by omega) (by omega) hl1).mono ?_; rintro e w2 ⟨v1, rfl, hr, ho, hb⟩; have HR1 := Aside0.mk hr; have HB2 := Aside0.mk (HB.out.trans (hb.mono HB.out.size)); clear hr ho hb; have H2 := Aside0.mk (HL.out.below HB2.out); have c2 := H2.out.cell1; refine ⟨_, rfl, ?_⟩)
      | ((with_reducible refine gate_dst (N := 28) rfl ?_); refine goesL_ (some 28) rfl rfl Tryd.func27 (by kernel_rfl) rfl #[.slice A3 (q.l.length - pollN q most) (c - pollN q most)] rfl (by first | (simp only [List.map_toArray, List.map_cons, List.map_nil]; rfl) | rfl) ?_; refine (cloneG_is (HA3.out ▸ GRow.drop H2.out.G.2 hN1 hcl) (by omega) (by omega) hl2).mono ?_; rintro e w3 ⟨v2, rfl, hr, ho, hb⟩; obtain ⟨A2, c2_, rfl⟩ := Kd.R_slice hr; rw [hl2] at hr ho; have HR2 := Aside0.mk hr; have HO2 := Aside0.mk ho; have HB3 := Aside0.mk (HB2.out.trans (hb.mono HB2.out.size)); have HR3 := Aside0.mk (Kd.R_below HR1.out hb); clear hr ho hb; have H3 := Aside0.mk (HL.out.below HB3.out); have c3 := H3.out.cell1; have f3 := blk_frozen H3.out.blk 1; refine ⟨_, rfl, ?_⟩))
    go_ret
    refine ⟨v1, .slice A2 (q.l.length - pollN q most) c2_, rfl, Kd.R_mono (Kd.R_set HR3.out H3.out.blk (k36_types (by decide) (by decide)) 1 _) (fun _ _ => trivial), ?_⟩
    exact HL.out.row_set HB3.out HR2.out (fun k hk => Nat.le_trans HB2.out.size (HO2.out k hk))
/-- The cells of what is given. -/
def gc (G : S36) (v : Value) : Array Value := #[.int .i64 G.f0, .string G.f1, .int .i64 G.f2.f0.f0, .int .i64 G.f2.f0.f1, .int .i64 G.f2.f0.f2, .string G.f2.f1, v]
theorem own_is (w : World) (G : S36) {A : Option Addr} {c : Nat} (hC : k87.C w A G.f2.f2.length G.f2.f2) (hc : G.f2.f2.length ≤ c) (hl : G.f2.f2.length ≤ 1000000) :
    Calls Tryd.prog 26 #[.agg (gc G (.slice A G.f2.f2.length c))] w fun e w' => ∃ v, e = .returned (.agg (gc G v)) ∧ k87.R 87 w' w.heap.size (fun _ => True) v G.f2.f2 ∧ Below w.heap.size w w' :=
  queue_own.calls G.f0 G.f1 G.f2.f0.f0 G.f2.f0.f1 G.f2.f0.f2 G.f2.f1 A c G.f2.f2 _ _ _ _ _ _ _ w hC hc (by unfold queue_own.f api_Attr.f; rw [if_pos (by omega)]; rfl)
end Go.Proofs.YtmcochnofkjhaaaDoor.QU
