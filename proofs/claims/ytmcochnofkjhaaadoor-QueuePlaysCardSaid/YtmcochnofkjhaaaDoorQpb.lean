import Derived.Test.YtmcochnofkjhaaaDoorQnd
import Derived.Test.YtmcochnofkjhaaaDoorQk
import Derived.Test.YtmcochnofkjhaaaDoorPAllx20
/- The document's queue in memory, and what its functions make of it. By hand. -/
namespace Go.Proofs.YtmcochnofkjhaaaDoor.QU
open Go.RowKit Go.Proofs.YtmcochnofkjhaaaDoor.PAll Go.Proofs.YtmcochnofkjhaaaDoorW.PrintWords Go.Proofs.YtmcochnofkjhaaaDoorW.PrintLast Go.Proofs.YtmcochnofkjhaaaDoorW.PrintMore Go.Proofs.YtmcochnofkjhaaaDoor.NQ
set_option linter.unusedVariables false
set_option linter.unusedSimpArgs false
set_option maxRecDepth 100000
/-- The document's row: the rest of one that is owned. -/
def DocL (w : World) (A1 : Option Addr) (c1 : Nat) (L : List S59) : Prop :=
  ∃ (A0 : Option Addr) (c0 : Nat) (L0 : List S59) (p : Nat), k59.R 59 w 0 (fun _ => True) (.slice A0 L0.length c0) L0 ∧ p + L.length = L0.length ∧ L0.drop p = L ∧ (0 < L.length → A1 = A0.map (·.add (p * 7))) ∧ L.length ≤ c1
theorem add_zero_map (A : Option Addr) : A.map (·.add (0 * 7)) = A := by
  cases A with
  | none => rfl
  | some a => simp [Addr.add]
theorem DocL.full {w : World} {A : Option Addr} {c n : Nat} {L : List S59} (h : k59.R 59 w 0 (fun _ => True) (.slice A n c) L) : DocL w A c L := by
  obtain ⟨rfl, hc, _⟩ := Kd.R_reads' h
  exact ⟨A, c, L, 0, h, Nat.zero_add _, rfl, fun _ => (add_zero_map A).symm, hc⟩
theorem DocL.below {w w' : World} {A1 : Option Addr} {c1 : Nat} {L : List S59} (h : DocL w A1 c1 L) (hb : Below w.heap.size w w') : DocL w' A1 c1 L := by
  obtain ⟨A0, c0, L0, p, hr, r⟩ := h
  exact ⟨A0, c0, L0, p, Kd.R_below hr hb, r⟩
theorem DocL.D {w : World} {A1 : Option Addr} {c1 : Nat} {L : List S59} (h : DocL w A1 c1 L) : DRow w A1 L.length L := by
  obtain ⟨A0, c0, L0, p, hr, hp, hd, ha, _⟩ := h
  obtain ⟨_, hc0, hD⟩ := DRow.of_R hr
  have h2 := hD.drop (m := p) (by omega) hc0
  rw [hd] at h2
  rcases Nat.eq_zero_or_pos L.length with h0 | h0
  · exact ⟨rfl, by omega, fun hn => by omega⟩
  · have e : sfA A0 c0 p = A1 := by unfold sfA; rw [if_neg (by omega), ha h0]
    rw [e] at h2
    exact h2
theorem DocL.rest {w : World} {A1 : Option Addr} {c1 n : Nat} {L : List S59} (h : DocL w A1 c1 L) (hn : n ≤ L.length) : DocL w (sfA A1 c1 n) (c1 - n) (L.drop n) := by
  obtain ⟨A0, c0, L0, p, hr, hp, hd, ha, hc⟩ := h
  refine ⟨A0, c0, L0, p + n, hr, by rw [List.length_drop]; omega, by rw [← hd, List.drop_drop], fun h0 => ?_, by rw [List.length_drop]; omega⟩
  rw [List.length_drop] at h0
  unfold sfA
  rw [if_neg (by omega), ha (by omega)]
  cases A0 with
  | none => rfl
  | some a =>
    show some ((a.add (p * 7)).add (n * 7)) = some (a.add ((p + n) * 7))
    rw [add_add, Nat.add_mul]
theorem R_step2 {α : Type} {d : Kd α} {e g m : Nat} {w w' : World} {q q' : Qu} {v v' v0 : Value} {xs : List α} (h : d.R e w 0 (fun _ => True) v0 xs) (hq : QAt w g q v m) (s : QStep w g v m q' v' w') (h1 : ∀ t, t ∈ e :: d.E → t ≠ 68) (h2 : ∀ t, t ∈ e :: d.E → t ≠ 36) : d.R e w' 0 (fun _ => True) v0 xs :=
  Kd.R_mono (Kd.R_step (Kd.R_bound h) (fun k hk hlt => s.mods.block k hlt (by
    obtain ⟨_, _, _, t, ht, cells, hc⟩ := hk
    exact hq.foreign hc (h1 t ht) (h2 t ht)))) (fun _ _ => trivial)
theorem DocL.step {w w' : World} {g m : Nat} {q q' : Qu} {v v' : Value} {A1 : Option Addr} {c1 : Nat} {L : List S59} (h : DocL w A1 c1 L) (hq : QAt w g q v m) (s : QStep w g v m q' v' w') : DocL w' A1 c1 L := by
  obtain ⟨A0, c0, L0, p, hr, r⟩ := h
  exact ⟨A0, c0, L0, p, R_step2 hr hq s (k59_types (by decide) (by decide)) (k59_types (by decide) (by decide)), r⟩
theorem DocL.set {w : World} {A1 : Option Addr} {c1 : Nat} {L : List S59} (h : DocL w A1 c1 L) {ga : Nat} {cs : Array Value} (ha : w.heap[ga]? = some (.cells cs 48 (0, 0))) (cs2 : Array Value) : DocL (w.setRow ga cs2) A1 c1 L := by
  obtain ⟨A0, c0, L0, p, hr, r⟩ := h
  exact ⟨A0, c0, L0, p, R_setRow hr ha (k59_types (by decide) (by decide)) cs2, r⟩
theorem C_take59 {w : World} {A : Option Addr} {L : List S59} {n : Nat} (h : DRow w A L.length L) (hn : n ≤ L.length) : k59.C w A n (L.take n) := by
  have hc := h.C
  refine ⟨by rw [List.length_take]; omega, by have := hc.2.1; omega, fun hp => ?_⟩
  obtain ⟨ad, e, hcell⟩ := hc.2.2 (by omega)
  refine ⟨ad, e, fun j p hj => hcell j p ?_⟩
  rw [List.getElem?_take] at hj
  split at hj
  · exact hj
  · cases hj
/-- What the document's queue is: r, its row and its list of misses. -/
structure DQ (w : World) (r : Qu) (A1 : Option Addr) (c1 : Nat) (AO : Option Addr) (cO : Nat) : Prop where
  doc : DocL w A1 c1 (r.l.map rf)
  over : (Kd.int .i64).R 3 w 0 (fun _ => True) (.slice AO r.os.length cO) r.os
def dqc (r : Qu) (A1 : Option Addr) (c1 : Nat) (AO : Option Addr) (cO : Nat) : Array Value := qd r.room (.slice A1 r.l.length c1) (.slice AO r.os.length cO)
theorem DQ.below {w w' : World} {r : Qu} {A1 AO : Option Addr} {c1 cO : Nat} (h : DQ w r A1 c1 AO cO) (hb : Below w.heap.size w w') : DQ w' r A1 c1 AO cO := ⟨h.doc.below hb, Kd.R_below h.over hb⟩
theorem DQ.step {w w' : World} {g m : Nat} {q q' r : Qu} {v v' : Value} {A1 AO : Option Addr} {c1 cO : Nat} (h : DQ w r A1 c1 AO cO) (hq : QAt w g q v m) (s : QStep w g v m q' v' w') : DQ w' r A1 c1 AO cO := ⟨h.doc.step hq s, R_step2 h.over hq s (by decide) (by decide)⟩
theorem DQ.set {w : World} {r : Qu} {A1 AO : Option Addr} {c1 cO : Nat} (h : DQ w r A1 c1 AO cO) {ga : Nat} {cs : Array Value} (ha : w.heap[ga]? = some (.cells cs 48 (0, 0))) (cs2 : Array Value) : DQ (w.setRow ga cs2) r A1 c1 AO cO := ⟨h.doc.set ha cs2, R_setRow h.over ha (by decide) cs2⟩
/-- Small enough for the document's checks. -/
structure SmG (G : S36) : Prop where
  f1 : G.f1.size ≤ 300
  ty : G.f2.f1.size ≤ 300
  at_ : SmA G.f2.f2
theorem may_off {G : S36} : mayB G = true ↔ ¬ (G.f0 < 1 ∨ chk G.f1.data.toList ≠ 0 ∨ evB G.f2 = false) := by
  unfold mayB
  rw [Bool.and_eq_true, Bool.and_eq_true, decide_eq_true_iff, beq_iff_eq]
  constructor
  · rintro ⟨h1, h2, h3⟩ (h | h | h)
    · omega
    · exact h h2
    · rw [h] at h3; cases h3
  · intro h
    refine ⟨by omega, ?_, ?_⟩
    · exact Decidable.byContradiction fun e => h (.inr (.inl e))
    · cases e : evB G.f2 with
      | true => rfl
      | false => exact absurd (.inr (.inr e)) h
/-- The document's Offer. -/
theorem docOffer_is {w : World} {r : Qu} {A1 AO : Option Addr} {c1 cO : Nat} (h : DQ w r A1 c1 AO cO) (hl : r.l.length ≤ 1000) (ho : r.os.length ≤ 1000) (G : S36) (hG : SmG G) {Ag : Option Addr} {cg : Nat} (hg : k104.R 104 w 0 (fun _ => True) (.slice Ag G.f2.f2.length cg) (G.f2.f2.map ra)) :
    Calls Tryd.prog 18 #[.agg (dqc r A1 c1 AO cO), .agg (xc (rf G) (.slice Ag G.f2.f2.length cg))] w fun e w' => ∃ A1' c1' AO' cO', e = .returned (.tuple #[.agg (dqc (offQ r G (chk G.f1.data.toList) (evB G.f2)) A1' c1' AO' cO'), .int .i64 (offE r G (chk G.f1.data.toList) (evB G.f2))]) ∧ DQ w' (offQ r G (chk G.f1.data.toList) (evB G.f2)) A1' c1' AO' cO' ∧ Below w.heap.size w w' := by
  have hL : (r.l.map rf).length = r.l.length := List.length_map _
  have hc1 : r.l.length ≤ c1 := by obtain ⟨_, _, _, _, _, _, _, _, hc⟩ := h.doc; rw [hL] at hc; exact hc
  have hD : DRow w A1 r.l.length (r.l.map rf) := hL ▸ h.doc.D
  obtain ⟨_, hcO, hOC⟩ := Kd.R_reads' h.over
  have hgl : (rf G).f2.f2.length = G.f2.f2.length := List.length_map _
  have hg' : k104.R 104 w 0 (fun _ => True) (.slice Ag (rf G).f2.f2.length cg) (rf G).f2.f2 := by rw [hgl]; exact hg
  have hcg : G.f2.f2.length ≤ cg := (Kd.R_reads' hg).2.1
  have hgC : k104.C w Ag G.f2.f2.length (G.f2.f2.map ra) := by have h0 := (Kd.R_reads' hg).2.2; rwa [List.length_map] at h0
  have hmay : ∀ w' : World, Below w.heap.size w w' → Calls Tryd.prog 31 #[.agg (xc (rf G) (.slice Ag (rf G).f2.f2.length cg))] w' fun e w'' => e = .returned (.bool (mayB G)) ∧ Below w'.heap.size w' w'' := fun w' hb => by
    rw [hgl]
    exact may31_is G hG.f1 hG.ty hG.at_ rfl (Kd.C_below hgC hb) hcg
  unfold offQ offE dqc
  by_cases hm : mayB G = true
  · rw [if_neg (may_off.1 hm), if_neg (may_off.1 hm)]
    by_cases hf : r.room ≤ r.l.length
    · rw [if_pos hf, if_pos hf]
      have h0 := offer18_full r.room (rf G) hD hL hc1 (by omega) hOC rfl hcO (by omega) hg' true (hm ▸ hmay) rfl (by omega)
      rw [hgl] at h0
      refine h0.mono (fun e w' ⟨Av, cv, he, hr, hb⟩ => ⟨A1, c1, Av, cv, ?_, ⟨h.doc.below hb, ?_⟩, hb⟩)
      · rw [he]
        show Ending.returned (.tuple #[.agg (qd r.room (.slice A1 r.l.length c1) (.slice Av (r.os.length + 1) cv)), .int .i64 6]) = .returned (.tuple #[.agg (qd r.room (.slice A1 r.l.length c1) (.slice Av (r.os ++ [G.f0]).length cv)), .int .i64 6])
        rw [List.length_append]
        rfl
      · show (Kd.int .i64).R 3 w' 0 (fun _ => True) (.slice Av (r.os ++ [G.f0]).length cv) (r.os ++ [G.f0])
        rw [List.length_append]
        exact hr
    · rw [if_neg hf, if_neg hf]
      have h0 := offer18_ok r.room (rf G) hD hL hc1 (by omega) hOC rfl hcO (by omega) hg' true (hm ▸ hmay) rfl (by omega)
      rw [hgl] at h0
      refine h0.mono (fun e w' ⟨Av, cv, he, hr, hb⟩ => ⟨Av, cv, AO, cO, ?_, ⟨?_, Kd.R_below h.over hb⟩, hb⟩)
      · rw [he]
        show Ending.returned (.tuple #[.agg (qd r.room (.slice Av (r.l.length + 1) cv) (.slice AO r.os.length cO)), .int .i64 0]) = .returned (.tuple #[.agg (qd r.room (.slice Av (r.l ++ [G]).length cv) (.slice AO r.os.length cO)), .int .i64 0])
        rw [List.length_append]
        rfl
      · show DocL w' Av cv ((r.l ++ [G]).map rf)
        rw [List.map_append]
        exact DocL.full hr
  · have hm' : mayB G = false := by simpa using hm
    have hx : G.f0 < 1 ∨ chk G.f1.data.toList ≠ 0 ∨ evB G.f2 = false := Decidable.byContradiction fun e => hm (may_off.2 e)
    rw [if_pos hx, if_pos hx]
    have h0 := offer18_no r.room (rf G) hD hL hc1 (by omega) hOC rfl hcO (by omega) hg' false (hm' ▸ hmay) rfl
    rw [hgl] at h0
    exact h0.mono (fun e w' ⟨he, hb⟩ => ⟨A1, c1, AO, cO, he, h.below hb, hb⟩)
/-- The document's Poll. -/
theorem docPoll_is {w : World} {r : Qu} {A1 AO : Option Addr} {c1 cO : Nat} (h : DQ w r A1 c1 AO cO) (hl : r.l.length ≤ 1000) (most : Int) :
    Calls Tryd.prog 20 #[.agg (dqc r A1 c1 AO cO), .int .i64 most] w fun e w' => ∃ A1' c1', e = .returned (.tuple #[.agg (dqc { r with l := r.l.drop (pollN r most) } A1' c1' AO cO), .slice A1 (pollN r most) c1]) ∧ DQ w' { r with l := r.l.drop (pollN r most) } A1' c1' AO cO ∧ Below w.heap.size w w' := by
  have hL : (r.l.map rf).length = r.l.length := List.length_map _
  have hc1 : r.l.length ≤ c1 := by obtain ⟨_, _, _, _, _, _, _, _, hc⟩ := h.doc; rw [hL] at hc; exact hc
  have hp : pn r.l.length most = pollN r most := rfl
  have hpl : pollN r most ≤ r.l.length := by unfold pollN; omega
  unfold dqc
  refine (poll20_is r.room most hc1 (by omega)).mono (fun e w' ⟨he, hb⟩ => ⟨sfA A1 c1 (pollN r most), c1 - pollN r most, ?_, ⟨?_, Kd.R_below h.over hb⟩, hb⟩)
  · rw [he, hp]
    show Ending.returned (.tuple #[.agg (qd r.room (.slice (sfA A1 c1 (pollN r most)) (r.l.length - pollN r most) (c1 - pollN r most)) (.slice AO r.os.length cO)), .slice A1 (pollN r most) c1]) = .returned (.tuple #[.agg (qd r.room (.slice (sfA A1 c1 (pollN r most)) (r.l.drop (pollN r most)).length (c1 - pollN r most)) (.slice AO r.os.length cO)), .slice A1 (pollN r most) c1])
    rw [List.length_drop]
  · show DocL w' _ _ ((r.l.drop (pollN r most)).map rf)
    rw [List.map_drop]
    exact (h.doc.rest (by rw [hL]; exact hpl)).below hb
/-- The document's Forget. -/
theorem docForget_is {w : World} {r : Qu} {A1 AO : Option Addr} {c1 cO : Nat} (h : DQ w r A1 c1 AO cO) (hl : r.l.length ≤ 1000) (ho : r.os.length ≤ 1000) (sub : Int) :
    Calls Tryd.prog 22 #[.agg (dqc r A1 c1 AO cO), .int .i64 sub] w fun e w' => ∃ A1' c1' AO' cO', e = .returned (.agg (dqc (fgQ r sub) A1' c1' AO' cO')) ∧ DQ w' (fgQ r sub) A1' c1' AO' cO' ∧ Below w.heap.size w w' := by
  have hL : (r.l.map rf).length = r.l.length := List.length_map _
  have hc1 : r.l.length ≤ c1 := by obtain ⟨_, _, _, _, _, _, _, _, hc⟩ := h.doc; rw [hL] at hc; exact hc
  have hD : DRow w A1 r.l.length (r.l.map rf) := hL ▸ h.doc.D
  obtain ⟨_, hcO, hOC⟩ := Kd.R_reads' h.over
  have hf : (r.l.map rf).filter (fun x => !(x.f0 == sub)) = (fl r sub).map rf := by
    unfold fl
    rw [List.filter_map]
    rfl
  have ho2 : r.os.filter (fun x => !(x == sub)) = (fgQ r sub).os := rfl
  unfold dqc
  refine (forget22_is r.room sub hD hL hc1 (by omega) hOC rfl hcO (by omega)).mono (fun e w' ⟨v, u, he, hv, hu, hb⟩ => ?_)
  rw [hf] at hv
  rw [ho2] at hu
  obtain ⟨Av, cv, rfl, _, hv⟩ := R_named (n := (fl r sub).length) hv (List.length_map _)
  obtain ⟨Au, cu, rfl⟩ := Kd.R_slice hu
  exact ⟨Av, cv, Au, cu, he, ⟨DocL.full hv, hu⟩, hb⟩
end Go.Proofs.YtmcochnofkjhaaaDoor.QU
/- QueuePlays: the law's state; what acts are few; misses. By hand. -/
namespace Go.Proofs.YtmcochnofkjhaaaDoor.QU
open Go.RowKit Go.Proofs.YtmcochnofkjhaaaDoor.PAll Go.Proofs.YtmcochnofkjhaaaDoorW.PrintWords Go.Proofs.YtmcochnofkjhaaaDoorW.PrintLast Go.Proofs.YtmcochnofkjhaaaDoorW.PrintMore Go.Proofs.YtmcochnofkjhaaaDoor.NQ
set_option linter.unusedVariables false
set_option linter.unusedSimpArgs false
set_option maxRecDepth 100000
def z51 : S51 := ⟨0, 0, z36⟩
def rd_T51 (xs : List S51) (i : Int) : S51 := xs.getD i.toNat z51
theorem at_T51 {w : World} {A : Option Addr} {n : Nat} {xs : List S51} (h : Kd.C k51 w A n xs) (i : Int) (h0 : 0 ≤ i) (h1 : i < n) : ∃ ad A8 c8, A = some ad ∧ w.cell? (ad.add (i.toNat * 9)) = some (.int .i64 (rd_T51 xs i).f0) ∧ w.cell? ⟨(ad.add (i.toNat * 9)).block, (ad.add (i.toNat * 9)).off + 1, none⟩ = some (.int .i64 (rd_T51 xs i).f1) ∧ w.cell? ⟨(ad.add (i.toNat * 9)).block, (ad.add (i.toNat * 9)).off + 2, none⟩ = some (.int .i64 (rd_T51 xs i).f2.f0) ∧ w.cell? ⟨(ad.add (i.toNat * 9)).block, (ad.add (i.toNat * 9)).off + 3, none⟩ = some (.string (rd_T51 xs i).f2.f1) ∧ w.cell? ⟨(ad.add (i.toNat * 9)).block, (ad.add (i.toNat * 9)).off + 4, none⟩ = some (.int .i64 (rd_T51 xs i).f2.f2.f0.f0) ∧ w.cell? ⟨(ad.add (i.toNat * 9)).block, (ad.add (i.toNat * 9)).off + 5, none⟩ = some (.int .i64 (rd_T51 xs i).f2.f2.f0.f1) ∧ w.cell? ⟨(ad.add (i.toNat * 9)).block, (ad.add (i.toNat * 9)).off + 6, none⟩ = some (.int .i64 (rd_T51 xs i).f2.f2.f0.f2) ∧ w.cell? ⟨(ad.add (i.toNat * 9)).block, (ad.add (i.toNat * 9)).off + 7, none⟩ = some (.string (rd_T51 xs i).f2.f2.f1) ∧ w.cell? ⟨(ad.add (i.toNat * 9)).block, (ad.add (i.toNat * 9)).off + 8, none⟩ = some (.slice A8 (rd_T51 xs i).f2.f2.f2.length c8) ∧ (rd_T51 xs i).f2.f2.f2.length ≤ c8 ∧ k87.C w A8 (rd_T51 xs i).f2.f2.f2.length (rd_T51 xs i).f2.f2.f2 := by
  obtain ⟨ad, c, e, _, hK, hc0⟩ := Kd.C_get h z51 i h0 h1
  have hc : ∀ j u, c[j]? = some u → w.cell? (ad.add (i.toNat * 9 + j)) = some u := hc0
  obtain ⟨A8, c8, rfl, l8, g8⟩ := k51_open hK
  exact ⟨ad, A8, c8, e, hc 0 _ rfl, by rw [← add_field _ _ 1 (by omega)]; exact hc 1 _ rfl, by rw [← add_field _ _ 2 (by omega)]; exact hc 2 _ rfl, by rw [← add_field _ _ 3 (by omega)]; exact hc 3 _ rfl, by rw [← add_field _ _ 4 (by omega)]; exact hc 4 _ rfl, by rw [← add_field _ _ 5 (by omega)]; exact hc 5 _ rfl, by rw [← add_field _ _ 6 (by omega)]; exact hc 6 _ rfl, by rw [← add_field _ _ 7 (by omega)]; exact hc 7 _ rfl, by rw [← add_field _ _ 8 (by omega)]; exact hc 8 _ rfl, l8, g8⟩
theorem fewA_true (l : List S87) : ∀ (d i k : Nat), l.length - i ≤ d → caduceuslaw04_FewAttrs.l0 k l (i : Int) = some true → ∀ j, i ≤ j → (h : j < l.length) → j ≤ 40 ∧ l[j].f0.size ≤ 200 ∧ l[j].f1.f2.size ≤ 500 := by
  intro d
  induction d with
  | zero => intro i k h1 h2 j hj h; omega
  | succ d ih =>
    intro i k h1 h2 j hj h
    cases k with
    | zero => simp [caduceuslaw04_FewAttrs.l0] at h2
    | succ k =>
      unfold caduceuslaw04_FewAttrs.l0 at h2
      have hi : i < l.length := by omega
      rw [if_pos (by omega)] at h2
      by_cases c1 : (i : Int) > 40
      · rw [if_pos c1] at h2; cases h2
      · rw [if_neg c1, if_pos (by omega), rd87 l i hi] at h2
        by_cases c2 : (l[i].f0.size : Int) > 200
        · rw [if_pos c2] at h2; cases h2
        · rw [if_neg c2] at h2
          by_cases c3 : (l[i].f1.f2.size : Int) > 500
          · rw [if_pos c3] at h2; cases h2
          · rw [if_neg c3, show wrap64 ((i : Int) + 1) = ((i + 1 : Nat) : Int) by unfold wrap64; omega] at h2
            rcases Nat.eq_or_lt_of_le hj with e | e
            · subst e
              exact ⟨by omega, by omega, by omega⟩
            · exact ih (i + 1) k (by omega) h2 j e h
theorem few_true {k : Nat} {x1 x2 : Int} {G : S36} (h : caduceuslaw18_few.f k x1 x2 G.f0 G.f1 G.f2.f0.f0 G.f2.f0.f1 G.f2.f0.f2 G.f2.f1 G.f2.f2 = some true) : SmG G := by
  unfold caduceuslaw18_few.f caduceuslaw06_Few.f caduceuslaw04_FewAttrs.f at h
  by_cases h1 : (G.f1.size : Int) ≤ 200
  · by_cases h2 : (G.f2.f1.size : Int) ≤ 200
    · rw [if_pos h1, if_pos h2] at h
      have h3 : caduceuslaw04_FewAttrs.l0 k G.f2.f2 ((0 : Nat) : Int) = some true := by
        cases e : caduceuslaw04_FewAttrs.l0 k G.f2.f2 0 with
        | none => rw [e] at h; cases h
        | some b =>
          rw [e] at h
          have : b = true := by simpa using h
          rw [this]
      have h4 := fewA_true G.f2.f2 G.f2.f2.length 0 k (by omega) h3
      refine ⟨by omega, by omega, ?_, fun x hx => ?_⟩
      · rcases Nat.lt_or_ge 41 G.f2.f2.length with e | e
        · have := (h4 41 (by omega) e).1; omega
        · omega
      · obtain ⟨j, hj, rfl⟩ := List.getElem_of_mem hx
        have := h4 j (by omega) hj
        omega
    · rw [if_pos h1, if_neg h2] at h; cases h
  · rw [if_neg h1] at h; cases h
theorem missed_l (rm : Int) (L : List S59) (os : List Int) (sub : Int) (hl : os.length ≤ 1000) : ∀ (d i c k : Nat), os.length - i ≤ d → d + 1 ≤ k → i ≤ os.length → c ≤ i → caduceusref18_Queue_Missed.l0 k sub (c : Int) (i : Int) rm L os = some (((c + (os.drop i).count sub : Nat)) : Int) := by
  intro d
  induction d with
  | zero =>
    intro i c k h1 h2 h3 h4
    obtain ⟨k, rfl⟩ : ∃ m, k = m + 1 := ⟨k - 1, by omega⟩
    unfold caduceusref18_Queue_Missed.l0
    rw [if_neg (by omega), List.drop_eq_nil_of_le (by omega)]
    rfl
  | succ d ih =>
    intro i c k h1 h2 h3 h4
    obtain ⟨k, rfl⟩ : ∃ m, k = m + 1 := ⟨k - 1, by omega⟩
    unfold caduceusref18_Queue_Missed.l0
    by_cases c1 : (i : Int) < (os.length : Int)
    · have hi : i < os.length := by omega
      have hrd : rd os (i : Int) = os[i] := by
        unfold rd
        rw [Int.toNat_natCast, List.getD_eq_getElem?_getD, List.getElem?_eq_getElem hi]
        rfl
      rw [if_pos c1, if_pos (by omega), hrd, List.drop_eq_getElem_cons hi, List.count_cons, show wrap64 ((i : Int) + 1) = ((i + 1 : Nat) : Int) by unfold wrap64; omega]
      by_cases c2 : os[i] = sub
      · rw [if_pos c2, show wrap64 ((c : Int) + 1) = ((c + 1 : Nat) : Int) by unfold wrap64; omega]
        rw [ih (i + 1) (c + 1) k (by omega) (by omega) (by omega) (by omega), if_pos (by simpa using c2)]
        congr 2
        omega
      · rw [if_neg c2, ih (i + 1) c k (by omega) (by omega) (by omega) (by omega), if_neg (by simpa using c2)]
        rfl
    · rw [if_neg c1, List.drop_eq_nil_of_le (by omega)]
      rfl
theorem docMissed_is {w : World} {r : Qu} {A1 AO : Option Addr} {c1 cO : Nat} (h : DQ w r A1 c1 AO cO) (ho : r.os.length ≤ 1000) (sub : Int) :
    Calls Tryd.prog 23 #[.agg (dqc r A1 c1 AO cO), .int .i64 sub] w fun e w' => e = .returned (.int .i64 (r.os.count sub)) ∧ Below w.heap.size w w' := by
  have hL : (r.l.map rf).length = r.l.length := List.length_map _
  have hc1 : (r.l.map rf).length ≤ c1 := by obtain ⟨_, _, _, _, _, _, _, _, hc⟩ := h.doc; exact hc
  obtain ⟨_, hcO, hOC⟩ := Kd.R_reads' h.over
  have hm : caduceusref18_Queue_Missed.f (r.os.length + 1) r.room (r.l.map rf) r.os sub = some ((r.os.count sub : Nat) : Int) := by
    unfold caduceusref18_Queue_Missed.f
    have := missed_l r.room (r.l.map rf) r.os sub ho r.os.length 0 0 (r.os.length + 1) (by omega) (Nat.le_refl _) (Nat.zero_le _) (Nat.le_refl _)
    rw [List.drop_zero, Nat.zero_add] at this
    exact this
  have h0 := caduceusref18_Queue_Missed.calls (r.os.length + 1) r.room A1 c1 (r.l.map rf) AO cO r.os sub _ w h.doc.D.C hc1 hOC hcO hm
  rw [hL] at h0
  exact h0
/-- The law's world: the queue q, the document's r in the box gr. -/
structure PS (W w : World) (g m gr : Nat) (q : Qu) (v : Value) (r : Qu) (A1 : Option Addr) (c1 : Nat) (AO : Option Addr) (cO : Nat) : Prop where
  qs : QS W w g m q v
  box : w.heap[gr]? = some (.cells (dqc r A1 c1 AO cO) 48 (0, 0))
  lr : W.heap.size ≤ gr
  dq : DQ w r A1 c1 AO cO
section
variable {W w w' : World} {g m gr : Nat} {q q' r : Qu} {v v' : Value} {A1 AO : Option Addr} {c1 cO : Nat}
theorem PS.below (h : PS W w g m gr q v r A1 c1 AO cO) (hb : Below w.heap.size w w') : PS W w' g m gr q v r A1 c1 AO cO := ⟨h.qs.below hb, keepB h.box hb, h.lr, h.dq.below hb⟩
theorem PS.step (h : PS W w g m gr q v r A1 c1 AO cO) (s : QStep w g v m q' v' w') : PS W w' g m gr q' v' r A1 c1 AO cO := ⟨h.qs.step s, s.keep h.qs.qu h.box (by decide) (by decide), h.lr, h.dq.step h.qs.qu s⟩
theorem QAt.besideRow (h : QAt w g q v m) {ga t : Nat} {cs : Array Value} (ha : w.heap[ga]? = some (.cells cs t (0, 0))) (h1 : t ≠ 68) (h2 : 36 ≠ t) (h3 : 87 ≠ t) (cs2 : Array Value) : QAt (w.setRow ga cs2) g q v m := by
  have hn := h.foreign ha h1 (fun e => h2 e.symm)
  refine ⟨?_, R_setRow h.row ha (k36_types h2 h3) cs2, h.ov.other ?_⟩
  · rw [setRow_other w ga g cs2 (fun e => hn (.inl e.symm))]; exact h.blk
  · exact setRow_other w ga m cs2 (fun e => hn (.inr (.inl e.symm)))
/-- The document's queue has turned: the new one lies in the box b, and is laid into gr. -/
theorem PS.put (h : PS W w g m gr q v r A1 c1 AO cO) (hb : Below w.heap.size w w') {r' : Qu} {A1' AO' : Option Addr} {c1' cO' b : Nat} {z : Array Value} (hd : DQ w' r' A1' c1' AO' cO') (hz : w'.heap[b]? = some (.cells z 48 (0, 0))) (hnb : w.heap.size ≤ b) :
    PS W ((w'.setRow b (dqc r' A1' c1' AO' cO')).setRow gr (dqc r' A1' c1' AO' cO')) g m gr q v r' A1' c1' AO' cO' ∧ (w'.setRow b (dqc r' A1' c1' AO' cO')).heap[b]? = some (.cells (dqc r' A1' c1' AO' cO') 48 (0, 0)) ∧ (w'.setRow b (dqc r' A1' c1' AO' cO')).heap[gr]? = some (.cells (dqc r A1 c1 AO cO) 48 (0, 0)) := by
  have hgr := blk_lt h.box
  have h1 := h.below hb
  have hx : (w'.setRow b (dqc r' A1' c1' AO' cO')).heap[gr]? = some (.cells (dqc r A1 c1 AO cO) 48 (0, 0)) := by rw [setRow_other _ _ _ _ (by omega)]; exact h1.box
  have h2 : QS W (w'.setRow b (dqc r' A1' c1' AO' cO')) g m q v := ⟨h1.qs.qu.besideRow hz (by decide) (by decide) (by decide) _, below_setRow h1.qs.bel (Nat.le_trans h.qs.bel.size hnb) _, h1.qs.low⟩
  refine ⟨⟨⟨h2.qu.besideRow hx (by decide) (by decide) (by decide) _, below_setRow h2.bel h.lr _, h2.low⟩, setRow_heap _ _ _ _ _ _ hx, h.lr, (hd.set hz _).set hx _⟩, setRow_heap _ _ _ _ _ _ hz, hx⟩
end
theorem lit36 (w : World) (G : S36) {A6 : Option Addr} {c6 : Nat} (hC : k87.C w A6 G.f2.f2.length G.f2.f2) (hc : G.f2.f2.length ≤ c6) : k36.C (w.alloc (.cells (gc G (.slice A6 G.f2.f2.length c6)) 36 (0, 0))) (some ⟨w.heap.size, 0, none⟩) 1 [G] := by
  have hk := k36_mk (w.alloc (.cells (gc G (.slice A6 G.f2.f2.length c6)) 36 (0, 0))) G hc (Kd.C_below hC (below_alloc (Below.refl _ _) _))
  have hb := blk_new w (.cells (gc G (.slice A6 G.f2.f2.length c6)) 36 (0, 0))
  refine ⟨rfl, by decide, fun _ => ⟨⟨w.heap.size, 0, none⟩, rfl, fun j p hp => ?_⟩⟩
  have hj : j = 0 := by rcases j with _ | j; rfl; simp at hp
  subst hj
  have hpG : G = p := by simpa using hp
  subst hpG
  refine ⟨_, rfl, hk, fun i u hu => ?_⟩
  rw [show (⟨w.heap.size, 0, none⟩ : Addr).add (0 * k36.sz + i) = ⟨w.heap.size, i, none⟩ by simp [Addr.add]; intro h; exact h.symm]
  rw [blk_cell hb i]
  simpa [gc] using hu
/-- What the document's row of one holds. -/
abbrev RG (w : World) (adv : Addr) (Ag : Option Addr) (cg : Nat) (G : S36) : Prop := w.cell? adv = some (.int .i64 G.f0) ∧ w.cell? ⟨adv.block, adv.off + 1, none⟩ = some (.string G.f1) ∧ w.cell? ⟨adv.block, adv.off + 2, none⟩ = some (.int .i64 G.f2.f0.f0) ∧ w.cell? ⟨adv.block, adv.off + 3, none⟩ = some (.int .i64 G.f2.f0.f1) ∧ w.cell? ⟨adv.block, adv.off + 4, none⟩ = some (.int .i64 G.f2.f0.f2) ∧ w.cell? ⟨adv.block, adv.off + 5, none⟩ = some (.string G.f2.f1) ∧ w.cell? ⟨adv.block, adv.off + 6, none⟩ = some (.slice Ag G.f2.f2.length cg) ∧ k104.R 104 w 0 (fun _ => True) (.slice Ag G.f2.f2.length cg) (G.f2.f2.map ra)
theorem RG.below {w w' : World} {adv : Addr} {Ag : Option Addr} {cg : Nat} {G : S36} (h : RG w adv Ag cg G) (hb : Below w.heap.size w w') : RG w' adv Ag cg G :=
  ⟨cellB hb h.1, cellB hb h.2.1, cellB hb h.2.2.1, cellB hb h.2.2.2.1, cellB hb h.2.2.2.2.1, cellB hb h.2.2.2.2.2.1, cellB hb h.2.2.2.2.2.2.1, Kd.R_below h.2.2.2.2.2.2.2 hb⟩
theorem refs_n {w : World} {A : Option Addr} {c n : Nat} {l : List S36} (hn : l.length = n) (hC : k36.C w A n l) (hc : n ≤ c) (hl : n ≤ 100000) (hS : ∀ G ∈ l, G.f2.f2.length ≤ 1000000) :
    Calls Tryd.prog 19 #[.slice A n c] w fun e w' => ∃ Av cv, e = .returned (.slice Av n cv) ∧ k59.R 59 w' w.heap.size (fun _ => True) (.slice Av n cv) (l.map rf) ∧ Below w.heap.size w w' := by
  subst hn
  exact refs_is hC hc hl hS
theorem Bq.offQ {q : Qu} {k : Nat} (h : Bq q k) (G : S36) (c : Int) (b : Bool) : Bq (offQ q G c b) (k + 1) := by
  obtain ⟨r1, r, l, o, hn⟩ := h
  unfold QU.offQ
  by_cases hx : G.f0 < 1 ∨ c ≠ 0 ∨ b = false
  · rw [if_pos hx]; exact ⟨r1, r, l, o, by omega⟩
  · rw [if_neg hx]
    by_cases hf : q.room ≤ q.l.length
    · rw [if_pos hf]
      exact ⟨r1, r, l, by rw [List.length_append]; show _ + 1 ≤ _; dsimp only; omega, by dsimp only; omega⟩
    · rw [if_neg hf]
      exact ⟨r1, r, by rw [List.length_append]; show _ + 1 ≤ _; dsimp only; omega, o, by dsimp only; omega⟩
theorem Sm.offQ {q : Qu} (h : Sm q) {G : S36} (hG : G.f2.f2.length ≤ 1000000) (c : Int) (b : Bool) : Sm (offQ q G c b) := by
  unfold QU.offQ
  by_cases hx : G.f0 < 1 ∨ c ≠ 0 ∨ b = false
  · rw [if_pos hx]; exact h
  · rw [if_neg hx]
    by_cases hf : q.room ≤ q.l.length
    · rw [if_pos hf]; exact h
    · rw [if_neg hf]
      intro x hx
      rcases List.mem_append.1 hx with h1 | h1
      · exact h x h1
      · rw [List.mem_singleton.1 h1]; exact hG
theorem PS.turn {W w : World} {g m gr : Nat} {q r r' : Qu} {v : Value} {A1 AO A1' AO' : Option Addr} {c1 cO c1' cO' : Nat} (h : PS W w g m gr q v r A1 c1 AO cO) (hd : DQ w r' A1' c1' AO' cO') : PS W (w.setRow gr (dqc r' A1' c1' AO' cO')) g m gr q v r' A1' c1' AO' cO' :=
  ⟨⟨h.qs.qu.besideRow h.box (by decide) (by decide) (by decide) _, below_setRow h.qs.bel h.lr _, h.qs.low⟩, setRow_heap _ _ _ _ _ _ h.box, h.lr, hd.set h.box _⟩
theorem dqc_one (r : Qu) (A1 : Option Addr) (c1 : Nat) (AO : Option Addr) (cO : Nat) : (dqc r A1 c1 AO cO).all (·.oneCell') = true := by unfold dqc qd; rw [List.all_toArray]; rfl
/-- What Same looks at: the rest of the document's row. -/
theorem doc_C {w : World} {A1 : Option Addr} {c1 n : Nat} {l : List S36} (h : DocL w A1 c1 (l.map rf)) (hn : n ≤ l.length) : k59.C w A1 n ((l.take n).map rf) := by
  rw [List.map_take]
  exact C_take59 h.D (by rw [List.length_map]; exact hn)
theorem same_len (l : List S36) (h : ∀ G ∈ l, G.f2.f2.length ≤ 1000000) : ∀ x ∈ l.map rf, x.f2.f2.length ≤ 1000000 := by
  intro x hx
  obtain ⟨G, hG, rfl⟩ := List.mem_map.1 hx
  show (G.f2.f2.map ra).length ≤ 1000000
  rw [List.length_map]
  exact h G hG
theorem doc_c1 {w : World} {A1 : Option Addr} {c1 : Nat} {l : List S36} (h : DocL w A1 c1 (l.map rf)) : l.length ≤ c1 := by
  obtain ⟨_, _, _, _, _, _, _, _, hc⟩ := h
  rwa [List.length_map] at hc
theorem pollN_le (q : Qu) (x : Int) : pollN q x ≤ q.l.length := by unfold pollN; omega
end Go.Proofs.YtmcochnofkjhaaaDoor.QU
