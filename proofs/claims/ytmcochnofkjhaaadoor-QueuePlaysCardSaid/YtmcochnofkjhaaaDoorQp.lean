/- What is there: Peek. By hand. -/
import Derived.Test.YtmcochnofkjhaaaDoorQe
namespace Go.Proofs.YtmcochnofkjhaaaDoor.QU
open Go.RowKit Go.Proofs.YtmcochnofkjhaaaDoorW.PrintWords Go.Proofs.YtmcochnofkjhaaaDoorW.PrintLast Go.Proofs.YtmcochnofkjhaaaDoorW.PrintMore Go.Proofs.YtmcochnofkjhaaaDoor.PAll
set_option linter.unusedVariables false
set_option linter.unusedSimpArgs false
set_option maxRecDepth 100000
theorem take_next (l : List S36) (i : Nat) (h : i < l.length) : l.take (i + 1) = l.take i ++ [rd_T36 l i] := by
  rw [List.take_add_one]
  congr 1
  unfold rd_T36
  rw [Int.toNat_natCast, List.getElem?_eq_getElem h]
  simp [List.getD, List.getElem?_eq_getElem h]
theorem rd_mem (l : List S36) (i : Nat) (h : i < l.length) : rd_T36 l i ∈ l := by
  unfold rd_T36
  rw [Int.toNat_natCast]
  simp [List.getD, List.getElem?_eq_getElem h]
set_option maxHeartbeats 8000000 in
theorem peek_is {w : World} {g m : Nat} {q : Qu} {v : Value} (h : QAt w g q v m) {k : Nat} (hq : Bq q k) (hG : ∀ G ∈ q.l, G.f2.f2.length ≤ 1000000) :
    Calls Tryd.prog 12 #[.pointer (some ⟨g, 0, none⟩)] w fun e w' => ∃ o, e = .returned o ∧ k36.R 36 w' w.heap.size (fun _ => True) o q.l ∧ Below w.heap.size w w' := by
  have hu36 := Tryd.underlying36
  have hu33 := Tryd.underlying33
  have hu30 := Tryd.underlying30
  obtain ⟨b1, b2, b3, _, _⟩ := hq
  obtain ⟨A, c, rfl, hcl, hC⟩ := Kd.R_reads h.row
  clear hC
  have HL := Aside0.mk h
  have HGs := Aside0.mk hG
  have c1 := h.cell1
  clear h hG
  go_enter Tryd.func12, Tryd.ntmps12
  go_wp2
  clear c1
  go_loopg [3, 13] q.l.length (fun kq v3 v13 w' => ∃ i : Nat, v13 = .int .i64 i ∧ Aside0 (i + kq = q.l.length) ∧ Aside0 (k36.R 36 w' w.heap.size (fun _ => True) v3 (q.l.take i)) ∧ Aside0 (Below w.heap.size w w'))
  case atStart => exact ⟨0, rfl, ⟨by omega⟩, ⟨Kd.R_nil _ _ _ _ _⟩, ⟨Below.refl _ _⟩⟩
  case round =>
    obtain ⟨i, rfl, HI, HR, HB⟩ := hrel
    have hi := HI.out
    cases gk with
    | zero =>
      have d1 : decide ((i : Int) < (q.l.length : Int)) = false := decide_eq_false (by omega)
      go_wp2
      go_ret
      refine ⟨u3, rfl, ?_, HB.out⟩
      have := HR.out
      rwa [List.take_of_length_le (by omega)] at this
    | succ k1 =>
      have d1 : decide ((i : Int) < (q.l.length : Int)) = true := decide_eq_true (by omega)
      have i1 : (0 : Int) ≤ (i : Int) := by omega
      have i2 : (i : Int) < (q.l.length : Int) := by omega
      have HQ := Aside0.mk (HL.out.below HB.out)
      obtain ⟨ad, A6, c6, rfl, z0, z1, z2, z3, z4, z5, z6, h7, h8⟩ := at_T36 (Kd.R_reads' HQ.out.row).2.2 (i : Int) i1 i2
      have HT := Aside0.mk (take_next q.l i (by omega))
      have hm := HGs.out _ (rd_mem q.l i (by omega))
      obtain ⟨G, hG⟩ : ∃ G, G = rd_T36 q.l i := ⟨_, rfl⟩
      rw [← hG] at z0 z1 z2 z3 z4 z5 z6 h7 h8 hm HT
      rw [Int.toNat_natCast] at z0 z1 z2 z3 z4 z5 z6
      have HC := Aside0.mk h8
      clear hG h8
      have hs3 := HB.out.size
      go_wp2_with (first
        | ((with_reducible refine gate_dst (N := 5) rfl ?_); refine box_event ?hg (N := 5) ?hd (cs := #[.int .i64 0, .string ⟨#[]⟩, .int .i64 0, .int .i64 0, .int .i64 0, .string ⟨#[]⟩, .slice none 0 0]) (t := 36) ?hr ?_; (case hd => rfl); (case hg => rfl); (case hr => first | (go_simp; done) | (go_simp; rfl)); intro gb hgb wb kgb bgb; have Ggb := Aside0.mk hgb; clear hgb; have HKb := Aside0.mk kgb; have HBb := Aside0.mk bgb; clear kgb bgb)
        | ((with_reducible refine gate_store (t := 36) (p := 5) rfl ?_); refine wpList_store_row rfl 36 (.tmp 5) (.tmp 16) rfl gb #[.int .i64 G.f0, .string G.f1, .int .i64 G.f2.f0.f0, .int .i64 G.f2.f0.f1, .int .i64 G.f2.f0.f2, .string G.f2.f1, .slice A6 G.f2.f2.length c6] rfl rfl 36 _ HKb.out info36s rfl (by rw [List.all_toArray]; rfl) ?_)
        | ((with_reducible refine gate_dst (N := 18) rfl ?_); refine wpList_load_row rfl 36 (.tmp 5) rfl gb rfl 36 _ (0, 0) _ (setRow_heap _ _ _ _ _ _ HKb.out) Tryd.underlying36 rfl info36s ?_)
        | ((with_reducible refine gate_dst (N := 19) rfl ?_); refine goesL_ (some 19) rfl rfl Tryd.func26 (by kernel_rfl) rfl #[.agg #[.int .i64 G.f0, .string G.f1, .int .i64 G.f2.f0.f0, .int .i64 G.f2.f0.f1, .int .i64 G.f2.f0.f2, .string G.f2.f1, .slice A6 G.f2.f2.length c6]] rfl (by first | (simp only [List.map_toArray, List.map_cons, List.map_nil]; rfl) | rfl) ?_; refine (own_is _ G (Kd.C_below HC.out (below_setRow (g := gb) HBb.out (Nat.le_of_eq Ggb.out.symm) _)) h7 hm).mono ?_; rintro e w5 ⟨v6, rfl, hr6, hb5⟩; obtain ⟨A9, c9, rfl⟩ := Kd.R_slice hr6; have HR6 := Aside0.mk hr6; have HB5 := Aside0.mk ((below_setRow (g := gb) HBb.out (Nat.le_of_eq Ggb.out.symm) _).trans (hb5.mono (below_setRow (g := gb) HBb.out (Nat.le_of_eq Ggb.out.symm) _).size)); clear hr6 hb5; unfold gc; refine ⟨_, rfl, ?_⟩)
        | ((with_reducible refine gate_dst (N := 21) rfl ?_); at_builtin; refine Kd.R_append k36 (w0 := w5) w.heap.size rfl (.tmp 17) (.tmp 20) 37 36 _ 88 rfl Tryd.underlying37 info36p rfl (by decide) (by omega) u3 (q.l.take i) G [.int .i64 G.f0, .string G.f1, .int .i64 G.f2.f0.f0, .int .i64 G.f2.f0.f1, .int .i64 G.f2.f0.f2, .string G.f2.f1, .slice A9 G.f2.f2.length c9] (fun _ => True) (fun k => some k ≠ u3.ownBlock) rfl rfl (k36_mkM _ _ _ G (Kd.R_mono (Kd.R_lower (Kd.R_bound HR6.out) ?lowS) ?okS)) (fun k hk => ⟨trivial, hk⟩) (fun _ _ => trivial) (Kd.R_below HR.out HB5.out) (Below.refl _ _) (by have := HB5.out.size; omega) (by rw [List.length_take]; omega) ?_; (case lowS => exact Nat.le_trans hs3 (below_setRow (g := gb) HBb.out (Nat.le_of_eq Ggb.out.symm) #[.int .i64 G.f0, .string G.f1, .int .i64 G.f2.f0.f0, .int .i64 G.f2.f0.f1, .int .i64 G.f2.f0.f2, .string G.f2.f1, .slice A6 G.f2.f2.length c6]).size); (case okS => intro k hk e; obtain ⟨inner, hin⟩ := Kd.R_own HR.out; have h1 := own_lt hin k e.symm; have h2 := hk.2.1; have h3 := (below_setRow (g := gb) HBb.out (Nat.le_of_eq Ggb.out.symm) #[.int .i64 G.f0, .string G.f1, .int .i64 G.f2.f0.f0, .int .i64 G.f2.f0.f1, .int .i64 G.f2.f0.f2, .string G.f2.f1, .slice A6 G.f2.f2.length c6]).size; omega); intro v7 W7 ho7 hb7 hg7 hat7; have HO7 := Aside0.mk ho7; have HG7 := Aside0.mk hg7; clear ho7 hb7 hg7 hat7))
      have hne : ∀ k, u3.ownBlock = some k → w.heap.size ≤ k := fun k hk => by obtain ⟨inner, hi⟩ := Kd.R_own HR.out; exact own_base hi k hk
      go_roundg k1
      case measure => omega
      case rel => exact ⟨i + 1, rfl, ⟨by omega⟩, ⟨by rw [HT.out]; exact HO7.out⟩, ⟨Mods.below (F := fun k => w.heap.size ≤ k) ((Mods.of_below (HB.out.trans (HB5.out.mono hs3))).grown HG7.out (fun k hk => .inl (hne k hk))) (Nat.le_refl _) (fun _ h => h)⟩⟩
end Go.Proofs.YtmcochnofkjhaaaDoor.QU
