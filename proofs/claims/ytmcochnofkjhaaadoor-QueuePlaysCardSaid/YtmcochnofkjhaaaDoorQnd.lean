import Derived.Test.YtmcochnofkjhaaaDoorQna
import Derived.Test.YtmcochnofkjhaaaDoorQde
/- Which events may be: what the program's checks and the document's come to. Plain. -/
namespace Go.Proofs.YtmcochnofkjhaaaDoor.QU
open Go.RowKit Go.Lib Go.Proofs.YtmcochnofkjhaaaDoor.PAll Go.Proofs.YtmcochnofkjhaaaDoorW.PrintWords Go.Proofs.YtmcochnofkjhaaaDoorW.PrintLast Go.Proofs.YtmcochnofkjhaaaDoorW.PrintMore Go.Proofs.YtmcochnofkjhaaaDoor.NQ
set_option linter.unusedVariables false
set_option linter.unusedSimpArgs false
/-- A name of one part. -/
def simB (s : ByteArray) : Bool := (chk s.data.toList == 0) && (((partsB s).length : Int) == 1)
/-- A value that may be. -/
def valB (a b : Int) (s : ByteArray) : Bool := if a = 1 then (if b ≥ (-9007199254740991) then (if b ≤ 9007199254740991 then (s.toList == ([] : List UInt8)) else false) else false) else (if a = 2 then (if b = 0 then (if (s.size : Int) ≤ 200 then validD s.data.toList else false) else false) else (if a = 3 then (if b = 0 then (s.toList == ([] : List UInt8)) else (if b = 1 then (s.toList == ([] : List UInt8)) else false)) else (if a = 4 then (if b = 0 then decide ((s.size : Int) ≤ 200) else false) else false)))
def cmB (a b : ByteArray) : Int := cmpV (foldL a.data.toList) (foldL b.data.toList)
def idB (a b c : Int) : Bool := if a ≥ 1 then (if a ≤ 15 then (if b ≥ 1 then (if b ≤ 1099511627775 then (if c ≥ 1 then decide (c ≤ 1099511627775) else false) else false) else false) else false) else false
def ahB : Option S87 → S87 → Bool
  | none, _ => true
  | some y, x => decide (cmB y.f0 x.f0 < 0)
def atsG : Option S87 → List S87 → Bool
  | _, [] => true
  | p, x :: r => simB x.f0 && (valB x.f1.f0 x.f1.f1 x.f1.f2 && (ahB p x && atsG (some x) r))
def atsB (l : List S87) : Bool := atsG none l && decide ((l.length : Int) ≤ 24)
def evB (x : S33) : Bool := idB x.f0.f0 x.f0.f1 x.f0.f2 && ((chk x.f1.data.toList == 0) && atsB x.f2)
theorem simple_is (s : ByteArray) (hs : s.size ≤ 40000) : schema_simple.f s = some (simB s) := by
  unfold schema_simple.f simB
  rw [name_Check_is s (by omega)]
  show (if chk s.data.toList = 0 then _ else _) = _
  by_cases h : chk s.data.toList = 0
  · rw [if_pos h, name_Parts_is s (by omega), h]; rfl
  · rw [if_neg h, show (chk s.data.toList == 0) = false from beq_eq_false_iff_ne.2 h]; rfl
theorem ref_simple_is (s : ByteArray) (hs : s.size ≤ 40000) : caduceusref04_Simple.f 130000 s = some (simB s) := by
  unfold caduceusref04_Simple.f simB
  rw [ref_Check_is s hs 130000 (by omega)]
  show (if chk s.data.toList = 0 then _ else _) = _
  by_cases h : chk s.data.toList = 0
  · rw [if_pos h, ref_Parts_is s hs 130000 (by omega), h]; rfl
  · rw [if_neg h, show (chk s.data.toList == 0) = false from beq_eq_false_iff_ne.2 h]; rfl
theorem value_is (a b : Int) (s : ByteArray) (hs : s.size ≤ 40000) : value_Check.f a b s = some (valB a b s) := by
  unfold value_Check.f valB
  rw [name_Valid_is s (by omega)]
  repeat' (first | rfl | split)
theorem ref_value_is (a b : Int) (s : ByteArray) (hs : s.size ≤ 40000) : caduceusref03_Check.f 130000 a b s = some (valB a b s) := by
  unfold caduceusref03_Check.f valB
  rw [ref_Valid_is s (by omega) 130000 (by omega)]
  repeat' (first | rfl | split)
theorem id_is (a b c : Int) : forest_IsID.f a b c = some (idB a b c) := by
  unfold forest_IsID.f forest_count.f idB
  by_cases h1 : a ≥ 1
  · rw [if_pos h1, if_pos h1]
    by_cases h2 : a ≤ 15
    · rw [if_pos h2, if_pos h2]
      by_cases h3 : b ≥ 1
      · rw [if_pos h3, if_pos h3]
        by_cases h4 : b ≤ 1099511627775
        · rw [decide_eq_true h4, if_pos h4]
          by_cases h5 : c ≥ 1
          · rw [if_pos h5, if_pos h5]; rfl
          · rw [if_neg h5, if_neg h5]; rfl
        · rw [decide_eq_false h4, if_neg h4]; rfl
      · rw [if_neg h3, if_neg h3]; rfl
    · rw [if_neg h2, if_neg h2]
  · rw [if_neg h1, if_neg h1]
theorem ref_id_is (a b c : Int) : caduceusref05_IsID.f a b c = some (idB a b c) := by
  unfold caduceusref05_IsID.f idB
  repeat' (first | rfl | split)
/-- Small attributes. -/
def SmA (l : List S87) : Prop := l.length ≤ 100 ∧ ∀ x ∈ l, x.f0.size ≤ 300 ∧ x.f1.f2.size ≤ 600
def pv (l : List S87) (i : Nat) : Option S87 := if i = 0 then none else l[i - 1]?
theorem attrs_l (l : List S87) (h : SmA l) : ∀ (d i k : Nat), l.length - i ≤ d → d + 2000 ≤ k → i ≤ l.length → schema_Attrs.l0 k l l (l.length : Int) (i : Int) = some (atsG (pv l i) (l.drop i) && decide ((l.length : Int) ≤ 24)) := by
  intro d
  induction d with
  | zero =>
    intro i k h1 h2 h3
    obtain ⟨k, rfl⟩ : ∃ m, k = m + 1 := ⟨k - 1, by omega⟩
    unfold schema_Attrs.l0
    rw [if_neg (by omega), List.drop_eq_nil_of_le (by omega)]
    rfl
  | succ d ih =>
    intro i k h1 h2 h3
    obtain ⟨k, rfl⟩ : ∃ m, k = m + 1 := ⟨k - 1, by omega⟩
    unfold schema_Attrs.l0
    by_cases c1 : (i : Int) < (l.length : Int)
    · have hi : i < l.length := by omega
      have hs := h.2 l[i] (List.getElem_mem hi)
      rw [if_pos c1, if_pos (by omega), if_pos c1, rd87 l i hi, simple_is _ (by omega), List.drop_eq_getElem_cons hi]
      show (if simB l[i].f0 = true then _ else _) = some ((simB l[i].f0 && (valB l[i].f1.f0 l[i].f1.f1 l[i].f1.f2 && (ahB (pv l i) l[i] && atsG (some l[i]) (l.drop (i + 1))))) && _)
      by_cases c2 : simB l[i].f0 = true
      · rw [if_pos c2, value_is _ _ _ (by omega), c2]
        show (if valB l[i].f1.f0 l[i].f1.f1 l[i].f1.f2 = true then _ else _) = _
        by_cases c3 : valB l[i].f1.f0 l[i].f1.f1 l[i].f1.f2 = true
        · have hw : wrap64 ((i : Int) + 1) = ((i + 1 : Nat) : Int) := by have := h.1; unfold wrap64; omega
          have hn := ih (i + 1) k (by omega) (by omega) (by omega)
          have hpv : pv l (i + 1) = some l[i] := by unfold pv; rw [if_neg (by omega), Nat.add_sub_cancel, List.getElem?_eq_getElem hi]
          rw [hpv] at hn
          rw [if_pos c3, c3, hw, hn]
          by_cases c4 : (i : Int) > 0
          · have hw2 : wrap64 ((i : Int) - 1) = ((i - 1 : Nat) : Int) := by have := h.1; unfold wrap64; omega
            have hp : pv l i = some (l[i - 1]'(by omega)) := by unfold pv; rw [if_neg (by omega), List.getElem?_eq_getElem (by omega)]
            have hs2 := h.2 (l[i - 1]'(by omega)) (List.getElem_mem (by omega))
            rw [if_pos c4, hw2, if_pos (by omega), if_pos (by omega), rd87 l (i - 1) (by omega), name_Compare_is _ _ (by omega) (by omega) k (by omega), hp]
            show (if cmB (l[i - 1]'(by omega)).f0 l[i].f0 ≥ 0 then _ else _) = some (((true && (true && (decide (cmB (l[i - 1]'(by omega)).f0 l[i].f0 < 0) && _)))) && _)
            by_cases c5 : cmB (l[i - 1]'(by omega)).f0 l[i].f0 ≥ 0
            · rw [if_pos c5, decide_eq_false (show ¬ cmB (l[i - 1]'(by omega)).f0 l[i].f0 < 0 by omega)]; rfl
            · rw [if_neg c5, decide_eq_true (show cmB (l[i - 1]'(by omega)).f0 l[i].f0 < 0 by omega)]; simp
          · have hi0 : i = 0 := by omega
            rw [if_neg c4]
            have hp : pv l i = none := by unfold pv; rw [if_pos hi0]
            rw [hp]
            show _ = some ((true && (true && (true && _))) && _)
            simp
        · have c3' : valB l[i].f1.f0 l[i].f1.f1 l[i].f1.f2 = false := by simpa using c3
          rw [if_neg c3, c3']; simp
      · have c2' : simB l[i].f0 = false := by simpa using c2
        rw [if_neg c2, c2']; simp
    · rw [if_neg c1, List.drop_eq_nil_of_le (by omega)]
      rfl
theorem attrs_all (l : List S87) (h : SmA l) : schema_Attrs.f 130000 l = some (atsB l) := by
  unfold schema_Attrs.f atsB
  exact attrs_l l h l.length 0 130000 (by omega) (by have := h.1; omega) (by omega)
theorem event_is (x : S33) (ht : x.f1.size ≤ 300) (h : SmA x.f2) : event_Check.f 130000 x.f0.f0 x.f0.f1 x.f0.f2 x.f1 x.f2 = some (evB x) := by
  unfold event_Check.f evB
  rw [id_is]
  show (if idB x.f0.f0 x.f0.f1 x.f0.f2 = true then _ else _) = _
  cases hid : idB x.f0.f0 x.f0.f1 x.f0.f2 with
  | false => simp
  | true =>
    rw [if_pos rfl, name_Check_is _ (by omega)]
    show (if chk x.f1.data.toList = 0 then _ else _) = _
    by_cases hc : chk x.f1.data.toList = 0
    · rw [if_pos hc, attrs_all _ h, hc]; simp
    · rw [if_neg hc, show (chk x.f1.data.toList == 0) = false from beq_eq_false_iff_ne.2 hc]; simp
end Go.Proofs.YtmcochnofkjhaaaDoor.QU
/- The document's check of an event: Attrs, Check, May. By hand; in part written by a program of this session. -/
namespace Go.Proofs.YtmcochnofkjhaaaDoor.QU
open Go.RowKit Go.Proofs.YtmcochnofkjhaaaDoor.PAll Go.Proofs.YtmcochnofkjhaaaDoorW.PrintWords Go.Proofs.YtmcochnofkjhaaaDoorW.PrintLast Go.Proofs.YtmcochnofkjhaaaDoorW.PrintMore Go.Proofs.YtmcochnofkjhaaaDoor.NQ
set_option linter.unusedVariables false
set_option linter.unusedSimpArgs false
set_option maxRecDepth 100000
theorem ref_cmp_is (a b : ByteArray) (ha : a.size ≤ 300) (hb : b.size ≤ 300) : caduceusref02_Compare.f 130000 a b = some (cmB a b) := ref_Compare_is a b (by omega) (by omega) 130000 (by omega) (by omega)
set_option maxHeartbeats 64000000 in
theorem ats60_is {w : World} {A : Option Addr} {c n : Nat} {l : List S87} (hS : SmA l) (hn : l.length = n) (hC : k104.C w A n (l.map ra)) (hc : n ≤ c) :
  Calls Tryd.prog 60 #[.slice A n c] w fun e w' => e = .returned (.bool (atsB l)) ∧ Below w.heap.size w w' := by
 have hu104 := Tryd.underlying104
 have hu102 := Tryd.underlying102
 have HC := Aside0.mk hC
 have HS := Aside0.mk hS
 have HN := Aside0.mk hn
 have hn100 : n ≤ 100 := hn ▸ hS.1
 clear hC hS hn
 go_enter Tryd.func60, Tryd.ntmps60
 go_wp2
 go_loopg [3] n (fun kq v3 w' => ∃ i : Nat, v3 = .int .i64 i ∧ Aside0 (i + kq = n) ∧ Aside0 (atsG (pv l i) (l.drop i) = atsG none l) ∧ Aside0 (Below w.heap.size w w'))
 case atStart => exact ⟨0, rfl, ⟨by omega⟩, ⟨rfl⟩, ⟨Below.refl _ _⟩⟩
 case round =>
  obtain ⟨i, rfl, HI, HE, HB⟩ := hrel
  have hi := HI.out
  cases gk with
  | zero =>
   have d1 : decide ((i : Int) < (n : Int)) = false := decide_eq_false (by omega)
   have d2 : decide (i < n) = false := decide_eq_false (by omega)
   have he : atsB l = decide ((n : Int) ≤ 24) := by
    have h1 := HE.out
    rw [List.drop_eq_nil_of_le (by have := HN.out; omega)] at h1
    unfold atsB
    rw [← h1, HN.out]
    rfl
   have HEE := Aside0.mk he
   clear he HE
   go_wp2
   go_ret
   exact ⟨by rw [HEE.out]; first | rfl | (congr 2; simp), HB.out⟩
  | succ k1 =>
   have d1 : decide ((i : Int) < (n : Int)) = true := decide_eq_true (by omega)
   have d2 : decide (i < n) = true := decide_eq_true (by omega)
   have hil : i < l.length := by have := HN.out; omega
   obtain ⟨x, hx⟩ : ∃ x, x = l[i] := ⟨_, rfl⟩
   have hsx := HS.out.2 l[i] (List.getElem_mem hil)
   have HSx := Aside0.mk hsx
   rw [← hx] at HSx
   have he := HE.out
   rw [List.drop_eq_getElem_cons hil, ← hx] at he
   have he2 : (simB x.f0 && (valB x.f1.f0 x.f1.f1 x.f1.f2 && (ahB (pv l i) x && atsG (some x) (l.drop (i + 1))))) = atsG none l := he
   have HE2 := Aside0.mk he2
   have i1 : (0 : Int) ≤ (i : Int) := by omega
   have i2 : (i : Int) < (n : Int) := by omega
   obtain ⟨ad, rfl, z0, z1, z2, z3⟩ := at_T104 HC.out (i : Int) i1 i2
   have hr104 : rd_T104 (l.map ra) (i : Int) = ra x := by
    unfold rd_T104
    rw [Int.toNat_natCast, List.getD_eq_getElem?_getD, List.getElem?_map, List.getElem?_eq_getElem hil, hx]
    rfl
   rw [hr104] at z0 z1 z2 z3
   rw [Int.toNat_natCast] at z0 z1 z2 z3
   have hpv : pv l (i + 1) = some x := by unfold pv; rw [if_neg (by omega), Nat.add_sub_cancel, List.getElem?_eq_getElem hil, hx]
   have HPV := Aside0.mk hpv
   have HBd := Aside0.mk (below_drew1 HB.out)
   have HZ := Aside0.mk (show w.cell? (ad.add (i * 4)) = some (.string x.f0) ∧ w.cell? ⟨(ad.add (i * 4)).block, (ad.add (i * 4)).off + 1, none⟩ = some (.int .i64 x.f1.f0) ∧ w.cell? ⟨(ad.add (i * 4)).block, (ad.add (i * 4)).off + 2, none⟩ = some (.int .i64 x.f1.f1) ∧ w.cell? ⟨(ad.add (i * 4)).block, (ad.add (i * 4)).off + 3, none⟩ = some (.string x.f1.f2) from ⟨z0, z1, z2, z3⟩)
   have HIL := Aside0.mk hil
   clear z0 z1 z2 z3 hr104 he he2 hsx hpv hx HE hil
   cases hsim : simB x.f0 with
   | false =>
    have HSIM := Aside0.mk (hsim ▸ ref_simple_is x.f0 (by have := HSx.out.1; omega))
    have HSB := Aside0.mk hsim
    clear hsim
    go_wp2
    refine start_ (n := 35) (S := fun w' => Below w.heap.size w w' ∧ True) (ds := []) #[false, false, false, false, false, false, false, false, false, false, false, false, false, false, false, false, false, false, false, false, false, false, false, false, false, false, false, false, false, false, false, false, false, false, false] (by kernel_rfl) rfl rfl ⟨HBd.out, trivial⟩ (fun hHeld => ?_)
    refine pure_ (i := 0) (N := some 10) (v := ?_) (a' := ?_) (fB 35 1) rfl rfl (by kernel_rfl) (fun _ _ _ h => h) (Or.inl ⟨by rfl, ?_⟩) ?_ ?_
    rotate_left
    ·intro w'; go_simp; with_reducible rfl
    rotate_left
    ·go_simp; rfl
    refine pure_ (i := 1) (N := some 11) (v := ?_) (a' := ?_) (fB 35 3) rfl rfl (by kernel_rfl) (fun _ _ _ h => h) (Or.inl ⟨by rfl, ?_⟩) ?_ ?_
    rotate_left
    ·intro w'; go_simp; with_reducible rfl
    rotate_left
    ·go_simp; rfl
    refine pure_ (i := 2) (N := some 12) (v := ?_) (a' := ?_) (fB 35 7) rfl rfl (by kernel_rfl) (fun _ _ _ h => h) (Or.inl ⟨by rfl, ?_⟩) ?_ ?_
    rotate_left
    ·intro w'; go_simp; with_reducible rfl
    rotate_left
    ·go_simp; rfl
    refine pure_ (i := 3) (N := some 13) (v := ?_) (a' := ?_) (fB 35 15) rfl rfl (by kernel_rfl) (fun _ _ _ h => h) (Or.inl ⟨by rfl, ?_⟩) ?_ ?_
    rotate_left
    ·intro w'; go_simp; with_reducible rfl
    rotate_left
    ·go_simp; rfl
    refine take_ (i := 4) (N := some 14) (v := ?_) (a' := ?_) (fB 35 31) rfl rfl (by kernel_rfl) (fun _ _ _ h => h) (Or.inl ⟨by rfl, ?_⟩) hHeld ?_ ?_
    rotate_left
    ·rintro w' ⟨s0, s1⟩
     have y0 := cellB s0 HZ.out.1
     go_simp; with_reducible rfl
    rotate_left
    ·go_simp; rfl
    refine one_ (i := 5) (N := some 15) (fB 35 63) rfl rfl (by kernel_rfl) (by decide) (fun K hK => ?_)
    refine goes_ Tryd.func70 (by kernel_rfl) rfl #[.string x.f0] (by rfl) rfl rfl (by first | rfl | (simp only [List.map_toArray, List.map_cons, List.map_nil]; rfl)) ?_
    refine (caduceusref04_Simple.calls 130000 x.f0 false _ HSIM.out).mono ?_
    rintro e w3 ⟨rfl, hb⟩; have HB3 := Aside0.mk (HBd.out.trans (hb.mono HBd.out.size)); clear hb
    refine ⟨_, rfl, hK.out _ _ ⟨HB3.out, trivial⟩ (fun hHeld => ?_)⟩
    clear hK K
    refine norm_ (a' := ?_) ?_ ?_
    rotate_left
    ·show Act.put _ (some 15) _ = _
     go_simp
     rfl
    refine pure_ (i := 6) (N := some 16) (v := ?_) (a' := ?_) (fB 35 127) rfl rfl (by kernel_rfl) (fun _ _ _ h => h) (Or.inl ⟨by rfl, ?_⟩) ?_ ?_
    rotate_left
    ·intro w'; go_simp; with_reducible rfl
    rotate_left
    ·go_simp; rfl
    refine pure_ (i := 7) (N := some 17) (v := ?_) (a' := ?_) (fB 35 255) rfl rfl (by kernel_rfl) (fun _ _ _ h => h) (Or.inl ⟨by rfl, ?_⟩) ?_ ?_
    rotate_left
    ·intro w'; go_simp; with_reducible rfl
    rotate_left
    ·go_simp; rfl
    refine pure_ (i := 8) (N := some 18) (v := undef) (a' := ?_) (fB 35 511) rfl rfl (by kernel_rfl) (fun _ _ _ h => h) (Or.inr ⟨by rfl, rfl⟩) ?_ ?_
    rotate_left
    ·go_simp; rfl
    refine pure_ (i := 9) (N := some 19) (v := undef) (a' := ?_) (fB 35 1023) rfl rfl (by kernel_rfl) (fun _ _ _ h => h) (Or.inr ⟨by rfl, rfl⟩) ?_ ?_
    rotate_left
    ·go_simp; rfl
    refine pure_ (i := 10) (N := some 20) (v := undef) (a' := ?_) (fB 35 2047) rfl rfl (by kernel_rfl) (fun _ _ _ h => h) (Or.inr ⟨by rfl, rfl⟩) ?_ ?_
    rotate_left
    ·go_simp; rfl
    refine pure_ (i := 11) (N := some 21) (v := undef) (a' := ?_) (fB 35 4095) rfl rfl (by kernel_rfl) (fun _ _ _ h => h) (Or.inr ⟨by rfl, rfl⟩) ?_ ?_
    rotate_left
    ·go_simp; rfl
    refine pure_ (i := 12) (N := some 22) (v := undef) (a' := ?_) (fB 35 8191) rfl rfl (by kernel_rfl) (fun _ _ _ h => h) (Or.inr ⟨by rfl, rfl⟩) ?_ ?_
    rotate_left
    ·go_simp; rfl
    refine pure_ (i := 13) (N := some 23) (v := undef) (a' := ?_) (fB 35 16383) rfl rfl (by kernel_rfl) (fun _ _ _ h => h) (Or.inr ⟨by rfl, rfl⟩) ?_ ?_
    rotate_left
    ·go_simp; rfl
    refine pure_ (i := 14) (N := some 24) (v := undef) (a' := ?_) (fB 35 32767) rfl rfl (by kernel_rfl) (fun _ _ _ h => h) (Or.inr ⟨by rfl, rfl⟩) ?_ ?_
    rotate_left
    ·go_simp; rfl
    refine pure_ (i := 15) (N := some 25) (v := ?_) (a' := ?_) (fB 35 65535) rfl rfl (by kernel_rfl) (fun _ _ _ h => h) (Or.inl ⟨by rfl, ?_⟩) ?_ ?_
    rotate_left
    ·intro w'; go_simp; with_reducible rfl
    rotate_left
    ·go_simp; rfl
    refine pure_ (i := 16) (N := some 26) (v := ?_) (a' := ?_) (fB 35 131071) rfl rfl (by kernel_rfl) (fun _ _ _ h => h) (Or.inl ⟨by rfl, ?_⟩) ?_ ?_
    rotate_left
    ·intro w'; go_simp; with_reducible rfl
    rotate_left
    ·go_simp; rfl
    refine pure_ (i := 17) (N := some 27) (v := undef) (a' := ?_) (fB 35 262143) rfl rfl (by kernel_rfl) (fun _ _ _ h => h) (Or.inr ⟨by rfl, rfl⟩) ?_ ?_
    rotate_left
    ·go_simp; rfl
    refine pure_ (i := 18) (N := some 28) (v := undef) (a' := ?_) (fB 35 524287) rfl rfl (by kernel_rfl) (fun _ _ _ h => h) (Or.inr ⟨by rfl, rfl⟩) ?_ ?_
    rotate_left
    ·go_simp; rfl
    refine pure_ (i := 19) (N := some 29) (v := undef) (a' := ?_) (fB 35 1048575) rfl rfl (by kernel_rfl) (fun _ _ _ h => h) (Or.inr ⟨by rfl, rfl⟩) ?_ ?_
    rotate_left
    ·go_simp; rfl
    refine pure_ (i := 20) (N := some 30) (v := undef) (a' := ?_) (fB 35 2097151) rfl rfl (by kernel_rfl) (fun _ _ _ h => h) (Or.inr ⟨by rfl, rfl⟩) ?_ ?_
    rotate_left
    ·go_simp; rfl
    refine pure_ (i := 21) (N := some 31) (v := undef) (a' := ?_) (fB 35 4194303) rfl rfl (by kernel_rfl) (fun _ _ _ h => h) (Or.inr ⟨by rfl, rfl⟩) ?_ ?_
    rotate_left
    ·go_simp; rfl
    refine pure_ (i := 22) (N := some 32) (v := undef) (a' := ?_) (fB 35 8388607) rfl rfl (by kernel_rfl) (fun _ _ _ h => h) (Or.inr ⟨by rfl, rfl⟩) ?_ ?_
    rotate_left
    ·go_simp; rfl
    refine pure_ (i := 23) (N := some 33) (v := undef) (a' := ?_) (fB 35 16777215) rfl rfl (by kernel_rfl) (fun _ _ _ h => h) (Or.inr ⟨by rfl, rfl⟩) ?_ ?_
    rotate_left
    ·go_simp; rfl
    refine pure_ (i := 24) (N := some 34) (v := undef) (a' := ?_) (fB 35 33554431) rfl rfl (by kernel_rfl) (fun _ _ _ h => h) (Or.inr ⟨by rfl, rfl⟩) ?_ ?_
    rotate_left
    ·go_simp; rfl
    refine pure_ (i := 25) (N := some 35) (v := undef) (a' := ?_) (fB 35 67108863) rfl rfl (by kernel_rfl) (fun _ _ _ h => h) (Or.inr ⟨by rfl, rfl⟩) ?_ ?_
    rotate_left
    ·go_simp; rfl
    refine pure_ (i := 26) (N := some 36) (v := undef) (a' := ?_) (fB 35 134217727) rfl rfl (by kernel_rfl) (fun _ _ _ h => h) (Or.inr ⟨by rfl, rfl⟩) ?_ ?_
    rotate_left
    ·go_simp; rfl
    refine pure_ (i := 27) (N := some 37) (v := undef) (a' := ?_) (fB 35 268435455) rfl rfl (by kernel_rfl) (fun _ _ _ h => h) (Or.inr ⟨by rfl, rfl⟩) ?_ ?_
    rotate_left
    ·go_simp; rfl
    refine pure_ (i := 28) (N := some 38) (v := undef) (a' := ?_) (fB 35 536870911) rfl rfl (by kernel_rfl) (fun _ _ _ h => h) (Or.inr ⟨by rfl, rfl⟩) ?_ ?_
    rotate_left
    ·go_simp; rfl
    refine pure_ (i := 29) (N := some 39) (v := undef) (a' := ?_) (fB 35 1073741823) rfl rfl (by kernel_rfl) (fun _ _ _ h => h) (Or.inr ⟨by rfl, rfl⟩) ?_ ?_
    rotate_left
    ·go_simp; rfl
    refine pure_ (i := 30) (N := some 40) (v := undef) (a' := ?_) (fB 35 2147483647) rfl rfl (by kernel_rfl) (fun _ _ _ h => h) (Or.inr ⟨by rfl, rfl⟩) ?_ ?_
    rotate_left
    ·go_simp; rfl
    refine pure_ (i := 31) (N := some 41) (v := undef) (a' := ?_) (fB 35 4294967295) rfl rfl (by kernel_rfl) (fun _ _ _ h => h) (Or.inr ⟨by rfl, rfl⟩) ?_ ?_
    rotate_left
    ·go_simp; rfl
    refine pure_ (i := 32) (N := some 42) (v := undef) (a' := ?_) (fB 35 8589934591) rfl rfl (by kernel_rfl) (fun _ _ _ h => h) (Or.inr ⟨by rfl, rfl⟩) ?_ ?_
    rotate_left
    ·go_simp; rfl
    refine pure_ (i := 33) (N := some 43) (v := undef) (a' := ?_) (fB 35 17179869183) rfl rfl (by kernel_rfl) (fun _ _ _ h => h) (Or.inr ⟨by rfl, rfl⟩) ?_ ?_
    rotate_left
    ·go_simp; rfl
    refine pure_ (i := 34) (N := some 44) (v := ?_) (a' := ?_) (fB 35 34359738367) rfl rfl (by kernel_rfl) (fun _ _ _ h => h) (Or.inl ⟨by rfl, ?_⟩) ?_ ?_
    rotate_left
    ·intro w'; go_simp; with_reducible rfl
    rotate_left
    ·go_simp; rfl
    refine done_ (by kernel_rfl) ?_
    go_wp2
    go_ret
    have hb : atsB l = false := by unfold atsB; rw [← HE2.out, HSB.out]; simp
    exact ⟨by rw [hb]; rfl, HB3.out⟩
   | true =>
    have HSIM := Aside0.mk (hsim ▸ ref_simple_is x.f0 (by have := HSx.out.1; omega))
    have HSB := Aside0.mk hsim
    clear hsim
    cases hval : valB x.f1.f0 x.f1.f1 x.f1.f2 with
    | false =>
     have HVAL := Aside0.mk (hval ▸ ref_value_is x.f1.f0 x.f1.f1 x.f1.f2 (by have := HSx.out.2; omega))
     have HVB := Aside0.mk hval
     clear hval
     go_wp2
     refine start_ (n := 35) (S := fun w' => Below w.heap.size w w' ∧ True) (ds := []) #[false, false, false, false, false, false, false, false, false, false, false, false, false, false, false, false, false, false, false, false, false, false, false, false, false, false, false, false, false, false, false, false, false, false, false] (by kernel_rfl) rfl rfl ⟨HBd.out, trivial⟩ (fun hHeld => ?_)
     refine pure_ (i := 0) (N := some 10) (v := ?_) (a' := ?_) (fB 35 1) rfl rfl (by kernel_rfl) (fun _ _ _ h => h) (Or.inl ⟨by rfl, ?_⟩) ?_ ?_
     rotate_left
     ·intro w'; go_simp; with_reducible rfl
     rotate_left
     ·go_simp; rfl
     refine pure_ (i := 1) (N := some 11) (v := ?_) (a' := ?_) (fB 35 3) rfl rfl (by kernel_rfl) (fun _ _ _ h => h) (Or.inl ⟨by rfl, ?_⟩) ?_ ?_
     rotate_left
     ·intro w'; go_simp; with_reducible rfl
     rotate_left
     ·go_simp; rfl
     refine pure_ (i := 2) (N := some 12) (v := ?_) (a' := ?_) (fB 35 7) rfl rfl (by kernel_rfl) (fun _ _ _ h => h) (Or.inl ⟨by rfl, ?_⟩) ?_ ?_
     rotate_left
     ·intro w'; go_simp; with_reducible rfl
     rotate_left
     ·go_simp; rfl
     refine pure_ (i := 3) (N := some 13) (v := ?_) (a' := ?_) (fB 35 15) rfl rfl (by kernel_rfl) (fun _ _ _ h => h) (Or.inl ⟨by rfl, ?_⟩) ?_ ?_
     rotate_left
     ·intro w'; go_simp; with_reducible rfl
     rotate_left
     ·go_simp; rfl
     refine take_ (i := 4) (N := some 14) (v := ?_) (a' := ?_) (fB 35 31) rfl rfl (by kernel_rfl) (fun _ _ _ h => h) (Or.inl ⟨by rfl, ?_⟩) hHeld ?_ ?_
     rotate_left
     ·rintro w' ⟨s0, s1⟩
      have y0 := cellB s0 HZ.out.1
      go_simp; with_reducible rfl
     rotate_left
     ·go_simp; rfl
     refine one_ (i := 5) (N := some 15) (fB 35 63) rfl rfl (by kernel_rfl) (by decide) (fun K hK => ?_)
     refine goes_ Tryd.func70 (by kernel_rfl) rfl #[.string x.f0] (by rfl) rfl rfl (by first | rfl | (simp only [List.map_toArray, List.map_cons, List.map_nil]; rfl)) ?_
     refine (caduceusref04_Simple.calls 130000 x.f0 true _ HSIM.out).mono ?_
     rintro e w3 ⟨rfl, hb⟩; have HB3 := Aside0.mk (HBd.out.trans (hb.mono HBd.out.size)); clear hb
     refine ⟨_, rfl, hK.out _ _ ⟨HB3.out, trivial⟩ (fun hHeld => ?_)⟩
     clear hK K
     refine norm_ (a' := ?_) ?_ ?_
     rotate_left
     ·show Act.put _ (some 15) _ = _
      go_simp
      rfl
     refine pure_ (i := 6) (N := some 16) (v := ?_) (a' := ?_) (fB 35 127) rfl rfl (by kernel_rfl) (fun _ _ _ h => h) (Or.inl ⟨by rfl, ?_⟩) ?_ ?_
     rotate_left
     ·intro w'; go_simp; with_reducible rfl
     rotate_left
     ·go_simp; rfl
     refine pure_ (i := 7) (N := some 17) (v := ?_) (a' := ?_) (fB 35 255) rfl rfl (by kernel_rfl) (fun _ _ _ h => h) (Or.inl ⟨by rfl, ?_⟩) ?_ ?_
     rotate_left
     ·intro w'; go_simp; with_reducible rfl
     rotate_left
     ·go_simp; rfl
     refine pure_ (i := 8) (N := some 18) (v := ?_) (a' := ?_) (fB 35 511) rfl rfl (by kernel_rfl) (fun _ _ _ h => h) (Or.inl ⟨by rfl, ?_⟩) ?_ ?_
     rotate_left
     ·intro w'; go_simp; with_reducible rfl
     rotate_left
     ·go_simp; rfl
     refine pure_ (i := 9) (N := some 19) (v := ?_) (a' := ?_) (fB 35 1023) rfl rfl (by kernel_rfl) (fun _ _ _ h => h) (Or.inl ⟨by rfl, ?_⟩) ?_ ?_
     rotate_left
     ·intro w'; go_simp; with_reducible rfl
     rotate_left
     ·go_simp; rfl
     refine pure_ (i := 10) (N := some 20) (v := ?_) (a' := ?_) (fB 35 2047) rfl rfl (by kernel_rfl) (fun _ _ _ h => h) (Or.inl ⟨by rfl, ?_⟩) ?_ ?_
     rotate_left
     ·intro w'; go_simp; with_reducible rfl
     rotate_left
     ·go_simp; rfl
     refine pure_ (i := 11) (N := some 21) (v := ?_) (a' := ?_) (fB 35 4095) rfl rfl (by kernel_rfl) (fun _ _ _ h => h) (Or.inl ⟨by rfl, ?_⟩) ?_ ?_
     rotate_left
     ·intro w'; go_simp; with_reducible rfl
     rotate_left
     ·go_simp; rfl
     refine take_ (i := 12) (N := some 22) (v := ?_) (a' := ?_) (fB 35 8191) rfl rfl (by kernel_rfl) (fun _ _ _ h => h) (Or.inl ⟨by rfl, ?_⟩) hHeld ?_ ?_
     rotate_left
     ·rintro w' ⟨s0, s1⟩
      have y1 := cellB s0 HZ.out.2.1
      have y2 := cellB s0 HZ.out.2.2.1
      have y3 := cellB s0 HZ.out.2.2.2
      go_simp; with_reducible rfl
     rotate_left
     ·go_simp; rfl
     refine one_ (i := 13) (N := some 23) (fB 35 16383) rfl rfl (by kernel_rfl) (by decide) (fun K hK => ?_)
     refine goes_ Tryd.func71 (by kernel_rfl) rfl #[.agg #[.int .i64 x.f1.f0, .int .i64 x.f1.f1, .string x.f1.f2]] (by rfl) rfl rfl (by first | rfl | (simp only [List.map_toArray, List.map_cons, List.map_nil]; rfl)) ?_
     refine (caduceusref03_Check.calls 130000 x.f1.f0 x.f1.f1 x.f1.f2 false _ HVAL.out).mono ?_
     rintro e w4 ⟨rfl, hb⟩; have HB4 := Aside0.mk (HB3.out.trans (hb.mono HB3.out.size)); clear hb
     refine ⟨_, rfl, hK.out _ _ ⟨HB4.out, trivial⟩ (fun hHeld => ?_)⟩
     clear hK K
     refine norm_ (a' := ?_) ?_ ?_
     rotate_left
     ·show Act.put _ (some 23) _ = _
      go_simp
      rfl
     refine pure_ (i := 14) (N := some 24) (v := ?_) (a' := ?_) (fB 35 32767) rfl rfl (by kernel_rfl) (fun _ _ _ h => h) (Or.inl ⟨by rfl, ?_⟩) ?_ ?_
     rotate_left
     ·intro w'; go_simp; with_reducible rfl
     rotate_left
     ·go_simp; rfl
     refine pure_ (i := 15) (N := some 25) (v := ?_) (a' := ?_) (fB 35 65535) rfl rfl (by kernel_rfl) (fun _ _ _ h => h) (Or.inl ⟨by rfl, ?_⟩) ?_ ?_
     rotate_left
     ·intro w'; go_simp; with_reducible rfl
     rotate_left
     ·go_simp; rfl
     refine pure_ (i := 16) (N := some 26) (v := ?_) (a' := ?_) (fB 35 131071) rfl rfl (by kernel_rfl) (fun _ _ _ h => h) (Or.inl ⟨by rfl, ?_⟩) ?_ ?_
     rotate_left
     ·intro w'; go_simp; with_reducible rfl
     rotate_left
     ·go_simp; rfl
     refine pure_ (i := 17) (N := some 27) (v := undef) (a' := ?_) (fB 35 262143) rfl rfl (by kernel_rfl) (fun _ _ _ h => h) (Or.inr ⟨by rfl, rfl⟩) ?_ ?_
     rotate_left
     ·go_simp; rfl
     refine pure_ (i := 18) (N := some 28) (v := undef) (a' := ?_) (fB 35 524287) rfl rfl (by kernel_rfl) (fun _ _ _ h => h) (Or.inr ⟨by rfl, rfl⟩) ?_ ?_
     rotate_left
     ·go_simp; rfl
     refine pure_ (i := 19) (N := some 29) (v := undef) (a' := ?_) (fB 35 1048575) rfl rfl (by kernel_rfl) (fun _ _ _ h => h) (Or.inr ⟨by rfl, rfl⟩) ?_ ?_
     rotate_left
     ·go_simp; rfl
     refine pure_ (i := 20) (N := some 30) (v := undef) (a' := ?_) (fB 35 2097151) rfl rfl (by kernel_rfl) (fun _ _ _ h => h) (Or.inr ⟨by rfl, rfl⟩) ?_ ?_
     rotate_left
     ·go_simp; rfl
     refine pure_ (i := 21) (N := some 31) (v := undef) (a' := ?_) (fB 35 4194303) rfl rfl (by kernel_rfl) (fun _ _ _ h => h) (Or.inr ⟨by rfl, rfl⟩) ?_ ?_
     rotate_left
     ·go_simp; rfl
     refine pure_ (i := 22) (N := some 32) (v := undef) (a' := ?_) (fB 35 8388607) rfl rfl (by kernel_rfl) (fun _ _ _ h => h) (Or.inr ⟨by rfl, rfl⟩) ?_ ?_
     rotate_left
     ·go_simp; rfl
     refine pure_ (i := 23) (N := some 33) (v := undef) (a' := ?_) (fB 35 16777215) rfl rfl (by kernel_rfl) (fun _ _ _ h => h) (Or.inr ⟨by rfl, rfl⟩) ?_ ?_
     rotate_left
     ·go_simp; rfl
     refine pure_ (i := 24) (N := some 34) (v := undef) (a' := ?_) (fB 35 33554431) rfl rfl (by kernel_rfl) (fun _ _ _ h => h) (Or.inr ⟨by rfl, rfl⟩) ?_ ?_
     rotate_left
     ·go_simp; rfl
     refine pure_ (i := 25) (N := some 35) (v := undef) (a' := ?_) (fB 35 67108863) rfl rfl (by kernel_rfl) (fun _ _ _ h => h) (Or.inr ⟨by rfl, rfl⟩) ?_ ?_
     rotate_left
     ·go_simp; rfl
     refine pure_ (i := 26) (N := some 36) (v := undef) (a' := ?_) (fB 35 134217727) rfl rfl (by kernel_rfl) (fun _ _ _ h => h) (Or.inr ⟨by rfl, rfl⟩) ?_ ?_
     rotate_left
     ·go_simp; rfl
     refine pure_ (i := 27) (N := some 37) (v := undef) (a' := ?_) (fB 35 268435455) rfl rfl (by kernel_rfl) (fun _ _ _ h => h) (Or.inr ⟨by rfl, rfl⟩) ?_ ?_
     rotate_left
     ·go_simp; rfl
     refine pure_ (i := 28) (N := some 38) (v := undef) (a' := ?_) (fB 35 536870911) rfl rfl (by kernel_rfl) (fun _ _ _ h => h) (Or.inr ⟨by rfl, rfl⟩) ?_ ?_
     rotate_left
     ·go_simp; rfl
     refine pure_ (i := 29) (N := some 39) (v := undef) (a' := ?_) (fB 35 1073741823) rfl rfl (by kernel_rfl) (fun _ _ _ h => h) (Or.inr ⟨by rfl, rfl⟩) ?_ ?_
     rotate_left
     ·go_simp; rfl
     refine pure_ (i := 30) (N := some 40) (v := undef) (a' := ?_) (fB 35 2147483647) rfl rfl (by kernel_rfl) (fun _ _ _ h => h) (Or.inr ⟨by rfl, rfl⟩) ?_ ?_
     rotate_left
     ·go_simp; rfl
     refine pure_ (i := 31) (N := some 41) (v := undef) (a' := ?_) (fB 35 4294967295) rfl rfl (by kernel_rfl) (fun _ _ _ h => h) (Or.inr ⟨by rfl, rfl⟩) ?_ ?_
     rotate_left
     ·go_simp; rfl
     refine pure_ (i := 32) (N := some 42) (v := undef) (a' := ?_) (fB 35 8589934591) rfl rfl (by kernel_rfl) (fun _ _ _ h => h) (Or.inr ⟨by rfl, rfl⟩) ?_ ?_
     rotate_left
     ·go_simp; rfl
     refine pure_ (i := 33) (N := some 43) (v := undef) (a' := ?_) (fB 35 17179869183) rfl rfl (by kernel_rfl) (fun _ _ _ h => h) (Or.inr ⟨by rfl, rfl⟩) ?_ ?_
     rotate_left
     ·go_simp; rfl
     refine pure_ (i := 34) (N := some 44) (v := ?_) (a' := ?_) (fB 35 34359738367) rfl rfl (by kernel_rfl) (fun _ _ _ h => h) (Or.inl ⟨by rfl, ?_⟩) ?_ ?_
     rotate_left
     ·intro w'; go_simp; with_reducible rfl
     rotate_left
     ·go_simp; rfl
     refine done_ (by kernel_rfl) ?_
     go_wp2
     go_ret
     have hb : atsB l = false := by unfold atsB; rw [← HE2.out, HSB.out, HVB.out]; simp
     exact ⟨by rw [hb]; rfl, HB4.out⟩
    | true =>
     have HVAL := Aside0.mk (hval ▸ ref_value_is x.f1.f0 x.f1.f1 x.f1.f2 (by have := HSx.out.2; omega))
     have HVB := Aside0.mk hval
     clear hval
     by_cases hi0 : i = 0
     ·have d3 : decide ((0 : Int) < (i : Int)) = false := decide_eq_false (by omega)
      have d4 : decide (0 < i) = false := decide_eq_false (by omega)
      have HA0 := Aside0.mk (show ahB (pv l i) x = true by unfold pv; rw [if_pos hi0]; rfl)
      clear hi0
      go_wp2
      refine start_ (n := 35) (S := fun w' => Below w.heap.size w w' ∧ True) (ds := []) #[false, false, false, false, false, false, false, false, false, false, false, false, false, false, false, false, false, false, false, false, false, false, false, false, false, false, false, false, false, false, false, false, false, false, false] (by kernel_rfl) rfl rfl ⟨HBd.out, trivial⟩ (fun hHeld => ?_)
      refine pure_ (i := 0) (N := some 10) (v := ?_) (a' := ?_) (fB 35 1) rfl rfl (by kernel_rfl) (fun _ _ _ h => h) (Or.inl ⟨by rfl, ?_⟩) ?_ ?_
      rotate_left
      ·intro w'; go_simp; with_reducible rfl
      rotate_left
      ·go_simp; rfl
      refine pure_ (i := 1) (N := some 11) (v := ?_) (a' := ?_) (fB 35 3) rfl rfl (by kernel_rfl) (fun _ _ _ h => h) (Or.inl ⟨by rfl, ?_⟩) ?_ ?_
      rotate_left
      ·intro w'; go_simp; with_reducible rfl
      rotate_left
      ·go_simp; rfl
      refine pure_ (i := 2) (N := some 12) (v := ?_) (a' := ?_) (fB 35 7) rfl rfl (by kernel_rfl) (fun _ _ _ h => h) (Or.inl ⟨by rfl, ?_⟩) ?_ ?_
      rotate_left
      ·intro w'; go_simp; with_reducible rfl
      rotate_left
      ·go_simp; rfl
      refine pure_ (i := 3) (N := some 13) (v := ?_) (a' := ?_) (fB 35 15) rfl rfl (by kernel_rfl) (fun _ _ _ h => h) (Or.inl ⟨by rfl, ?_⟩) ?_ ?_
      rotate_left
      ·intro w'; go_simp; with_reducible rfl
      rotate_left
      ·go_simp; rfl
      refine take_ (i := 4) (N := some 14) (v := ?_) (a' := ?_) (fB 35 31) rfl rfl (by kernel_rfl) (fun _ _ _ h => h) (Or.inl ⟨by rfl, ?_⟩) hHeld ?_ ?_
      rotate_left
      ·rintro w' ⟨s0, s1⟩
       have y0 := cellB s0 HZ.out.1
       go_simp; with_reducible rfl
      rotate_left
      ·go_simp; rfl
      refine one_ (i := 5) (N := some 15) (fB 35 63) rfl rfl (by kernel_rfl) (by decide) (fun K hK => ?_)
      refine goes_ Tryd.func70 (by kernel_rfl) rfl #[.string x.f0] (by rfl) rfl rfl (by first | rfl | (simp only [List.map_toArray, List.map_cons, List.map_nil]; rfl)) ?_
      refine (caduceusref04_Simple.calls 130000 x.f0 true _ HSIM.out).mono ?_
      rintro e w3 ⟨rfl, hb⟩; have HB3 := Aside0.mk (HBd.out.trans (hb.mono HBd.out.size)); clear hb
      refine ⟨_, rfl, hK.out _ _ ⟨HB3.out, trivial⟩ (fun hHeld => ?_)⟩
      clear hK K
      refine norm_ (a' := ?_) ?_ ?_
      rotate_left
      ·show Act.put _ (some 15) _ = _
       go_simp
       rfl
      refine pure_ (i := 6) (N := some 16) (v := ?_) (a' := ?_) (fB 35 127) rfl rfl (by kernel_rfl) (fun _ _ _ h => h) (Or.inl ⟨by rfl, ?_⟩) ?_ ?_
      rotate_left
      ·intro w'; go_simp; with_reducible rfl
      rotate_left
      ·go_simp; rfl
      refine pure_ (i := 7) (N := some 17) (v := ?_) (a' := ?_) (fB 35 255) rfl rfl (by kernel_rfl) (fun _ _ _ h => h) (Or.inl ⟨by rfl, ?_⟩) ?_ ?_
      rotate_left
      ·intro w'; go_simp; with_reducible rfl
      rotate_left
      ·go_simp; rfl
      refine pure_ (i := 8) (N := some 18) (v := ?_) (a' := ?_) (fB 35 511) rfl rfl (by kernel_rfl) (fun _ _ _ h => h) (Or.inl ⟨by rfl, ?_⟩) ?_ ?_
      rotate_left
      ·intro w'; go_simp; with_reducible rfl
      rotate_left
      ·go_simp; rfl
      refine pure_ (i := 9) (N := some 19) (v := ?_) (a' := ?_) (fB 35 1023) rfl rfl (by kernel_rfl) (fun _ _ _ h => h) (Or.inl ⟨by rfl, ?_⟩) ?_ ?_
      rotate_left
      ·intro w'; go_simp; with_reducible rfl
      rotate_left
      ·go_simp; rfl
      refine pure_ (i := 10) (N := some 20) (v := ?_) (a' := ?_) (fB 35 2047) rfl rfl (by kernel_rfl) (fun _ _ _ h => h) (Or.inl ⟨by rfl, ?_⟩) ?_ ?_
      rotate_left
      ·intro w'; go_simp; with_reducible rfl
      rotate_left
      ·go_simp; rfl
      refine pure_ (i := 11) (N := some 21) (v := ?_) (a' := ?_) (fB 35 4095) rfl rfl (by kernel_rfl) (fun _ _ _ h => h) (Or.inl ⟨by rfl, ?_⟩) ?_ ?_
      rotate_left
      ·intro w'; go_simp; with_reducible rfl
      rotate_left
      ·go_simp; rfl
      refine take_ (i := 12) (N := some 22) (v := ?_) (a' := ?_) (fB 35 8191) rfl rfl (by kernel_rfl) (fun _ _ _ h => h) (Or.inl ⟨by rfl, ?_⟩) hHeld ?_ ?_
      rotate_left
      ·rintro w' ⟨s0, s1⟩
       have y1 := cellB s0 HZ.out.2.1
       have y2 := cellB s0 HZ.out.2.2.1
       have y3 := cellB s0 HZ.out.2.2.2
       go_simp; with_reducible rfl
      rotate_left
      ·go_simp; rfl
      refine one_ (i := 13) (N := some 23) (fB 35 16383) rfl rfl (by kernel_rfl) (by decide) (fun K hK => ?_)
      refine goes_ Tryd.func71 (by kernel_rfl) rfl #[.agg #[.int .i64 x.f1.f0, .int .i64 x.f1.f1, .string x.f1.f2]] (by rfl) rfl rfl (by first | rfl | (simp only [List.map_toArray, List.map_cons, List.map_nil]; rfl)) ?_
      refine (caduceusref03_Check.calls 130000 x.f1.f0 x.f1.f1 x.f1.f2 true _ HVAL.out).mono ?_
      rintro e w4 ⟨rfl, hb⟩; have HB4 := Aside0.mk (HB3.out.trans (hb.mono HB3.out.size)); clear hb
      refine ⟨_, rfl, hK.out _ _ ⟨HB4.out, trivial⟩ (fun hHeld => ?_)⟩
      clear hK K
      refine norm_ (a' := ?_) ?_ ?_
      rotate_left
      ·show Act.put _ (some 23) _ = _
       go_simp
       rfl
      refine pure_ (i := 14) (N := some 24) (v := ?_) (a' := ?_) (fB 35 32767) rfl rfl (by kernel_rfl) (fun _ _ _ h => h) (Or.inl ⟨by rfl, ?_⟩) ?_ ?_
      rotate_left
      ·intro w'; go_simp; with_reducible rfl
      rotate_left
      ·go_simp; rfl
      refine pure_ (i := 15) (N := some 25) (v := ?_) (a' := ?_) (fB 35 65535) rfl rfl (by kernel_rfl) (fun _ _ _ h => h) (Or.inl ⟨by rfl, ?_⟩) ?_ ?_
      rotate_left
      ·intro w'; go_simp; with_reducible rfl
      rotate_left
      ·go_simp; rfl
      refine pure_ (i := 16) (N := some 26) (v := ?_) (a' := ?_) (fB 35 131071) rfl rfl (by kernel_rfl) (fun _ _ _ h => h) (Or.inl ⟨by rfl, ?_⟩) ?_ ?_
      rotate_left
      ·intro w'; go_simp; with_reducible rfl
      rotate_left
      ·go_simp; rfl
      refine pure_ (i := 17) (N := some 27) (v := ?_) (a' := ?_) (fB 35 262143) rfl rfl (by kernel_rfl) (fun _ _ _ h => h) (Or.inl ⟨by rfl, ?_⟩) ?_ ?_
      rotate_left
      ·intro w'; go_simp; with_reducible rfl
      rotate_left
      ·go_simp; rfl
      refine pure_ (i := 18) (N := some 28) (v := ?_) (a' := ?_) (fB 35 524287) rfl rfl (by kernel_rfl) (fun _ _ _ h => h) (Or.inl ⟨by rfl, ?_⟩) ?_ ?_
      rotate_left
      ·intro w'; go_simp; with_reducible rfl
      rotate_left
      ·go_simp; rfl
      refine pure_ (i := 19) (N := some 29) (v := ?_) (a' := ?_) (fB 35 1048575) rfl rfl (by kernel_rfl) (fun _ _ _ h => h) (Or.inl ⟨by rfl, ?_⟩) ?_ ?_
      rotate_left
      ·intro w'; go_simp; with_reducible rfl
      rotate_left
      ·go_simp; rfl
      refine pure_ (i := 20) (N := some 30) (v := undef) (a' := ?_) (fB 35 2097151) rfl rfl (by kernel_rfl) (fun _ _ _ h => h) (Or.inr ⟨by rfl, rfl⟩) ?_ ?_
      rotate_left
      ·go_simp; rfl
      refine pure_ (i := 21) (N := some 31) (v := undef) (a' := ?_) (fB 35 4194303) rfl rfl (by kernel_rfl) (fun _ _ _ h => h) (Or.inr ⟨by rfl, rfl⟩) ?_ ?_
      rotate_left
      ·go_simp; rfl
      refine pure_ (i := 22) (N := some 32) (v := undef) (a' := ?_) (fB 35 8388607) rfl rfl (by kernel_rfl) (fun _ _ _ h => h) (Or.inr ⟨by rfl, rfl⟩) ?_ ?_
      rotate_left
      ·go_simp; rfl
      refine pure_ (i := 23) (N := some 33) (v := undef) (a' := ?_) (fB 35 16777215) rfl rfl (by kernel_rfl) (fun _ _ _ h => h) (Or.inr ⟨by rfl, rfl⟩) ?_ ?_
      rotate_left
      ·go_simp; rfl
      refine pure_ (i := 24) (N := some 34) (v := undef) (a' := ?_) (fB 35 33554431) rfl rfl (by kernel_rfl) (fun _ _ _ h => h) (Or.inr ⟨by rfl, rfl⟩) ?_ ?_
      rotate_left
      ·go_simp; rfl
      refine pure_ (i := 25) (N := some 35) (v := undef) (a' := ?_) (fB 35 67108863) rfl rfl (by kernel_rfl) (fun _ _ _ h => h) (Or.inr ⟨by rfl, rfl⟩) ?_ ?_
      rotate_left
      ·go_simp; rfl
      refine pure_ (i := 26) (N := some 36) (v := undef) (a' := ?_) (fB 35 134217727) rfl rfl (by kernel_rfl) (fun _ _ _ h => h) (Or.inr ⟨by rfl, rfl⟩) ?_ ?_
      rotate_left
      ·go_simp; rfl
      refine pure_ (i := 27) (N := some 37) (v := undef) (a' := ?_) (fB 35 268435455) rfl rfl (by kernel_rfl) (fun _ _ _ h => h) (Or.inr ⟨by rfl, rfl⟩) ?_ ?_
      rotate_left
      ·go_simp; rfl
      refine pure_ (i := 28) (N := some 38) (v := undef) (a' := ?_) (fB 35 536870911) rfl rfl (by kernel_rfl) (fun _ _ _ h => h) (Or.inr ⟨by rfl, rfl⟩) ?_ ?_
      rotate_left
      ·go_simp; rfl
      refine pure_ (i := 29) (N := some 39) (v := undef) (a' := ?_) (fB 35 1073741823) rfl rfl (by kernel_rfl) (fun _ _ _ h => h) (Or.inr ⟨by rfl, rfl⟩) ?_ ?_
      rotate_left
      ·go_simp; rfl
      refine pure_ (i := 30) (N := some 40) (v := undef) (a' := ?_) (fB 35 2147483647) rfl rfl (by kernel_rfl) (fun _ _ _ h => h) (Or.inr ⟨by rfl, rfl⟩) ?_ ?_
      rotate_left
      ·go_simp; rfl
      refine pure_ (i := 31) (N := some 41) (v := undef) (a' := ?_) (fB 35 4294967295) rfl rfl (by kernel_rfl) (fun _ _ _ h => h) (Or.inr ⟨by rfl, rfl⟩) ?_ ?_
      rotate_left
      ·go_simp; rfl
      refine pure_ (i := 32) (N := some 42) (v := undef) (a' := ?_) (fB 35 8589934591) rfl rfl (by kernel_rfl) (fun _ _ _ h => h) (Or.inr ⟨by rfl, rfl⟩) ?_ ?_
      rotate_left
      ·go_simp; rfl
      refine pure_ (i := 33) (N := some 43) (v := ?_) (a' := ?_) (fB 35 17179869183) rfl rfl (by kernel_rfl) (fun _ _ _ h => h) (Or.inl ⟨by rfl, ?_⟩) ?_ ?_
      rotate_left
      ·intro w'; go_simp; with_reducible rfl
      rotate_left
      ·go_simp; rfl
      refine pure_ (i := 34) (N := some 44) (v := ?_) (a' := ?_) (fB 35 34359738367) rfl rfl (by kernel_rfl) (fun _ _ _ h => h) (Or.inl ⟨by rfl, ?_⟩) ?_ ?_
      rotate_left
      ·intro w'; go_simp; with_reducible rfl
      rotate_left
      ·go_simp; rfl
      refine done_ (by kernel_rfl) ?_
      go_wp2
      go_roundg k1
      case measure => omega
      case rel => exact ⟨i + 1, rfl, ⟨by omega⟩, ⟨by rw [HPV.out, ← HE2.out, HSB.out, HVB.out, HA0.out]; simp⟩, HB4⟩
     ·have d5 : decide ((0 : Int) < (i : Int)) = true := decide_eq_true (by omega)
      have d6 : decide (0 < i) = true := decide_eq_true (by omega)
      have hjl : i - 1 < l.length := by have := HIL.out; omega
      obtain ⟨y, hy⟩ : ∃ y, y = l[i - 1] := ⟨_, rfl⟩
      have hsy := HS.out.2 l[i - 1] (List.getElem_mem hjl)
      rw [← hy] at hsy
      have hpj : pv l i = some y := by unfold pv; rw [if_neg hi0, List.getElem?_eq_getElem hjl, hy]
      have HPJ := Aside0.mk (show ahB (pv l i) x = decide (cmB y.f0 x.f0 < 0) by rw [hpj]; rfl)
      have HCM := Aside0.mk (ref_cmp_is y.f0 x.f0 (by omega) (by have := HSx.out.1; omega))
      have hwi : wrap64 ((i : Int) - 1) = (i : Int) - 1 := by unfold wrap64; omega
      have j1 : (0 : Int) ≤ wrap64 ((i : Int) - 1) := by omega
      have j2 : wrap64 ((i : Int) - 1) < (n : Int) := by omega
      obtain ⟨ad2, hA2, x0, _, _, _⟩ := at_T104 HC.out (wrap64 ((i : Int) - 1)) j1 j2
      obtain rfl : ad = ad2 := Option.some.inj hA2
      have hr104 : rd_T104 (l.map ra) (wrap64 ((i : Int) - 1)) = ra y := by
       unfold rd_T104
       rw [show (wrap64 ((i : Int) - 1)).toNat = i - 1 by omega, List.getD_eq_getElem?_getD, List.getElem?_map, List.getElem?_eq_getElem hjl, hy]
       rfl
      rw [hr104] at x0
      have HX0 := Aside0.mk (show w.cell? (ad.add ((wrap64 ((i : Int) - 1)).toNat * 4)) = some (.string y.f0) from x0)
      have hjb : i ≤ 100 := by omega
      clear hy hsy hpj hA2 x0 hr104 hjl hi0 hwi
      by_cases hcm : cmB y.f0 x.f0 < 0
      ·have d3 : decide (0 ≤ cmB y.f0 x.f0) = false := decide_eq_false (by omega)
       have HAB := Aside0.mk (show ahB (pv l i) x = true by rw [HPJ.out]; exact decide_eq_true hcm)
       clear hcm
       go_wp2
       refine start_ (n := 35) (S := fun w' => Below w.heap.size w w' ∧ True) (ds := []) #[false, false, false, false, false, false, false, false, false, false, false, false, false, false, false, false, false, false, false, false, false, false, false, false, false, false, false, false, false, false, false, false, false, false, false] (by kernel_rfl) rfl rfl ⟨HBd.out, trivial⟩ (fun hHeld => ?_)
       refine pure_ (i := 0) (N := some 10) (v := ?_) (a' := ?_) (fB 35 1) rfl rfl (by kernel_rfl) (fun _ _ _ h => h) (Or.inl ⟨by rfl, ?_⟩) ?_ ?_
       rotate_left
       ·intro w'; go_simp; with_reducible rfl
       rotate_left
       ·go_simp; rfl
       refine pure_ (i := 1) (N := some 11) (v := ?_) (a' := ?_) (fB 35 3) rfl rfl (by kernel_rfl) (fun _ _ _ h => h) (Or.inl ⟨by rfl, ?_⟩) ?_ ?_
       rotate_left
       ·intro w'; go_simp; with_reducible rfl
       rotate_left
       ·go_simp; rfl
       refine pure_ (i := 2) (N := some 12) (v := ?_) (a' := ?_) (fB 35 7) rfl rfl (by kernel_rfl) (fun _ _ _ h => h) (Or.inl ⟨by rfl, ?_⟩) ?_ ?_
       rotate_left
       ·intro w'; go_simp; with_reducible rfl
       rotate_left
       ·go_simp; rfl
       refine pure_ (i := 3) (N := some 13) (v := ?_) (a' := ?_) (fB 35 15) rfl rfl (by kernel_rfl) (fun _ _ _ h => h) (Or.inl ⟨by rfl, ?_⟩) ?_ ?_
       rotate_left
       ·intro w'; go_simp; with_reducible rfl
       rotate_left
       ·go_simp; rfl
       refine take_ (i := 4) (N := some 14) (v := ?_) (a' := ?_) (fB 35 31) rfl rfl (by kernel_rfl) (fun _ _ _ h => h) (Or.inl ⟨by rfl, ?_⟩) hHeld ?_ ?_
       rotate_left
       ·rintro w' ⟨s0, s1⟩
        have y0 := cellB s0 HZ.out.1
        go_simp; with_reducible rfl
       rotate_left
       ·go_simp; rfl
       refine one_ (i := 5) (N := some 15) (fB 35 63) rfl rfl (by kernel_rfl) (by decide) (fun K hK => ?_)
       refine goes_ Tryd.func70 (by kernel_rfl) rfl #[.string x.f0] (by rfl) rfl rfl (by first | rfl | (simp only [List.map_toArray, List.map_cons, List.map_nil]; rfl)) ?_
       refine (caduceusref04_Simple.calls 130000 x.f0 true _ HSIM.out).mono ?_
       rintro e w3 ⟨rfl, hb⟩; have HB3 := Aside0.mk (HBd.out.trans (hb.mono HBd.out.size)); clear hb
       refine ⟨_, rfl, hK.out _ _ ⟨HB3.out, trivial⟩ (fun hHeld => ?_)⟩
       clear hK K
       refine norm_ (a' := ?_) ?_ ?_
       rotate_left
       ·show Act.put _ (some 15) _ = _
        go_simp
        rfl
       refine pure_ (i := 6) (N := some 16) (v := ?_) (a' := ?_) (fB 35 127) rfl rfl (by kernel_rfl) (fun _ _ _ h => h) (Or.inl ⟨by rfl, ?_⟩) ?_ ?_
       rotate_left
       ·intro w'; go_simp; with_reducible rfl
       rotate_left
       ·go_simp; rfl
       refine pure_ (i := 7) (N := some 17) (v := ?_) (a' := ?_) (fB 35 255) rfl rfl (by kernel_rfl) (fun _ _ _ h => h) (Or.inl ⟨by rfl, ?_⟩) ?_ ?_
       rotate_left
       ·intro w'; go_simp; with_reducible rfl
       rotate_left
       ·go_simp; rfl
       refine pure_ (i := 8) (N := some 18) (v := ?_) (a' := ?_) (fB 35 511) rfl rfl (by kernel_rfl) (fun _ _ _ h => h) (Or.inl ⟨by rfl, ?_⟩) ?_ ?_
       rotate_left
       ·intro w'; go_simp; with_reducible rfl
       rotate_left
       ·go_simp; rfl
       refine pure_ (i := 9) (N := some 19) (v := ?_) (a' := ?_) (fB 35 1023) rfl rfl (by kernel_rfl) (fun _ _ _ h => h) (Or.inl ⟨by rfl, ?_⟩) ?_ ?_
       rotate_left
       ·intro w'; go_simp; with_reducible rfl
       rotate_left
       ·go_simp; rfl
       refine pure_ (i := 10) (N := some 20) (v := ?_) (a' := ?_) (fB 35 2047) rfl rfl (by kernel_rfl) (fun _ _ _ h => h) (Or.inl ⟨by rfl, ?_⟩) ?_ ?_
       rotate_left
       ·intro w'; go_simp; with_reducible rfl
       rotate_left
       ·go_simp; rfl
       refine pure_ (i := 11) (N := some 21) (v := ?_) (a' := ?_) (fB 35 4095) rfl rfl (by kernel_rfl) (fun _ _ _ h => h) (Or.inl ⟨by rfl, ?_⟩) ?_ ?_
       rotate_left
       ·intro w'; go_simp; with_reducible rfl
       rotate_left
       ·go_simp; rfl
       refine take_ (i := 12) (N := some 22) (v := ?_) (a' := ?_) (fB 35 8191) rfl rfl (by kernel_rfl) (fun _ _ _ h => h) (Or.inl ⟨by rfl, ?_⟩) hHeld ?_ ?_
       rotate_left
       ·rintro w' ⟨s0, s1⟩
        have y1 := cellB s0 HZ.out.2.1
        have y2 := cellB s0 HZ.out.2.2.1
        have y3 := cellB s0 HZ.out.2.2.2
        go_simp; with_reducible rfl
       rotate_left
       ·go_simp; rfl
       refine one_ (i := 13) (N := some 23) (fB 35 16383) rfl rfl (by kernel_rfl) (by decide) (fun K hK => ?_)
       refine goes_ Tryd.func71 (by kernel_rfl) rfl #[.agg #[.int .i64 x.f1.f0, .int .i64 x.f1.f1, .string x.f1.f2]] (by rfl) rfl rfl (by first | rfl | (simp only [List.map_toArray, List.map_cons, List.map_nil]; rfl)) ?_
       refine (caduceusref03_Check.calls 130000 x.f1.f0 x.f1.f1 x.f1.f2 true _ HVAL.out).mono ?_
       rintro e w4 ⟨rfl, hb⟩; have HB4 := Aside0.mk (HB3.out.trans (hb.mono HB3.out.size)); clear hb
       refine ⟨_, rfl, hK.out _ _ ⟨HB4.out, trivial⟩ (fun hHeld => ?_)⟩
       clear hK K
       refine norm_ (a' := ?_) ?_ ?_
       rotate_left
       ·show Act.put _ (some 23) _ = _
        go_simp
        rfl
       refine pure_ (i := 14) (N := some 24) (v := ?_) (a' := ?_) (fB 35 32767) rfl rfl (by kernel_rfl) (fun _ _ _ h => h) (Or.inl ⟨by rfl, ?_⟩) ?_ ?_
       rotate_left
       ·intro w'; go_simp; with_reducible rfl
       rotate_left
       ·go_simp; rfl
       refine pure_ (i := 15) (N := some 25) (v := ?_) (a' := ?_) (fB 35 65535) rfl rfl (by kernel_rfl) (fun _ _ _ h => h) (Or.inl ⟨by rfl, ?_⟩) ?_ ?_
       rotate_left
       ·intro w'; go_simp; with_reducible rfl
       rotate_left
       ·go_simp; rfl
       refine pure_ (i := 16) (N := some 26) (v := ?_) (a' := ?_) (fB 35 131071) rfl rfl (by kernel_rfl) (fun _ _ _ h => h) (Or.inl ⟨by rfl, ?_⟩) ?_ ?_
       rotate_left
       ·intro w'; go_simp; with_reducible rfl
       rotate_left
       ·go_simp; rfl
       refine pure_ (i := 17) (N := some 27) (v := ?_) (a' := ?_) (fB 35 262143) rfl rfl (by kernel_rfl) (fun _ _ _ h => h) (Or.inl ⟨by rfl, ?_⟩) ?_ ?_
       rotate_left
       ·intro w'; go_simp; with_reducible rfl
       rotate_left
       ·go_simp; rfl
       refine pure_ (i := 18) (N := some 28) (v := ?_) (a' := ?_) (fB 35 524287) rfl rfl (by kernel_rfl) (fun _ _ _ h => h) (Or.inl ⟨by rfl, ?_⟩) ?_ ?_
       rotate_left
       ·intro w'; go_simp; with_reducible rfl
       rotate_left
       ·go_simp; rfl
       refine pure_ (i := 19) (N := some 29) (v := ?_) (a' := ?_) (fB 35 1048575) rfl rfl (by kernel_rfl) (fun _ _ _ h => h) (Or.inl ⟨by rfl, ?_⟩) ?_ ?_
       rotate_left
       ·intro w'; go_simp; with_reducible rfl
       rotate_left
       ·go_simp; rfl
       refine pure_ (i := 20) (N := some 30) (v := ?_) (a' := ?_) (fB 35 2097151) rfl rfl (by kernel_rfl) (fun _ _ _ h => h) (Or.inl ⟨by rfl, ?_⟩) ?_ ?_
       rotate_left
       ·intro w'; go_simp; with_reducible rfl
       rotate_left
       ·go_simp; rfl
       refine pure_ (i := 21) (N := some 31) (v := ?_) (a' := ?_) (fB 35 4194303) rfl rfl (by kernel_rfl) (fun _ _ _ h => h) (Or.inl ⟨by rfl, ?_⟩) ?_ ?_
       rotate_left
       ·intro w'; go_simp; with_reducible rfl
       rotate_left
       ·go_simp; rfl
       refine pure_ (i := 22) (N := some 32) (v := ?_) (a' := ?_) (fB 35 8388607) rfl rfl (by kernel_rfl) (fun _ _ _ h => h) (Or.inl ⟨by rfl, ?_⟩) ?_ ?_
       rotate_left
       ·intro w'; go_simp; with_reducible rfl
       rotate_left
       ·go_simp; rfl
       refine pure_ (i := 23) (N := some 33) (v := ?_) (a' := ?_) (fB 35 16777215) rfl rfl (by kernel_rfl) (fun _ _ _ h => h) (Or.inl ⟨by rfl, ?_⟩) ?_ ?_
       rotate_left
       ·intro w'; go_simp; with_reducible rfl
       rotate_left
       ·go_simp; rfl
       refine pure_ (i := 24) (N := some 34) (v := ?_) (a' := ?_) (fB 35 33554431) rfl rfl (by kernel_rfl) (fun _ _ _ h => h) (Or.inl ⟨by rfl, ?_⟩) ?_ ?_
       rotate_left
       ·intro w'; go_simp; with_reducible rfl
       rotate_left
       ·go_simp; rfl
       refine take_ (i := 25) (N := some 35) (v := ?_) (a' := ?_) (fB 35 67108863) rfl rfl (by kernel_rfl) (fun _ _ _ h => h) (Or.inl ⟨by rfl, ?_⟩) hHeld ?_ ?_
       rotate_left
       ·rintro w' ⟨s0, s1⟩
        have y0 := cellB s0 HX0.out
        go_simp; with_reducible rfl
       rotate_left
       ·go_simp; rfl
       refine pure_ (i := 26) (N := some 36) (v := ?_) (a' := ?_) (fB 35 134217727) rfl rfl (by kernel_rfl) (fun _ _ _ h => h) (Or.inl ⟨by rfl, ?_⟩) ?_ ?_
       rotate_left
       ·intro w'; go_simp; with_reducible rfl
       rotate_left
       ·go_simp; rfl
       refine pure_ (i := 27) (N := some 37) (v := ?_) (a' := ?_) (fB 35 268435455) rfl rfl (by kernel_rfl) (fun _ _ _ h => h) (Or.inl ⟨by rfl, ?_⟩) ?_ ?_
       rotate_left
       ·intro w'; go_simp; with_reducible rfl
       rotate_left
       ·go_simp; rfl
       refine pure_ (i := 28) (N := some 38) (v := ?_) (a' := ?_) (fB 35 536870911) rfl rfl (by kernel_rfl) (fun _ _ _ h => h) (Or.inl ⟨by rfl, ?_⟩) ?_ ?_
       rotate_left
       ·intro w'; go_simp; with_reducible rfl
       rotate_left
       ·go_simp; rfl
       refine pure_ (i := 29) (N := some 39) (v := ?_) (a' := ?_) (fB 35 1073741823) rfl rfl (by kernel_rfl) (fun _ _ _ h => h) (Or.inl ⟨by rfl, ?_⟩) ?_ ?_
       rotate_left
       ·intro w'; go_simp; with_reducible rfl
       rotate_left
       ·go_simp; rfl
       refine take_ (i := 30) (N := some 40) (v := ?_) (a' := ?_) (fB 35 2147483647) rfl rfl (by kernel_rfl) (fun _ _ _ h => h) (Or.inl ⟨by rfl, ?_⟩) hHeld ?_ ?_
       rotate_left
       ·rintro w' ⟨s0, s1⟩
        have y0 := cellB s0 HZ.out.1
        go_simp; with_reducible rfl
       rotate_left
       ·go_simp; rfl
       refine one_ (i := 31) (N := some 41) (fB 35 4294967295) rfl rfl (by kernel_rfl) (by decide) (fun K hK => ?_)
       refine goes_ Tryd.func72 (by kernel_rfl) rfl #[.string y.f0, .string x.f0] (by rfl) rfl rfl (by first | rfl | (simp only [List.map_toArray, List.map_cons, List.map_nil]; rfl)) ?_
       refine (caduceusref02_Compare.calls 130000 y.f0 x.f0 _ _ HCM.out).mono ?_
       rintro e w5 ⟨rfl, hb⟩; have HB5 := Aside0.mk (HB4.out.trans (hb.mono HB4.out.size)); clear hb
       refine ⟨_, rfl, hK.out _ _ ⟨HB5.out, trivial⟩ (fun hHeld => ?_)⟩
       clear hK K
       refine norm_ (a' := ?_) ?_ ?_
       rotate_left
       ·show Act.put _ (some 41) _ = _
        go_simp
        rfl
       refine pure_ (i := 32) (N := some 42) (v := ?_) (a' := ?_) (fB 35 8589934591) rfl rfl (by kernel_rfl) (fun _ _ _ h => h) (Or.inl ⟨by rfl, ?_⟩) ?_ ?_
       rotate_left
       ·intro w'; go_simp; with_reducible rfl
       rotate_left
       ·go_simp; rfl
       refine pure_ (i := 33) (N := some 43) (v := ?_) (a' := ?_) (fB 35 17179869183) rfl rfl (by kernel_rfl) (fun _ _ _ h => h) (Or.inl ⟨by rfl, ?_⟩) ?_ ?_
       rotate_left
       ·intro w'; go_simp; with_reducible rfl
       rotate_left
       ·go_simp; rfl
       refine pure_ (i := 34) (N := some 44) (v := ?_) (a' := ?_) (fB 35 34359738367) rfl rfl (by kernel_rfl) (fun _ _ _ h => h) (Or.inl ⟨by rfl, ?_⟩) ?_ ?_
       rotate_left
       ·intro w'; go_simp; with_reducible rfl
       rotate_left
       ·go_simp; rfl
       refine done_ (by kernel_rfl) ?_
       go_wp2
       go_roundg k1
       case measure => omega
       case rel => exact ⟨i + 1, rfl, ⟨by omega⟩, ⟨by rw [HPV.out, ← HE2.out, HSB.out, HVB.out, HAB.out]; simp⟩, HB5⟩
      ·have d3 : decide (0 ≤ cmB y.f0 x.f0) = true := decide_eq_true (by omega)
       have HAB := Aside0.mk (show ahB (pv l i) x = false by rw [HPJ.out]; exact decide_eq_false hcm)
       clear hcm
       go_wp2
       refine start_ (n := 35) (S := fun w' => Below w.heap.size w w' ∧ True) (ds := []) #[false, false, false, false, false, false, false, false, false, false, false, false, false, false, false, false, false, false, false, false, false, false, false, false, false, false, false, false, false, false, false, false, false, false, false] (by kernel_rfl) rfl rfl ⟨HBd.out, trivial⟩ (fun hHeld => ?_)
       refine pure_ (i := 0) (N := some 10) (v := ?_) (a' := ?_) (fB 35 1) rfl rfl (by kernel_rfl) (fun _ _ _ h => h) (Or.inl ⟨by rfl, ?_⟩) ?_ ?_
       rotate_left
       ·intro w'; go_simp; with_reducible rfl
       rotate_left
       ·go_simp; rfl
       refine pure_ (i := 1) (N := some 11) (v := ?_) (a' := ?_) (fB 35 3) rfl rfl (by kernel_rfl) (fun _ _ _ h => h) (Or.inl ⟨by rfl, ?_⟩) ?_ ?_
       rotate_left
       ·intro w'; go_simp; with_reducible rfl
       rotate_left
       ·go_simp; rfl
       refine pure_ (i := 2) (N := some 12) (v := ?_) (a' := ?_) (fB 35 7) rfl rfl (by kernel_rfl) (fun _ _ _ h => h) (Or.inl ⟨by rfl, ?_⟩) ?_ ?_
       rotate_left
       ·intro w'; go_simp; with_reducible rfl
       rotate_left
       ·go_simp; rfl
       refine pure_ (i := 3) (N := some 13) (v := ?_) (a' := ?_) (fB 35 15) rfl rfl (by kernel_rfl) (fun _ _ _ h => h) (Or.inl ⟨by rfl, ?_⟩) ?_ ?_
       rotate_left
       ·intro w'; go_simp; with_reducible rfl
       rotate_left
       ·go_simp; rfl
       refine take_ (i := 4) (N := some 14) (v := ?_) (a' := ?_) (fB 35 31) rfl rfl (by kernel_rfl) (fun _ _ _ h => h) (Or.inl ⟨by rfl, ?_⟩) hHeld ?_ ?_
       rotate_left
       ·rintro w' ⟨s0, s1⟩
        have y0 := cellB s0 HZ.out.1
        go_simp; with_reducible rfl
       rotate_left
       ·go_simp; rfl
       refine one_ (i := 5) (N := some 15) (fB 35 63) rfl rfl (by kernel_rfl) (by decide) (fun K hK => ?_)
       refine goes_ Tryd.func70 (by kernel_rfl) rfl #[.string x.f0] (by rfl) rfl rfl (by first | rfl | (simp only [List.map_toArray, List.map_cons, List.map_nil]; rfl)) ?_
       refine (caduceusref04_Simple.calls 130000 x.f0 true _ HSIM.out).mono ?_
       rintro e w3 ⟨rfl, hb⟩; have HB3 := Aside0.mk (HBd.out.trans (hb.mono HBd.out.size)); clear hb
       refine ⟨_, rfl, hK.out _ _ ⟨HB3.out, trivial⟩ (fun hHeld => ?_)⟩
       clear hK K
       refine norm_ (a' := ?_) ?_ ?_
       rotate_left
       ·show Act.put _ (some 15) _ = _
        go_simp
        rfl
       refine pure_ (i := 6) (N := some 16) (v := ?_) (a' := ?_) (fB 35 127) rfl rfl (by kernel_rfl) (fun _ _ _ h => h) (Or.inl ⟨by rfl, ?_⟩) ?_ ?_
       rotate_left
       ·intro w'; go_simp; with_reducible rfl
       rotate_left
       ·go_simp; rfl
       refine pure_ (i := 7) (N := some 17) (v := ?_) (a' := ?_) (fB 35 255) rfl rfl (by kernel_rfl) (fun _ _ _ h => h) (Or.inl ⟨by rfl, ?_⟩) ?_ ?_
       rotate_left
       ·intro w'; go_simp; with_reducible rfl
       rotate_left
       ·go_simp; rfl
       refine pure_ (i := 8) (N := some 18) (v := ?_) (a' := ?_) (fB 35 511) rfl rfl (by kernel_rfl) (fun _ _ _ h => h) (Or.inl ⟨by rfl, ?_⟩) ?_ ?_
       rotate_left
       ·intro w'; go_simp; with_reducible rfl
       rotate_left
       ·go_simp; rfl
       refine pure_ (i := 9) (N := some 19) (v := ?_) (a' := ?_) (fB 35 1023) rfl rfl (by kernel_rfl) (fun _ _ _ h => h) (Or.inl ⟨by rfl, ?_⟩) ?_ ?_
       rotate_left
       ·intro w'; go_simp; with_reducible rfl
       rotate_left
       ·go_simp; rfl
       refine pure_ (i := 10) (N := some 20) (v := ?_) (a' := ?_) (fB 35 2047) rfl rfl (by kernel_rfl) (fun _ _ _ h => h) (Or.inl ⟨by rfl, ?_⟩) ?_ ?_
       rotate_left
       ·intro w'; go_simp; with_reducible rfl
       rotate_left
       ·go_simp; rfl
       refine pure_ (i := 11) (N := some 21) (v := ?_) (a' := ?_) (fB 35 4095) rfl rfl (by kernel_rfl) (fun _ _ _ h => h) (Or.inl ⟨by rfl, ?_⟩) ?_ ?_
       rotate_left
       ·intro w'; go_simp; with_reducible rfl
       rotate_left
       ·go_simp; rfl
       refine take_ (i := 12) (N := some 22) (v := ?_) (a' := ?_) (fB 35 8191) rfl rfl (by kernel_rfl) (fun _ _ _ h => h) (Or.inl ⟨by rfl, ?_⟩) hHeld ?_ ?_
       rotate_left
       ·rintro w' ⟨s0, s1⟩
        have y1 := cellB s0 HZ.out.2.1
        have y2 := cellB s0 HZ.out.2.2.1
        have y3 := cellB s0 HZ.out.2.2.2
        go_simp; with_reducible rfl
       rotate_left
       ·go_simp; rfl
       refine one_ (i := 13) (N := some 23) (fB 35 16383) rfl rfl (by kernel_rfl) (by decide) (fun K hK => ?_)
       refine goes_ Tryd.func71 (by kernel_rfl) rfl #[.agg #[.int .i64 x.f1.f0, .int .i64 x.f1.f1, .string x.f1.f2]] (by rfl) rfl rfl (by first | rfl | (simp only [List.map_toArray, List.map_cons, List.map_nil]; rfl)) ?_
       refine (caduceusref03_Check.calls 130000 x.f1.f0 x.f1.f1 x.f1.f2 true _ HVAL.out).mono ?_
       rintro e w4 ⟨rfl, hb⟩; have HB4 := Aside0.mk (HB3.out.trans (hb.mono HB3.out.size)); clear hb
       refine ⟨_, rfl, hK.out _ _ ⟨HB4.out, trivial⟩ (fun hHeld => ?_)⟩
       clear hK K
       refine norm_ (a' := ?_) ?_ ?_
       rotate_left
       ·show Act.put _ (some 23) _ = _
        go_simp
        rfl
       refine pure_ (i := 14) (N := some 24) (v := ?_) (a' := ?_) (fB 35 32767) rfl rfl (by kernel_rfl) (fun _ _ _ h => h) (Or.inl ⟨by rfl, ?_⟩) ?_ ?_
       rotate_left
       ·intro w'; go_simp; with_reducible rfl
       rotate_left
       ·go_simp; rfl
       refine pure_ (i := 15) (N := some 25) (v := ?_) (a' := ?_) (fB 35 65535) rfl rfl (by kernel_rfl) (fun _ _ _ h => h) (Or.inl ⟨by rfl, ?_⟩) ?_ ?_
       rotate_left
       ·intro w'; go_simp; with_reducible rfl
       rotate_left
       ·go_simp; rfl
       refine pure_ (i := 16) (N := some 26) (v := ?_) (a' := ?_) (fB 35 131071) rfl rfl (by kernel_rfl) (fun _ _ _ h => h) (Or.inl ⟨by rfl, ?_⟩) ?_ ?_
       rotate_left
       ·intro w'; go_simp; with_reducible rfl
       rotate_left
       ·go_simp; rfl
       refine pure_ (i := 17) (N := some 27) (v := ?_) (a' := ?_) (fB 35 262143) rfl rfl (by kernel_rfl) (fun _ _ _ h => h) (Or.inl ⟨by rfl, ?_⟩) ?_ ?_
       rotate_left
       ·intro w'; go_simp; with_reducible rfl
       rotate_left
       ·go_simp; rfl
       refine pure_ (i := 18) (N := some 28) (v := ?_) (a' := ?_) (fB 35 524287) rfl rfl (by kernel_rfl) (fun _ _ _ h => h) (Or.inl ⟨by rfl, ?_⟩) ?_ ?_
       rotate_left
       ·intro w'; go_simp; with_reducible rfl
       rotate_left
       ·go_simp; rfl
       refine pure_ (i := 19) (N := some 29) (v := ?_) (a' := ?_) (fB 35 1048575) rfl rfl (by kernel_rfl) (fun _ _ _ h => h) (Or.inl ⟨by rfl, ?_⟩) ?_ ?_
       rotate_left
       ·intro w'; go_simp; with_reducible rfl
       rotate_left
       ·go_simp; rfl
       refine pure_ (i := 20) (N := some 30) (v := ?_) (a' := ?_) (fB 35 2097151) rfl rfl (by kernel_rfl) (fun _ _ _ h => h) (Or.inl ⟨by rfl, ?_⟩) ?_ ?_
       rotate_left
       ·intro w'; go_simp; with_reducible rfl
       rotate_left
       ·go_simp; rfl
       refine pure_ (i := 21) (N := some 31) (v := ?_) (a' := ?_) (fB 35 4194303) rfl rfl (by kernel_rfl) (fun _ _ _ h => h) (Or.inl ⟨by rfl, ?_⟩) ?_ ?_
       rotate_left
       ·intro w'; go_simp; with_reducible rfl
       rotate_left
       ·go_simp; rfl
       refine pure_ (i := 22) (N := some 32) (v := ?_) (a' := ?_) (fB 35 8388607) rfl rfl (by kernel_rfl) (fun _ _ _ h => h) (Or.inl ⟨by rfl, ?_⟩) ?_ ?_
       rotate_left
       ·intro w'; go_simp; with_reducible rfl
       rotate_left
       ·go_simp; rfl
       refine pure_ (i := 23) (N := some 33) (v := ?_) (a' := ?_) (fB 35 16777215) rfl rfl (by kernel_rfl) (fun _ _ _ h => h) (Or.inl ⟨by rfl, ?_⟩) ?_ ?_
       rotate_left
       ·intro w'; go_simp; with_reducible rfl
       rotate_left
       ·go_simp; rfl
       refine pure_ (i := 24) (N := some 34) (v := ?_) (a' := ?_) (fB 35 33554431) rfl rfl (by kernel_rfl) (fun _ _ _ h => h) (Or.inl ⟨by rfl, ?_⟩) ?_ ?_
       rotate_left
       ·intro w'; go_simp; with_reducible rfl
       rotate_left
       ·go_simp; rfl
       refine take_ (i := 25) (N := some 35) (v := ?_) (a' := ?_) (fB 35 67108863) rfl rfl (by kernel_rfl) (fun _ _ _ h => h) (Or.inl ⟨by rfl, ?_⟩) hHeld ?_ ?_
       rotate_left
       ·rintro w' ⟨s0, s1⟩
        have y0 := cellB s0 HX0.out
        go_simp; with_reducible rfl
       rotate_left
       ·go_simp; rfl
       refine pure_ (i := 26) (N := some 36) (v := ?_) (a' := ?_) (fB 35 134217727) rfl rfl (by kernel_rfl) (fun _ _ _ h => h) (Or.inl ⟨by rfl, ?_⟩) ?_ ?_
       rotate_left
       ·intro w'; go_simp; with_reducible rfl
       rotate_left
       ·go_simp; rfl
       refine pure_ (i := 27) (N := some 37) (v := ?_) (a' := ?_) (fB 35 268435455) rfl rfl (by kernel_rfl) (fun _ _ _ h => h) (Or.inl ⟨by rfl, ?_⟩) ?_ ?_
       rotate_left
       ·intro w'; go_simp; with_reducible rfl
       rotate_left
       ·go_simp; rfl
       refine pure_ (i := 28) (N := some 38) (v := ?_) (a' := ?_) (fB 35 536870911) rfl rfl (by kernel_rfl) (fun _ _ _ h => h) (Or.inl ⟨by rfl, ?_⟩) ?_ ?_
       rotate_left
       ·intro w'; go_simp; with_reducible rfl
       rotate_left
       ·go_simp; rfl
       refine pure_ (i := 29) (N := some 39) (v := ?_) (a' := ?_) (fB 35 1073741823) rfl rfl (by kernel_rfl) (fun _ _ _ h => h) (Or.inl ⟨by rfl, ?_⟩) ?_ ?_
       rotate_left
       ·intro w'; go_simp; with_reducible rfl
       rotate_left
       ·go_simp; rfl
       refine take_ (i := 30) (N := some 40) (v := ?_) (a' := ?_) (fB 35 2147483647) rfl rfl (by kernel_rfl) (fun _ _ _ h => h) (Or.inl ⟨by rfl, ?_⟩) hHeld ?_ ?_
       rotate_left
       ·rintro w' ⟨s0, s1⟩
        have y0 := cellB s0 HZ.out.1
        go_simp; with_reducible rfl
       rotate_left
       ·go_simp; rfl
       refine one_ (i := 31) (N := some 41) (fB 35 4294967295) rfl rfl (by kernel_rfl) (by decide) (fun K hK => ?_)
       refine goes_ Tryd.func72 (by kernel_rfl) rfl #[.string y.f0, .string x.f0] (by rfl) rfl rfl (by first | rfl | (simp only [List.map_toArray, List.map_cons, List.map_nil]; rfl)) ?_
       refine (caduceusref02_Compare.calls 130000 y.f0 x.f0 _ _ HCM.out).mono ?_
       rintro e w5 ⟨rfl, hb⟩; have HB5 := Aside0.mk (HB4.out.trans (hb.mono HB4.out.size)); clear hb
       refine ⟨_, rfl, hK.out _ _ ⟨HB5.out, trivial⟩ (fun hHeld => ?_)⟩
       clear hK K
       refine norm_ (a' := ?_) ?_ ?_
       rotate_left
       ·show Act.put _ (some 41) _ = _
        go_simp
        rfl
       refine pure_ (i := 32) (N := some 42) (v := ?_) (a' := ?_) (fB 35 8589934591) rfl rfl (by kernel_rfl) (fun _ _ _ h => h) (Or.inl ⟨by rfl, ?_⟩) ?_ ?_
       rotate_left
       ·intro w'; go_simp; with_reducible rfl
       rotate_left
       ·go_simp; rfl
       refine pure_ (i := 33) (N := some 43) (v := ?_) (a' := ?_) (fB 35 17179869183) rfl rfl (by kernel_rfl) (fun _ _ _ h => h) (Or.inl ⟨by rfl, ?_⟩) ?_ ?_
       rotate_left
       ·intro w'; go_simp; with_reducible rfl
       rotate_left
       ·go_simp; rfl
       refine pure_ (i := 34) (N := some 44) (v := ?_) (a' := ?_) (fB 35 34359738367) rfl rfl (by kernel_rfl) (fun _ _ _ h => h) (Or.inl ⟨by rfl, ?_⟩) ?_ ?_
       rotate_left
       ·intro w'; go_simp; with_reducible rfl
       rotate_left
       ·go_simp; rfl
       refine done_ (by kernel_rfl) ?_
       go_wp2
       go_ret
       have hb : atsB l = false := by unfold atsB; rw [← HE2.out, HSB.out, HVB.out, HAB.out]; simp
       exact ⟨by rw [hb]; rfl, HB5.out⟩
end Go.Proofs.YtmcochnofkjhaaaDoor.QU
/- The document's check of an event and of what is offered. By hand. -/
namespace Go.Proofs.YtmcochnofkjhaaaDoor.QU
open Go.RowKit Go.Proofs.YtmcochnofkjhaaaDoor.PAll Go.Proofs.YtmcochnofkjhaaaDoorW.PrintWords Go.Proofs.YtmcochnofkjhaaaDoorW.PrintLast Go.Proofs.YtmcochnofkjhaaaDoorW.PrintMore Go.Proofs.YtmcochnofkjhaaaDoor.NQ
set_option linter.unusedVariables false
set_option linter.unusedSimpArgs false
set_option maxRecDepth 100000
theorem ref_chk_is (s : ByteArray) (hs : s.size ≤ 300) : caduceusref02_Check.f 130000 s = some (chk s.data.toList) := ref_Check_is s (by omega) 130000 (by omega)
set_option maxHeartbeats 16000000 in
theorem ev43_is {w : World} (x : S33) {A : Option Addr} {c n : Nat} (ht : x.f1.size ≤ 300) (hS : SmA x.f2) (hn : x.f2.length = n) (hC : k104.C w A n (x.f2.map ra)) (hc : n ≤ c) :
    Calls Tryd.prog 43 #[.agg (ec x (.slice A n c))] w fun e w' => e = .returned (.bool (evB x)) ∧ Below w.heap.size w w' := by
  have hu57 := Tryd.underlying57
  have hu54 := Tryd.underlying54
  have HC := Aside0.mk hC
  have HS := Aside0.mk hS
  have HN := Aside0.mk hn
  have HCH := Aside0.mk (ref_chk_is x.f1 ht)
  have HEV := Aside0.mk (show evB x = (idB x.f0.f0 x.f0.f1 x.f0.f2 && ((chk x.f1.data.toList == 0) && atsB x.f2)) from rfl)
  clear hC hS hn ht
  unfold ec
  cases hid : idB x.f0.f0 x.f0.f1 x.f0.f2 with
  | false =>
    have HID := Aside0.mk (hid ▸ ref_id_is x.f0.f0 x.f0.f1 x.f0.f2)
    have hev := HEV.out
    rw [hid, Bool.false_and] at hev
    have HE := Aside0.mk hev
    clear hid hev
    go_enter Tryd.func43, Tryd.ntmps43
    go_wp2_with (first
      | ((with_reducible refine gate_dst (N := 1) rfl ?_); refine box_event ?hg (N := 1) ?hd (cs := (ec x (.slice A n c))) (t := 57) ?hr ?_; (case hd => rfl); (case hg => rfl); (case hr => first | (go_simp; done) | (go_simp; rfl)); intro g1 hg1 w1 kg1 bg1; have Gg1 := Aside0.mk hg1; clear hg1; have HB1 := Aside0.mk bg1; have p0 := (blk_cell kg1 0).trans (show (ec x (.slice A n c))[0]? = some (.int .i64 x.f0.f0) from rfl); have p1 := (blk_cell kg1 1).trans (show (ec x (.slice A n c))[1]? = some (.int .i64 x.f0.f1) from rfl); have p2 := (blk_cell kg1 2).trans (show (ec x (.slice A n c))[2]? = some (.int .i64 x.f0.f2) from rfl); clear kg1 bg1)
      | ((with_reducible refine gate_dst (N := 5) rfl ?_); refine goesL_ (some 5) rfl rfl Tryd.func59 (by kernel_rfl) rfl #[.agg #[.int .i64 x.f0.f0, .int .i64 x.f0.f1, .int .i64 x.f0.f2]] rfl (by first | (simp only [List.map_toArray, List.map_cons, List.map_nil]; rfl) | rfl) ?_; refine (caduceusref05_IsID.calls x.f0.f0 x.f0.f1 x.f0.f2 false _ HID.out).mono ?_; rintro e w2 ⟨rfl, hb⟩; have HB2 := Aside0.mk (HB1.out.trans (hb.mono HB1.out.size)); clear hb; refine ⟨_, rfl, ?_⟩))
    go_ret
    exact ⟨by rw [HE.out]; rfl, HB2.out⟩
  | true =>
    have HID := Aside0.mk (hid ▸ ref_id_is x.f0.f0 x.f0.f1 x.f0.f2)
    have hev := HEV.out
    rw [hid, Bool.true_and] at hev
    by_cases hk : chk x.f1.data.toList = 0
    · have hch := HCH.out
      rw [hk] at hch
      have HC0 := Aside0.mk hch
      rw [hk] at hev
      have HE := Aside0.mk (show evB x = atsB x.f2 by rw [hev]; simp)
      clear hid hev hk hch
      go_enter Tryd.func43, Tryd.ntmps43
      go_wp2_with (first
        | ((with_reducible refine gate_dst (N := 1) rfl ?_); refine box_event ?hg (N := 1) ?hd (cs := (ec x (.slice A n c))) (t := 57) ?hr ?_; (case hd => rfl); (case hg => rfl); (case hr => first | (go_simp; done) | (go_simp; rfl)); intro g1 hg1 w1 kg1 bg1; have Gg1 := Aside0.mk hg1; clear hg1; have HB1 := Aside0.mk bg1; have HK1 := Aside0.mk kg1; have p0 := (blk_cell kg1 0).trans (show (ec x (.slice A n c))[0]? = some (.int .i64 x.f0.f0) from rfl); have p1 := (blk_cell kg1 1).trans (show (ec x (.slice A n c))[1]? = some (.int .i64 x.f0.f1) from rfl); have p2 := (blk_cell kg1 2).trans (show (ec x (.slice A n c))[2]? = some (.int .i64 x.f0.f2) from rfl); clear kg1 bg1)
        | ((with_reducible refine gate_dst (N := 5) rfl ?_); refine goesL_ (some 5) rfl rfl Tryd.func59 (by kernel_rfl) rfl #[.agg #[.int .i64 x.f0.f0, .int .i64 x.f0.f1, .int .i64 x.f0.f2]] rfl (by first | (simp only [List.map_toArray, List.map_cons, List.map_nil]; rfl) | rfl) ?_; refine (caduceusref05_IsID.calls x.f0.f0 x.f0.f1 x.f0.f2 true _ HID.out).mono ?_; rintro e w2 ⟨rfl, hb⟩; have HB2 := Aside0.mk (HB1.out.trans (hb.mono HB1.out.size)); have HK2 := Aside0.mk (keepB HK1.out hb); clear hb p0 p1 p2; have p3 := (blk_cell HK2.out 3).trans (show (ec x (.slice A n c))[3]? = some (.string x.f1) from rfl); refine ⟨_, rfl, ?_⟩)
        | ((with_reducible refine gate_dst (N := 9) rfl ?_); refine gate_guard (by rfl) ?_; dsimp only; refine goesL_ (some 9) rfl rfl Tryd.func42 (by kernel_rfl) rfl #[.string x.f1] rfl (by first | (simp only [List.map_toArray, List.map_cons, List.map_nil]; rfl) | rfl) ?_; refine (caduceusref02_Check.calls 130000 x.f1 0 _ HC0.out).mono ?_; rintro e w3 ⟨rfl, hb⟩; have HB3 := Aside0.mk (HB2.out.trans (hb.mono HB2.out.size)); have HK3 := Aside0.mk (keepB HK2.out hb); clear hb p3; have p4 := (blk_cell HK3.out 4).trans (show (ec x (.slice A n c))[4]? = some (.slice A n c) from rfl); refine ⟨_, rfl, ?_⟩)
        | ((with_reducible refine gate_dst (N := 15) rfl ?_); refine gate_guard (by rfl) ?_; dsimp only; refine goesL_ (some 15) rfl rfl Tryd.func60 (by kernel_rfl) rfl #[.slice A n c] rfl (by first | (simp only [List.map_toArray, List.map_cons, List.map_nil]; rfl) | rfl) ?_; refine (ats60_is HS.out HN.out (Kd.C_below HC.out HB3.out) hc).mono ?_; rintro e w4 ⟨rfl, hb⟩; have HB4 := Aside0.mk (HB3.out.trans (hb.mono HB3.out.size)); clear hb; refine ⟨_, rfl, ?_⟩))
      go_ret
      exact ⟨by rw [HE.out]; rfl, HB4.out⟩
    · have d0 : (chk x.f1.data.toList == 0) = false := beq_eq_false_iff_ne.2 hk
      rw [d0, Bool.false_and] at hev
      have HE := Aside0.mk hev
      clear hid hev hk
      go_enter Tryd.func43, Tryd.ntmps43
      go_wp2_with (first
        | ((with_reducible refine gate_dst (N := 1) rfl ?_); refine box_event ?hg (N := 1) ?hd (cs := (ec x (.slice A n c))) (t := 57) ?hr ?_; (case hd => rfl); (case hg => rfl); (case hr => first | (go_simp; done) | (go_simp; rfl)); intro g1 hg1 w1 kg1 bg1; have Gg1 := Aside0.mk hg1; clear hg1; have HB1 := Aside0.mk bg1; have HK1 := Aside0.mk kg1; have p0 := (blk_cell kg1 0).trans (show (ec x (.slice A n c))[0]? = some (.int .i64 x.f0.f0) from rfl); have p1 := (blk_cell kg1 1).trans (show (ec x (.slice A n c))[1]? = some (.int .i64 x.f0.f1) from rfl); have p2 := (blk_cell kg1 2).trans (show (ec x (.slice A n c))[2]? = some (.int .i64 x.f0.f2) from rfl); clear kg1 bg1)
        | ((with_reducible refine gate_dst (N := 5) rfl ?_); refine goesL_ (some 5) rfl rfl Tryd.func59 (by kernel_rfl) rfl #[.agg #[.int .i64 x.f0.f0, .int .i64 x.f0.f1, .int .i64 x.f0.f2]] rfl (by first | (simp only [List.map_toArray, List.map_cons, List.map_nil]; rfl) | rfl) ?_; refine (caduceusref05_IsID.calls x.f0.f0 x.f0.f1 x.f0.f2 true _ HID.out).mono ?_; rintro e w2 ⟨rfl, hb⟩; have HB2 := Aside0.mk (HB1.out.trans (hb.mono HB1.out.size)); have HK2 := Aside0.mk (keepB HK1.out hb); clear hb p0 p1 p2; have p3 := (blk_cell HK2.out 3).trans (show (ec x (.slice A n c))[3]? = some (.string x.f1) from rfl); refine ⟨_, rfl, ?_⟩)
        | ((with_reducible refine gate_dst (N := 9) rfl ?_); refine gate_guard (by rfl) ?_; dsimp only; refine goesL_ (some 9) rfl rfl Tryd.func42 (by kernel_rfl) rfl #[.string x.f1] rfl (by first | (simp only [List.map_toArray, List.map_cons, List.map_nil]; rfl) | rfl) ?_; refine (caduceusref02_Check.calls 130000 x.f1 _ _ HCH.out).mono ?_; rintro e w3 ⟨rfl, hb⟩; have HB3 := Aside0.mk (HB2.out.trans (hb.mono HB2.out.size)); clear hb p3; refine ⟨_, rfl, ?_⟩))
      go_ret
      exact ⟨by rw [HE.out]; rfl, HB3.out⟩
/-- What may be offered. -/
def mayB (G : S36) : Bool := decide (1 ≤ G.f0) && ((chk G.f1.data.toList == 0) && evB G.f2)
set_option maxHeartbeats 16000000 in
theorem may31_is {w : World} (G : S36) {A : Option Addr} {c n : Nat} (h1 : G.f1.size ≤ 300) (ht : G.f2.f1.size ≤ 300) (hS : SmA G.f2.f2) (hn : G.f2.f2.length = n) (hC : k104.C w A n (G.f2.f2.map ra)) (hc : n ≤ c) :
    Calls Tryd.prog 31 #[.agg (xc (rf G) (.slice A n c))] w fun e w' => e = .returned (.bool (mayB G)) ∧ Below w.heap.size w w' := by
  have hu59 := Tryd.underlying59
  have hu57 := Tryd.underlying57
  have hu54 := Tryd.underlying54
  have HC := Aside0.mk hC
  have HS := Aside0.mk hS
  have HN := Aside0.mk hn
  have HT := Aside0.mk ht
  have HCH := Aside0.mk (ref_chk_is G.f1 h1)
  have HEV := Aside0.mk (show mayB G = (decide (1 ≤ G.f0) && ((chk G.f1.data.toList == 0) && evB G.f2)) from rfl)
  clear hC hS hn ht h1
  show Calls Tryd.prog 31 #[.agg #[.int .i64 G.f0, .string G.f1, .int .i64 G.f2.f0.f0, .int .i64 G.f2.f0.f1, .int .i64 G.f2.f0.f2, .string G.f2.f1, .slice A n c]] w fun e w' => e = .returned (.bool (mayB G)) ∧ Below w.heap.size w w'
  by_cases hid : 1 ≤ G.f0
  · have d1 : decide (1 ≤ G.f0) = true := decide_eq_true hid
    have hev := HEV.out
    rw [d1, Bool.true_and] at hev
    by_cases hk : chk G.f1.data.toList = 0
    · have hch := HCH.out
      rw [hk] at hch
      have HC0 := Aside0.mk hch
      rw [hk] at hev
      have HE := Aside0.mk (show mayB G = evB G.f2 by rw [hev]; simp)
      clear hid hev hk hch
      go_enter Tryd.func31, Tryd.ntmps31
      go_wp2_with (first
        | ((with_reducible refine gate_dst (N := 1) rfl ?_); refine box_event ?hg (N := 1) ?hd (cs := #[.int .i64 G.f0, .string G.f1, .int .i64 G.f2.f0.f0, .int .i64 G.f2.f0.f1, .int .i64 G.f2.f0.f2, .string G.f2.f1, .slice A n c]) (t := 59) ?hr ?_; (case hd => rfl); (case hg => rfl); (case hr => first | (go_simp; done) | (go_simp; rfl)); intro g1 hg1 w1 kg1 bg1; have Gg1 := Aside0.mk hg1; clear hg1; have HB1 := Aside0.mk bg1; have HK1 := Aside0.mk kg1; have p0 : w1.cell? ⟨g1, 0, none⟩ = some (.int .i64 G.f0) := (blk_cell kg1 0).trans rfl; have p1 : w1.cell? ⟨g1, 1, none⟩ = some (.string G.f1) := (blk_cell kg1 1).trans rfl; clear kg1 bg1)
        | ((with_reducible refine gate_dst (N := 9) rfl ?_); refine gate_guard (by rfl) ?_; dsimp only; refine goesL_ (some 9) rfl rfl Tryd.func42 (by kernel_rfl) rfl #[.string G.f1] rfl (by first | (simp only [List.map_toArray, List.map_cons, List.map_nil]; rfl) | rfl) ?_; refine (caduceusref02_Check.calls 130000 G.f1 0 _ HC0.out).mono ?_; rintro e w3 ⟨rfl, hb⟩; have HB3 := Aside0.mk (HB1.out.trans (hb.mono HB1.out.size)); have HK3 := Aside0.mk (keepB HK1.out hb); clear hb p0 p1; have p2 : w3.cell? ⟨g1, 2, none⟩ = some (.int .i64 G.f2.f0.f0) := (blk_cell HK3.out 2).trans rfl; have p3 : w3.cell? ⟨g1, 3, none⟩ = some (.int .i64 G.f2.f0.f1) := (blk_cell HK3.out 3).trans rfl; have p4 : w3.cell? ⟨g1, 4, none⟩ = some (.int .i64 G.f2.f0.f2) := (blk_cell HK3.out 4).trans rfl; have p5 : w3.cell? ⟨g1, 5, none⟩ = some (.string G.f2.f1) := (blk_cell HK3.out 5).trans rfl; have p6 : w3.cell? ⟨g1, 6, none⟩ = some (.slice A n c) := (blk_cell HK3.out 6).trans rfl; refine ⟨_, rfl, ?_⟩)
        | ((with_reducible refine gate_dst (N := 15) rfl ?_); refine gate_guard (by rfl) ?_; dsimp only; refine goesL_ (some 15) rfl rfl Tryd.func43 (by kernel_rfl) rfl #[.agg (ec G.f2 (.slice A n c))] rfl (by first | (simp only [List.map_toArray, List.map_cons, List.map_nil]; rfl) | rfl) ?_; refine (ev43_is G.f2 HT.out HS.out HN.out (Kd.C_below HC.out HB3.out) hc).mono ?_; rintro e w4 ⟨rfl, hb⟩; have HB4 := Aside0.mk (HB3.out.trans (hb.mono HB3.out.size)); clear hb; refine ⟨_, rfl, ?_⟩))
      go_ret
      exact ⟨by rw [HE.out]; rfl, HB4.out⟩
    · have d0 : (chk G.f1.data.toList == 0) = false := beq_eq_false_iff_ne.2 hk
      rw [d0, Bool.false_and] at hev
      have HE := Aside0.mk hev
      clear hid hev hk
      go_enter Tryd.func31, Tryd.ntmps31
      go_wp2_with (first
        | ((with_reducible refine gate_dst (N := 1) rfl ?_); refine box_event ?hg (N := 1) ?hd (cs := #[.int .i64 G.f0, .string G.f1, .int .i64 G.f2.f0.f0, .int .i64 G.f2.f0.f1, .int .i64 G.f2.f0.f2, .string G.f2.f1, .slice A n c]) (t := 59) ?hr ?_; (case hd => rfl); (case hg => rfl); (case hr => first | (go_simp; done) | (go_simp; rfl)); intro g1 hg1 w1 kg1 bg1; have Gg1 := Aside0.mk hg1; clear hg1; have HB1 := Aside0.mk bg1; have HK1 := Aside0.mk kg1; have p0 : w1.cell? ⟨g1, 0, none⟩ = some (.int .i64 G.f0) := (blk_cell kg1 0).trans rfl; have p1 : w1.cell? ⟨g1, 1, none⟩ = some (.string G.f1) := (blk_cell kg1 1).trans rfl; clear kg1 bg1)
        | ((with_reducible refine gate_dst (N := 9) rfl ?_); refine gate_guard (by rfl) ?_; dsimp only; refine goesL_ (some 9) rfl rfl Tryd.func42 (by kernel_rfl) rfl #[.string G.f1] rfl (by first | (simp only [List.map_toArray, List.map_cons, List.map_nil]; rfl) | rfl) ?_; refine (caduceusref02_Check.calls 130000 G.f1 _ _ HCH.out).mono ?_; rintro e w3 ⟨rfl, hb⟩; have HB3 := Aside0.mk (HB1.out.trans (hb.mono HB1.out.size)); clear hb p0 p1; refine ⟨_, rfl, ?_⟩))
      go_ret
      exact ⟨by rw [HE.out]; rfl, HB3.out⟩
  · have d1 : decide (1 ≤ G.f0) = false := decide_eq_false hid
    have hev := HEV.out
    rw [d1, Bool.false_and] at hev
    have HE := Aside0.mk hev
    clear hid hev
    go_enter Tryd.func31, Tryd.ntmps31
    go_wp2_with (((with_reducible refine gate_dst (N := 1) rfl ?_); refine box_event ?hg (N := 1) ?hd (cs := #[.int .i64 G.f0, .string G.f1, .int .i64 G.f2.f0.f0, .int .i64 G.f2.f0.f1, .int .i64 G.f2.f0.f2, .string G.f2.f1, .slice A n c]) (t := 59) ?hr ?_; (case hd => rfl); (case hg => rfl); (case hr => first | (go_simp; done) | (go_simp; rfl)); intro g1 hg1 w1 kg1 bg1; have Gg1 := Aside0.mk hg1; clear hg1; have HB1 := Aside0.mk bg1; have p0 : w1.cell? ⟨g1, 0, none⟩ = some (.int .i64 G.f0) := (blk_cell kg1 0).trans rfl; clear kg1 bg1))
    go_ret
    exact ⟨by rw [HE.out]; rfl, HB1.out⟩
end Go.Proofs.YtmcochnofkjhaaaDoor.QU
