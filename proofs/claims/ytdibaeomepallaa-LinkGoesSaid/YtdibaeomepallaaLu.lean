import Derived.Test.YtdibaeomepallaaLr
namespace Go.Proofs.Ytdibaeomepallaa.LK
open Go.RowKit Go.Proofs.YtdibaeomepallaaW.PrintWords Go.Proofs.YtdibaeomepallaaW.PrintLast Go.Proofs.YtdibaeomepallaaW.PrintMore Go.Proofs.Ytdibaeomepallaa.PAll Go.Proofs.Ytdibaeomepallaa.NW
set_option linter.unusedVariables false
set_option linter.unusedSimpArgs false
set_option maxRecDepth 100000
/-! ### when nothing is lost any more: the plain law -/
def tot (S : Nat → Sd) : Nat := (S 0).row.length + (S 1).row.length
def ssm (S : Nat → Sd) : Nat := (S 0).sent.length + (S 1).sent.length
theorem outS_tot (S : Nat → Sd) {i : Nat} (hi : i < 2) (ps : List Pk) : tot (outS S i ps) ≤ tot S + ps.length := by
  unfold tot outS
  rcases two_cases hi with rfl | rfl
  · show (S 0).row.length + (dOut (S 0) (S 1) ps).row.length ≤ _
    simp only [dOut, pushR, List.length_append, List.length_take]; omega
  · show (dOut (S 1) (S 0) ps).row.length + (S 1).row.length ≤ _
    simp only [dOut, pushR, List.length_append, List.length_take]; omega
theorem upd_tot (S : Nat → Sd) {i : Nat} (hi : i < 2) (X : Sd) (h : X.row = (S i).row) : tot (upd S i X) = tot S := by
  unfold tot
  rcases two_cases hi with rfl | rfl
  · show X.row.length + (S 1).row.length = _; rw [h]
  · show (S 0).row.length + X.row.length = _; rw [h]
theorem popS_tot (S : Nat → Sd) {i : Nat} (hi : i < 2) {k : Nat} (hk : k < (S i).row.length) : tot (popS S i k) + 1 = tot S := by
  unfold tot popS
  rcases two_cases hi with rfl | rfl
  · show ((S 0).row.eraseIdx k).length + (S 1).row.length + 1 = _
    rw [List.length_eraseIdx_of_lt hk]; omega
  · show (S 0).row.length + ((S 1).row.eraseIdx k).length + 1 = _
    rw [List.length_eraseIdx_of_lt hk]; omega
theorem popS_tot_le (S : Nat → Sd) {i : Nat} (hi : i < 2) (k : Nat) : tot (popS S i k) ≤ tot S := by
  by_cases hk : k < (S i).row.length
  · have := popS_tot S hi hk; omega
  · have e : popS S i k = S := by
      unfold popS
      rw [show popR (S i) k = S i by unfold popR; rw [List.eraseIdx_of_length_le (by omega)]]
      funext j
      by_cases h : j = i
      · subst h; rw [upd_same]
      · rw [upd_ne _ _ h]
    rw [e]; exact Nat.le_refl _
theorem tkP_len {l : Lk} {p : Pk} : (tkP l p).length ≤ 8 := by
  have h1 : (goP (tk2 l p)).length ≤ 8 := by unfold goP; rw [outs_len]; omega
  unfold tkP
  split
  · split
    · exact Nat.le_of_ble_eq_true rfl
    · exact h1
  · exact Nat.zero_le _
theorem hearS_tot (S : Nat → Sd) {i : Nat} (hi : i < 2) (p : Pk) : tot (hearS S i p) ≤ tot S + 8 := by
  unfold hearS
  have h := outS_tot (upd S i (tkS (S i) p)) hi (tkP (S i).l p)
  rw [upd_tot S hi (tkS (S i) p) rfl] at h
  have := tkP_len (l := (S i).l) (p := p)
  omega
theorem comeS_tot (S : Nat → Sd) {i : Nat} (hi : i < 2) (k : Nat) : tot (comeS S i k) ≤ tot S + 8 := by
  unfold comeS
  cases (S i).row[k]? with
  | none => exact Nat.le_add_right _ _
  | some p =>
    show tot (hearS (popS S i k) i p) ≤ _
    have := hearS_tot (popS S i k) hi p
    have := popS_tot_le S hi k
    omega
theorem twiceS_tot (S : Nat → Sd) {i : Nat} (hi : i < 2) (k : Nat) : tot (twiceS S i k) ≤ tot S + 1 := by
  unfold twiceS
  cases (S i).row[k]? with
  | none => exact Nat.le_add_right _ _
  | some p =>
    have h := outS_tot S (one_sub hi).2 [p]
    unfold outS at h
    rw [show 1 - (1 - i) = i by omega] at h
    exact h
theorem tickS_tot (S : Nat → Sd) {i : Nat} (hi : i < 2) : tot (tickS S i) ≤ tot S + (S i).l.out := by
  unfold tickS
  have h := outS_tot S hi (outs (S i).l 0 (S i).l.out)
  rw [outs_len] at h
  omega
theorem sendS_tot {f : Int} {S : Nat → Sd} (hg : Good f S) {i : Nat} (hi : i < 2) (s : ByteArray) : tot (sendS S i s) + 7 * ssm (sendS S i s) ≤ tot S + 7 * ssm S + 8 := by
  have h := outS_tot (upd S i (sdS (S i) s)) hi (sdP (S i).l s)
  rw [upd_tot S hi (sdS (S i) s) rfl] at h
  have hfa := (hg.inv.at hi).fa
  have hs : ssm (sendS S i s) = ssm S + (if sdE (S i).l s = 0 then 1 else 0) := by
    unfold ssm sendS
    rw [outS_sent, outS_sent]
    rcases two_cases hi with rfl | rfl
    · show (if sdE (S 0).l s = 0 then (S 0).sent ++ [s] else (S 0).sent).length + (S 1).sent.length = _
      split
      · rw [List.length_append]; show _ + 1 + _ = _; omega
      · rfl
    · show (S 0).sent.length + (if sdE (S 1).l s = 0 then (S 1).sent ++ [s] else (S 1).sent).length = _
      split
      · rw [List.length_append]; rfl
      · rfl
  have hp : (sdP (S i).l s).length ≤ (if sdE (S i).l s = 0 then 1 else 0) := by
    unfold sdP
    split
    · unfold goP
      rw [outs_len]
      simp only [List.length_append, List.length_cons, List.length_nil]
      omega
    · exact Nat.zero_le _
  unfold sendS at hs ⊢
  split at hp <;> split at hs <;> simp_all <;> omega
theorem ssm_of {S T : Nat → Sd} (h : ∀ j, (T j).sent = (S j).sent) : ssm T = ssm S := by unfold ssm; rw [h 0, h 1]
theorem doS_count {f : Int} {S : Nat → Sd} (hg : Good f S) (d : S109) : tot (doS S d) + 7 * ssm (doS S d) ≤ tot S + 7 * ssm S + 8 := by
  refine doS_ind (P := fun T => tot T + 7 * ssm T ≤ tot S + 7 * ssm S + 8) d (by omega) (fun i s hi => sendS_tot hg hi s) (fun i hi => ?_) (fun i k hi => ?_) (fun i k hi => ?_) (fun i k hi => ?_)
  · have h := tickS_tot S hi
    have h8 := (hg.inv.at hi).right.2.2.2.2
    rw [ssm_of (tickS_sent S i)]; omega
  · have h := twiceS_tot S hi k
    rw [ssm_of (twiceS_sent S i k)]; omega
  · have h := popS_tot_le S hi k
    rw [ssm_of (popS_sent S i k)]; omega
  · have h := comeS_tot S hi k
    rw [ssm_of (comeS_sent S i k)]; omega
theorem doN_count {f : Int} (h1 : 1 ≤ f) (h2 : f ≤ 1099511627775) (l : List S109) (n : Nat) (hn : n ≤ l.length) : tot (doN (freshL f) l n) + 7 * ssm (doN (freshL f) l n) ≤ 8 * n := by
  induction n with
  | zero => exact Nat.le_refl _
  | succ n ih =>
    rw [doN_succ _ (by omega)]
    have h := doS_count (doN_good h1 h2 l n (by omega)) (rd_T109 l (n : Int))
    have := ih (by omega)
    omega
/-- One packet comes to each end, if there is any. -/
def com2 (S : Nat → Sd) : Nat → Sd := comeS (comeS S 0 0) 1 0
theorem com0 (S : Nat → Sd) : comeS S 0 0 0 = (stp (S 0) (S 1)).1 ∧ comeS S 0 0 1 = (stp (S 0) (S 1)).2 := by
  unfold comeS stp
  cases (S 0).row with
  | nil => exact ⟨rfl, rfl⟩
  | cons p r => exact ⟨rfl, rfl⟩
theorem com1 (S : Nat → Sd) : comeS S 1 0 1 = (stp (S 1) (S 0)).1 ∧ comeS S 1 0 0 = (stp (S 1) (S 0)).2 := by
  unfold comeS stp
  cases (S 1).row with
  | nil => exact ⟨rfl, rfl⟩
  | cons p r => exact ⟨rfl, rfl⟩
theorem com2_eq (S : Nat → Sd) : com2 S 0 = (stp2 (S 0) (S 1)).1 ∧ com2 S 1 = (stp2 (S 0) (S 1)).2 := by
  have h0 := com0 S
  have h1 := com1 (comeS S 0 0)
  unfold com2 stp2
  rw [h1.1, h1.2, h0.1, h0.2]
  exact ⟨rfl, rfl⟩
theorem com2_sent (S : Nat → Sd) (j : Nat) : (com2 S j).sent = (S j).sent := (comeS_sent _ _ _ _).trans (comeS_sent _ _ _ _)
theorem Good.com2 {f : Int} {S : Nat → Sd} (h : Good f S) : Good f (com2 S) := (h.come (i := 0) (by decide) 0).come (i := 1) (by decide) 0
def tick2 (S : Nat → Sd) : Nat → Sd := tickS (tickS S 0) 1
theorem tick2_sent (S : Nat → Sd) (j : Nat) : (tick2 S j).sent = (S j).sent := (tickS_sent _ _ _).trans (tickS_sent _ _ _)
theorem Good.tick2 {f : Int} {S : Nat → Sd} (h : Good f S) : Good f (tick2 S) := (h.tick (i := 0) (by decide)).tick (i := 1) (by decide)
def emp2 (S : Nat → Sd) : Prop := (S 0).row = [] ∧ (S 1).row = []
theorem emp2_of {S : Nat → Sd} (h : tot S = 0) : emp2 S := by unfold tot at h; exact ⟨List.eq_nil_of_length_eq_zero (by omega), List.eq_nil_of_length_eq_zero (by omega)⟩
/-- All that was sent is handed on, and nothing waits. -/
def fin2 (S : Nat → Sd) : Prop := (S 0).l.q = [] ∧ (S 1).l.q = [] ∧ (S 1).got = (S 0).sent ∧ (S 0).got = (S 1).sent
structure Rnd (n : Nat) (S : Nat → Sd) : Prop where
  good : Good 1 S
  sum : ssm S ≤ 91
  first : n = 0 → tot S + 7 * ssm S ≤ 640
  later : 1 ≤ n → emp2 S
  last : 2 ≤ n → fin2 S
structure Inn (n k : Nat) (S : Nat → Sd) : Prop where
  good : Good 1 S
  sum : ssm S ≤ 91
  mea : meaS (S 0) (S 1) + k ≤ 500
  liv : 1 ≤ n → LInv 1 (S 0) (S 1)
theorem Rnd.ticks {n : Nat} {S : Nat → Sd} (h : Rnd n S) : Inn n 0 (tick2 S) := by
  have hg := h.good.tick2
  have hs := h.sum
  have es : ssm (tick2 S) = ssm S := ssm_of (tick2_sent S)
  have hm := mea_le (tick2 S 0) (tick2 S 1)
  have hu0 := uns_le hg.inv
  have hu1 := uns_le hg.inv.swap
  have hcap := hg.inv.cap
  have ess := es
  unfold ssm at ess
  by_cases hn : n = 0
  · have hf := h.first hn
    have t0 := tickS_tot S (i := 0) (by decide)
    have t1 := tickS_tot (tickS S 0) (i := 1) (by decide)
    have o0 := (h.good.inv.at (i := 0) (by decide)).right.2.2.2.2
    have o1 := ((h.good.tick (i := 0) (by decide)).inv.at (i := 1) (by decide)).right.2.2.2.2
    have ht : tot (tick2 S) ≤ tot S + 16 := by unfold tick2; omega
    unfold tot at ht
    unfold tot ssm at hf
    unfold ssm at hs
    refine ⟨hg, by rw [es]; exact h.sum, by omega, fun e => by omega⟩
  · have he := h.later (by omega)
    have hu : uns (S 0) + uns (S 1) ≤ 300 := by
      have a := uns_le h.good.inv
      have b := uns_le h.good.inv.swap
      unfold ssm at hs
      omega
    have hl := LInv.ticks h.good.inv he.1 he.2 hu (tick2 S 0) (tick2 S 1) rfl rfl
    unfold ssm at hs
    exact ⟨hg, by rw [es]; exact h.sum, by have := hl.2; omega, fun _ => hl.1⟩
theorem Inn.come {n k : Nat} {S : Nat → Sd} (h : Inn n k S) (hk : tot S ≠ 0) : Inn n (k + 1) (com2 S) := by
  obtain ⟨e0, e1⟩ := com2_eq S
  have hm := h.mea
  have hf := Inv.falls h.good.inv hk
  refine ⟨h.good.com2, by rw [ssm_of (com2_sent S)]; exact h.sum, by rw [e0, e1]; omega, fun hn => by rw [e0, e1]; exact (h.liv hn).step2⟩
theorem Inn.next {n k : Nat} {S : Nat → Sd} (h : Inn n k S) (hk : k = 500 ∨ tot S = 0) : Rnd (n + 1) S := by
  have he : emp2 S := by
    rcases hk with hk | hk
    · have hm := h.mea
      exact mea_zero (by omega)
    · exact emp2_of hk
  refine ⟨h.good, h.sum, fun e => by omega, fun _ => he, fun hn => ?_⟩
  have a := (h.liv (by omega)).ends he.1 he.2
  have b := (h.liv (by omega)).swap.ends he.2 he.1
  exact ⟨a.1, b.1, a.2.1, b.2.1⟩
section
variable {w0 w : World} {bx gN : Nat} {ga ma : Nat → Nat} {va sv gv : Nat → Value} {ow : Nat → Nat} {S : Nat → Sd}
theorem come_a {f : Int} (h : PS w0 w bx gN ga ma va sv gv ow S) (hg : Good f S) (hsl : ∀ i, i < 2 → (S i).sent.length ≤ 1000) : Calls Try.prog 56 #[ptr bx, .int .i64 0, .int .i64 0] w fun e w' => e = .returned (.bool true) ∧ ∃ va' gv' ow', PS w0 w' bx gN ga ma va' sv gv' ow' (comeS S 0 0) := come_is h hg hsl (i := 0) (by decide) (iv := 0) rfl 0
theorem come_b {f : Int} (h : PS w0 w bx gN ga ma va sv gv ow S) (hg : Good f S) (hsl : ∀ i, i < 2 → (S i).sent.length ≤ 1000) : Calls Try.prog 56 #[ptr bx, .int .i64 1, .int .i64 0] w fun e w' => e = .returned (.bool true) ∧ ∃ va' gv' ow', PS w0 w' bx gN ga ma va' sv gv' ow' (comeS S 1 0) := come_is h hg hsl (i := 1) (by decide) (iv := 1) rfl 0
end
section
variable {w0 w : World} {bx gN : Nat} {ga ma : Nat → Nat} {va sv gv : Nat → Value} {ow : Nat → Nat} {S : Nat → Sd}
theorem goes_six {v3 v4 v5 v6 : Value} (h : PS w0 w bx gN ga ma va sv gv ow S) (e3 : sv 0 = v3) (e4 : sv 1 = v4) (e5 : gv 0 = v5) (e6 : gv 1 = v6) :
    w.cell? ⟨bx, 0, none⟩ = some (ptr (ga 0)) ∧ w.cell? ⟨bx, 1, none⟩ = some (ptr (ga 1)) ∧ w.cell? ⟨bx, 3, none⟩ = some v3 ∧ w.cell? ⟨bx, 4, none⟩ = some v4 ∧ w.cell? ⟨bx, 5, none⟩ = some v5 ∧ w.cell? ⟨bx, 6, none⟩ = some v6 := by
  subst e3 e4 e5 e6
  exact ⟨(blk_cell h.box 0).trans rfl, (blk_cell h.box 1).trans rfl, (blk_cell h.box 3).trans rfl, (blk_cell h.box 4).trans rfl, (blk_cell h.box 5).trans rfl, (blk_cell h.box 6).trans rfl⟩
theorem goes_rows (h : PS w0 w bx gN ga ma va sv gv ow S) (hf : fin2 S) : ∃ x y A3 c3 A4 c4 A5 c5 A6 c6, sv 0 = .slice A3 y c3 ∧ sv 1 = .slice A4 x c4 ∧ gv 0 = .slice A5 x c5 ∧ gv 1 = .slice A6 y c6 := by
  obtain ⟨A3, c3, e3⟩ := Kd.R_slice (h.sent 0 (by decide))
  obtain ⟨A4, c4, e4⟩ := Kd.R_slice (h.sent 1 (by decide))
  obtain ⟨A5, c5, e5⟩ := Kd.R_slice (h.got 0 (by decide))
  obtain ⟨A6, c6, e6⟩ := Kd.R_slice (h.got 1 (by decide))
  rw [hf.2.2.2] at e5
  rw [hf.2.2.1] at e6
  exact ⟨_, _, A3, c3, A4, c4, A5, c5, A6, c6, e3, e4, e5, e6⟩
end
set_option maxHeartbeats 16000000 in
theorem linkGoes_is (A : Option Addr) (c : Nat) (l : List S109) (W : World) (hC : Kd.C k109 W A l.length l) (hc : l.length ≤ c) (g : Good109 l) (hm : l.length ≤ maxLen) :
    Calls Try.prog 13 #[.slice A l.length c] W fun e w' => e = .returned (.bool true) ∧ Below W.heap.size W w' := by
  have hu109 := Try.underlying109
  have HC := Aside0.mk hC
  have HG := Aside0.mk g
  clear hC g hm
  go_enter Try.func13, Try.ntmps13
  go_wp2_with (first
    | ((with_reducible refine gate_dst (N := 7) rfl ?_); refine goesL_ (some 7) rfl rfl Try.func54 (by kernel_rfl) rfl #[.int .i64 1] rfl (by first | (simp only [List.map_toArray, List.map_cons, List.map_nil]; rfl) | rfl) ?_; refine (fresh_is W 1 (by decide) (by decide)).mono ?_; rintro e w5 ⟨bx, gN, ga, ma, va, sv, gv, ow, rfl, hp⟩; have HP := Aside0.mk hp; clear hp; refine ⟨_, rfl, ?_⟩)
    | ((with_reducible refine gate_dst (N := 8) rfl ?_); refine goesL_ (some 8) rfl rfl Try.func37 (by kernel_rfl) rfl #[] rfl (by simp) ?_; refine (awakeL_is _).mono ?_; rintro e w6 ⟨rfl, hb⟩; have HP6 := Aside0.mk (HP.out.bel hb); clear hb; have pt0 := pair_ptr HP6.out (i := 0) (by decide); have pt1 := pair_ptr HP6.out (i := 1) (by decide); refine ⟨_, rfl, ?_⟩))
  clear pt0 pt1
  have HS := Aside0.mk (show DN W bx gN ga ma l 0 w6 from ⟨va, sv, gv, ow, HP6.out⟩)
  clear HP HP6
  go_loopg [4] (min l.length 80) (fun kq v4 w' => ∃ n : Nat, v4 = .int .i64 n ∧ Aside0 (n + kq = min l.length 80) ∧ Aside0 (DN W bx gN ga ma l n w'))
  case atStart => exact ⟨0, rfl, ⟨by omega⟩, HS⟩
  case round =>
    clear HS
    obtain ⟨n, rfl, HN, HD⟩ := hrel
    cases gk with
    | zero =>
      by_cases h1 : n = l.length
      · have d1 : decide ((n : Int) < (l.length : Int)) = false := decide_eq_false (by omega)
        have g1 : l.length ≤ n := by omega
        have g2 : n ≤ l.length := by omega
        clear h1
        obtain ⟨va, sv, gv, ow, hp⟩ := HD.out
        have hnl : n ≤ l.length := by have := HN.out; omega
        have hn80 : n ≤ 80 := by have := HN.out; omega
        have hct := doN_count (f := 1) (by decide) (by decide) l n hnl
        have HR0 := Aside0.mk (show Rnd 0 (doN (freshL 1) l n) from ⟨doN_good (by decide) (by decide) l n hnl, by omega, fun _ => by omega, fun e => absurd e (by decide), fun e => absurd e (by decide)⟩)
        have HP0 := Aside0.mk hp
        clear hp hct hnl hn80 HD
        go_wp2
        go_loopg [5] 20 (fun kq v5 w' => ∃ (r : Nat) (S : Nat → Sd) (va sv gv : Nat → Value) (ow : Nat → Nat), v5 = .int .i64 r ∧ Aside0 (r + kq = 20) ∧ Aside0 (Rnd r S) ∧ Aside0 (PS W w' bx gN ga ma va sv gv ow S))
        case atStart => exact ⟨0, _, _, _, _, _, rfl, ⟨rfl⟩, HR0, HP0⟩
        case round =>
          clear HR0 HP0
          obtain ⟨r, S, va, sv, gv, ow, rfl, HQ, HR, HP⟩ := hrel
          cases gk with
          | zero =>
            have hr : r = 20 := by have := HQ.out; omega
            subst hr
            have d5 : decide (((20 : Nat) : Int) < 20) = false := by decide
            have hfin := HR.out.last (by decide)
            obtain ⟨x, y, A3, c3, A4, c4, A5, c5, A6, c6, e3, e4, e5, e6⟩ := goes_rows HP.out hfin
            have E3 := Aside0.mk e3
            have E4 := Aside0.mk e4
            have E5 := Aside0.mk e5
            have E6 := Aside0.mk e6
            have HL0 := Aside0.mk (show (S 0).l.q.length = 0 by rw [hfin.1]; rfl)
            have HL1 := Aside0.mk (show (S 1).l.q.length = 0 by rw [hfin.2.1]; rfl)
            have HS0 := Aside0.mk (show ∀ i, i < 2 → (S i).sent.length ≤ 1000 from fun i hi => by have h := HR.out.sum; unfold ssm at h; rcases two_cases hi with rfl | rfl <;> omega)
            clear e3 e4 e5 e6 hfin
            go_wp2
            have HPd := Aside0.mk HP.out.drew
            refine start_ (n := 49) (S := fun w' => w'.cell? ⟨bx, 0, none⟩ = some (ptr (ga 0)) ∧ w'.cell? ⟨bx, 1, none⟩ = some (ptr (ga 1)) ∧ w'.cell? ⟨bx, 3, none⟩ = some (.slice A3 y c3) ∧ w'.cell? ⟨bx, 4, none⟩ = some (.slice A4 x c4) ∧ w'.cell? ⟨bx, 5, none⟩ = some (.slice A5 x c5) ∧ w'.cell? ⟨bx, 6, none⟩ = some (.slice A6 y c6)) (ds := []) #[false, false, false, false, false, false, false, false, false, false, false, false, false, false, false, false, false, false, false, false, false, false, false, false, false, false, false, false, false, false, false, false, false, false, false, false, false, false, false, false, false, false, false, false, false, false, false, false, false] (by kernel_rfl) rfl rfl (goes_six HPd.out E3.out E4.out E5.out E6.out) (fun hHeld => ?_)
            refine pure_ (i := 0) (N := some 83) (v := ?_) (a' := ?_) #[true, false, false, false, false, false, false, false, false, false, false, false, false, false, false, false, false, false, false, false, false, false, false, false, false, false, false, false, false, false, false, false, false, false, false, false, false, false, false, false, false, false, false, false, false, false, false, false, false] rfl rfl (by kernel_rfl) (fun _ _ _ h => h) (Or.inl ⟨by rfl, ?_⟩) ?_ ?_
            rotate_left
            · intro w'; go_simp; with_reducible rfl
            rotate_left
            · simp only [Act.put, List.setIfInBounds_toArray, List.set_cons_zero, List.set_cons_succ, i64_w, i32_w]; rfl
            refine one_ (i := 1) (N := some 84) #[true, true, false, false, false, false, false, false, false, false, false, false, false, false, false, false, false, false, false, false, false, false, false, false, false, false, false, false, false, false, false, false, false, false, false, false, false, false, false, false, false, false, false, false, false, false, false, false, false] rfl rfl (by kernel_rfl) (by decide) (fun K hK => ?_)
            refine goes_ Try.func57 (by kernel_rfl) rfl #[ptr bx] (by rfl) rfl rfl (by first | rfl | (simp only [List.map_toArray, List.map_cons, List.map_nil]; rfl)) ?_
            refine (right_is HPd.out HR.out.good HS0.out).mono ?_
            rintro e W2 ⟨rfl, hp⟩; have HP2 := Aside0.mk hp; clear hp
            refine ⟨_, rfl, hK.out _ _ (goes_six HP2.out E3.out E4.out E5.out E6.out) (fun hHeld => ?_)⟩
            clear hK K
            refine norm_ (a' := ?_) ?_ ?_
            rotate_left
            · show Act.put _ (some 84) _ = _
              simp only [Act.put, List.setIfInBounds_toArray, List.set_cons_zero, List.set_cons_succ, i64_w, i32_w]
              rfl
            refine pure_ (i := 2) (N := some 85) (v := ?_) (a' := ?_) #[true, true, true, false, false, false, false, false, false, false, false, false, false, false, false, false, false, false, false, false, false, false, false, false, false, false, false, false, false, false, false, false, false, false, false, false, false, false, false, false, false, false, false, false, false, false, false, false, false] rfl rfl (by kernel_rfl) (fun _ _ _ h => h) (Or.inl ⟨by rfl, ?_⟩) ?_ ?_
            rotate_left
            · intro w'; go_simp; with_reducible rfl
            rotate_left
            · simp only [Act.put, List.setIfInBounds_toArray, List.set_cons_zero, List.set_cons_succ, i64_w, i32_w]; rfl
            refine pure_ (i := 3) (N := some 86) (v := ?_) (a' := ?_) #[true, true, true, true, false, false, false, false, false, false, false, false, false, false, false, false, false, false, false, false, false, false, false, false, false, false, false, false, false, false, false, false, false, false, false, false, false, false, false, false, false, false, false, false, false, false, false, false, false] rfl rfl (by kernel_rfl) (fun _ _ _ h => h) (Or.inl ⟨by rfl, ?_⟩) ?_ ?_
            rotate_left
            · intro w'; go_simp; with_reducible rfl
            rotate_left
            · simp only [Act.put, List.setIfInBounds_toArray, List.set_cons_zero, List.set_cons_succ, i64_w, i32_w]; rfl
            refine pure_ (i := 4) (N := some 87) (v := ?_) (a' := ?_) #[true, true, true, true, true, false, false, false, false, false, false, false, false, false, false, false, false, false, false, false, false, false, false, false, false, false, false, false, false, false, false, false, false, false, false, false, false, false, false, false, false, false, false, false, false, false, false, false, false] rfl rfl (by kernel_rfl) (fun _ _ _ h => h) (Or.inl ⟨by rfl, ?_⟩) ?_ ?_
            rotate_left
            · intro w'; go_simp; with_reducible rfl
            rotate_left
            · simp only [Act.put, List.setIfInBounds_toArray, List.set_cons_zero, List.set_cons_succ, i64_w, i32_w]; rfl
            refine pure_ (i := 5) (N := some 88) (v := ?_) (a' := ?_) #[true, true, true, true, true, true, false, false, false, false, false, false, false, false, false, false, false, false, false, false, false, false, false, false, false, false, false, false, false, false, false, false, false, false, false, false, false, false, false, false, false, false, false, false, false, false, false, false, false] rfl rfl (by kernel_rfl) (fun _ _ _ h => h) (Or.inl ⟨by rfl, ?_⟩) ?_ ?_
            rotate_left
            · intro w'; go_simp; with_reducible rfl
            rotate_left
            · simp only [Act.put, List.setIfInBounds_toArray, List.set_cons_zero, List.set_cons_succ, i64_w, i32_w]; rfl
            refine pure_ (i := 6) (N := some 89) (v := ?_) (a' := ?_) #[true, true, true, true, true, true, true, false, false, false, false, false, false, false, false, false, false, false, false, false, false, false, false, false, false, false, false, false, false, false, false, false, false, false, false, false, false, false, false, false, false, false, false, false, false, false, false, false, false] rfl rfl (by kernel_rfl) (fun _ _ _ h => h) (Or.inl ⟨by rfl, ?_⟩) ?_ ?_
            rotate_left
            · intro w'; go_simp; with_reducible rfl
            rotate_left
            · simp only [Act.put, List.setIfInBounds_toArray, List.set_cons_zero, List.set_cons_succ, i64_w, i32_w]; rfl
            refine take_ (i := 7) (N := some 90) (v := ?_) (a' := ?_) #[true, true, true, true, true, true, true, true, false, false, false, false, false, false, false, false, false, false, false, false, false, false, false, false, false, false, false, false, false, false, false, false, false, false, false, false, false, false, false, false, false, false, false, false, false, false, false, false, false] rfl rfl (by kernel_rfl) (fun _ _ _ h => h) (Or.inl ⟨by rfl, ?_⟩) hHeld ?_ ?_
            rotate_left
            · rintro w' ⟨s0, s1, s2, s3, s4, s5⟩; go_simp; with_reducible rfl
            rotate_left
            · simp only [Act.put, List.setIfInBounds_toArray, List.set_cons_zero, List.set_cons_succ, i64_w, i32_w]; rfl
            refine pure_ (i := 8) (N := some 91) (v := ?_) (a' := ?_) #[true, true, true, true, true, true, true, true, true, false, false, false, false, false, false, false, false, false, false, false, false, false, false, false, false, false, false, false, false, false, false, false, false, false, false, false, false, false, false, false, false, false, false, false, false, false, false, false, false] rfl rfl (by kernel_rfl) (fun _ _ _ h => h) (Or.inl ⟨by rfl, ?_⟩) ?_ ?_
            rotate_left
            · intro w'; go_simp; with_reducible rfl
            rotate_left
            · simp only [Act.put, List.setIfInBounds_toArray, List.set_cons_zero, List.set_cons_succ, i64_w, i32_w]; rfl
            refine pure_ (i := 9) (N := some 92) (v := ?_) (a' := ?_) #[true, true, true, true, true, true, true, true, true, true, false, false, false, false, false, false, false, false, false, false, false, false, false, false, false, false, false, false, false, false, false, false, false, false, false, false, false, false, false, false, false, false, false, false, false, false, false, false, false] rfl rfl (by kernel_rfl) (fun _ _ _ h => h) (Or.inl ⟨by rfl, ?_⟩) ?_ ?_
            rotate_left
            · intro w'; go_simp; with_reducible rfl
            rotate_left
            · simp only [Act.put, List.setIfInBounds_toArray, List.set_cons_zero, List.set_cons_succ, i64_w, i32_w]; rfl
            refine pure_ (i := 10) (N := some 93) (v := ?_) (a' := ?_) #[true, true, true, true, true, true, true, true, true, true, true, false, false, false, false, false, false, false, false, false, false, false, false, false, false, false, false, false, false, false, false, false, false, false, false, false, false, false, false, false, false, false, false, false, false, false, false, false, false] rfl rfl (by kernel_rfl) (fun _ _ _ h => h) (Or.inl ⟨by rfl, ?_⟩) ?_ ?_
            rotate_left
            · intro w'; go_simp; with_reducible rfl
            rotate_left
            · simp only [Act.put, List.setIfInBounds_toArray, List.set_cons_zero, List.set_cons_succ, i64_w, i32_w]; rfl
            refine pure_ (i := 11) (N := some 94) (v := ?_) (a' := ?_) #[true, true, true, true, true, true, true, true, true, true, true, true, false, false, false, false, false, false, false, false, false, false, false, false, false, false, false, false, false, false, false, false, false, false, false, false, false, false, false, false, false, false, false, false, false, false, false, false, false] rfl rfl (by kernel_rfl) (fun _ _ _ h => h) (Or.inl ⟨by rfl, ?_⟩) ?_ ?_
            rotate_left
            · intro w'; go_simp; with_reducible rfl
            rotate_left
            · simp only [Act.put, List.setIfInBounds_toArray, List.set_cons_zero, List.set_cons_succ, i64_w, i32_w]; rfl
            refine pure_ (i := 12) (N := some 95) (v := ?_) (a' := ?_) #[true, true, true, true, true, true, true, true, true, true, true, true, true, false, false, false, false, false, false, false, false, false, false, false, false, false, false, false, false, false, false, false, false, false, false, false, false, false, false, false, false, false, false, false, false, false, false, false, false] rfl rfl (by kernel_rfl) (fun _ _ _ h => h) (Or.inl ⟨by rfl, ?_⟩) ?_ ?_
            rotate_left
            · intro w'; go_simp; with_reducible rfl
            rotate_left
            · simp only [Act.put, List.setIfInBounds_toArray, List.set_cons_zero, List.set_cons_succ, i64_w, i32_w]; rfl
            refine take_ (i := 13) (N := some 96) (v := ?_) (a' := ?_) #[true, true, true, true, true, true, true, true, true, true, true, true, true, true, false, false, false, false, false, false, false, false, false, false, false, false, false, false, false, false, false, false, false, false, false, false, false, false, false, false, false, false, false, false, false, false, false, false, false] rfl rfl (by kernel_rfl) (fun _ _ _ h => h) (Or.inl ⟨by rfl, ?_⟩) hHeld ?_ ?_
            rotate_left
            · rintro w' ⟨s0, s1, s2, s3, s4, s5⟩; go_simp; with_reducible rfl
            rotate_left
            · simp only [Act.put, List.setIfInBounds_toArray, List.set_cons_zero, List.set_cons_succ, i64_w, i32_w]; rfl
            refine pure_ (i := 14) (N := some 97) (v := ?_) (a' := ?_) #[true, true, true, true, true, true, true, true, true, true, true, true, true, true, true, false, false, false, false, false, false, false, false, false, false, false, false, false, false, false, false, false, false, false, false, false, false, false, false, false, false, false, false, false, false, false, false, false, false] rfl rfl (by kernel_rfl) (fun _ _ _ h => h) (Or.inl ⟨by rfl, ?_⟩) ?_ ?_
            rotate_left
            · intro w'; go_simp; with_reducible rfl
            rotate_left
            · simp only [Act.put, List.setIfInBounds_toArray, List.set_cons_zero, List.set_cons_succ, i64_w, i32_w]; rfl
            refine pure_ (i := 15) (N := some 98) (v := ?_) (a' := ?_) #[true, true, true, true, true, true, true, true, true, true, true, true, true, true, true, true, false, false, false, false, false, false, false, false, false, false, false, false, false, false, false, false, false, false, false, false, false, false, false, false, false, false, false, false, false, false, false, false, false] rfl rfl (by kernel_rfl) (fun _ _ _ h => h) (Or.inl ⟨by rfl, ?_⟩) ?_ ?_
            rotate_left
            · intro w'; go_simp; with_reducible rfl
            rotate_left
            · simp only [Act.put, List.setIfInBounds_toArray, List.set_cons_zero, List.set_cons_succ, i64_w, i32_w]; rfl
            refine pure_ (i := 16) (N := some 99) (v := ?_) (a' := ?_) #[true, true, true, true, true, true, true, true, true, true, true, true, true, true, true, true, true, false, false, false, false, false, false, false, false, false, false, false, false, false, false, false, false, false, false, false, false, false, false, false, false, false, false, false, false, false, false, false, false] rfl rfl (by kernel_rfl) (fun _ _ _ h => h) (Or.inl ⟨by rfl, ?_⟩) ?_ ?_
            rotate_left
            · intro w'; go_simp; with_reducible rfl
            rotate_left
            · simp only [Act.put, List.setIfInBounds_toArray, List.set_cons_zero, List.set_cons_succ, i64_w, i32_w]; rfl
            refine pure_ (i := 17) (N := some 100) (v := ?_) (a' := ?_) #[true, true, true, true, true, true, true, true, true, true, true, true, true, true, true, true, true, true, false, false, false, false, false, false, false, false, false, false, false, false, false, false, false, false, false, false, false, false, false, false, false, false, false, false, false, false, false, false, false] rfl rfl (by kernel_rfl) (fun _ _ _ h => h) (Or.inl ⟨by rfl, ?_⟩) ?_ ?_
            rotate_left
            · intro w'; go_simp; with_reducible rfl
            rotate_left
            · simp only [Act.put, List.setIfInBounds_toArray, List.set_cons_zero, List.set_cons_succ, i64_w, i32_w]; rfl
            refine pure_ (i := 18) (N := some 101) (v := ?_) (a' := ?_) #[true, true, true, true, true, true, true, true, true, true, true, true, true, true, true, true, true, true, true, false, false, false, false, false, false, false, false, false, false, false, false, false, false, false, false, false, false, false, false, false, false, false, false, false, false, false, false, false, false] rfl rfl (by kernel_rfl) (fun _ _ _ h => h) (Or.inl ⟨by rfl, ?_⟩) ?_ ?_
            rotate_left
            · intro w'; go_simp; with_reducible rfl
            rotate_left
            · simp only [Act.put, List.setIfInBounds_toArray, List.set_cons_zero, List.set_cons_succ, i64_w, i32_w]; rfl
            refine pure_ (i := 19) (N := some 102) (v := ?_) (a' := ?_) #[true, true, true, true, true, true, true, true, true, true, true, true, true, true, true, true, true, true, true, true, false, false, false, false, false, false, false, false, false, false, false, false, false, false, false, false, false, false, false, false, false, false, false, false, false, false, false, false, false] rfl rfl (by kernel_rfl) (fun _ _ _ h => h) (Or.inl ⟨by rfl, ?_⟩) ?_ ?_
            rotate_left
            · intro w'; go_simp; with_reducible rfl
            rotate_left
            · simp only [Act.put, List.setIfInBounds_toArray, List.set_cons_zero, List.set_cons_succ, i64_w, i32_w]; rfl
            refine pure_ (i := 20) (N := some 103) (v := ?_) (a' := ?_) #[true, true, true, true, true, true, true, true, true, true, true, true, true, true, true, true, true, true, true, true, true, false, false, false, false, false, false, false, false, false, false, false, false, false, false, false, false, false, false, false, false, false, false, false, false, false, false, false, false] rfl rfl (by kernel_rfl) (fun _ _ _ h => h) (Or.inl ⟨by rfl, ?_⟩) ?_ ?_
            rotate_left
            · intro w'; go_simp; with_reducible rfl
            rotate_left
            · simp only [Act.put, List.setIfInBounds_toArray, List.set_cons_zero, List.set_cons_succ, i64_w, i32_w]; rfl
            refine pure_ (i := 21) (N := some 104) (v := ?_) (a' := ?_) #[true, true, true, true, true, true, true, true, true, true, true, true, true, true, true, true, true, true, true, true, true, true, false, false, false, false, false, false, false, false, false, false, false, false, false, false, false, false, false, false, false, false, false, false, false, false, false, false, false] rfl rfl (by kernel_rfl) (fun _ _ _ h => h) (Or.inl ⟨by rfl, ?_⟩) ?_ ?_
            rotate_left
            · intro w'; go_simp; with_reducible rfl
            rotate_left
            · simp only [Act.put, List.setIfInBounds_toArray, List.set_cons_zero, List.set_cons_succ, i64_w, i32_w]; rfl
            refine take_ (i := 22) (N := some 105) (v := ?_) (a' := ?_) #[true, true, true, true, true, true, true, true, true, true, true, true, true, true, true, true, true, true, true, true, true, true, true, false, false, false, false, false, false, false, false, false, false, false, false, false, false, false, false, false, false, false, false, false, false, false, false, false, false] rfl rfl (by kernel_rfl) (fun _ _ _ h => h) (Or.inl ⟨by rfl, ?_⟩) hHeld ?_ ?_
            rotate_left
            · rintro w' ⟨s0, s1, s2, s3, s4, s5⟩; go_simp; with_reducible rfl
            rotate_left
            · simp only [Act.put, List.setIfInBounds_toArray, List.set_cons_zero, List.set_cons_succ, i64_w, i32_w]; rfl
            refine pure_ (i := 23) (N := some 106) (v := ?_) (a' := ?_) #[true, true, true, true, true, true, true, true, true, true, true, true, true, true, true, true, true, true, true, true, true, true, true, true, false, false, false, false, false, false, false, false, false, false, false, false, false, false, false, false, false, false, false, false, false, false, false, false, false] rfl rfl (by kernel_rfl) (fun _ _ _ h => h) (Or.inl ⟨by rfl, ?_⟩) ?_ ?_
            rotate_left
            · intro w'; go_simp; with_reducible rfl
            rotate_left
            · simp only [Act.put, List.setIfInBounds_toArray, List.set_cons_zero, List.set_cons_succ, i64_w, i32_w]; rfl
            refine pure_ (i := 24) (N := some 107) (v := ?_) (a' := ?_) #[true, true, true, true, true, true, true, true, true, true, true, true, true, true, true, true, true, true, true, true, true, true, true, true, true, false, false, false, false, false, false, false, false, false, false, false, false, false, false, false, false, false, false, false, false, false, false, false, false] rfl rfl (by kernel_rfl) (fun _ _ _ h => h) (Or.inl ⟨by rfl, ?_⟩) ?_ ?_
            rotate_left
            · intro w'; go_simp; with_reducible rfl
            rotate_left
            · simp only [Act.put, List.setIfInBounds_toArray, List.set_cons_zero, List.set_cons_succ, i64_w, i32_w]; rfl
            refine pure_ (i := 25) (N := some 108) (v := ?_) (a' := ?_) #[true, true, true, true, true, true, true, true, true, true, true, true, true, true, true, true, true, true, true, true, true, true, true, true, true, true, false, false, false, false, false, false, false, false, false, false, false, false, false, false, false, false, false, false, false, false, false, false, false] rfl rfl (by kernel_rfl) (fun _ _ _ h => h) (Or.inl ⟨by rfl, ?_⟩) ?_ ?_
            rotate_left
            · intro w'; go_simp; with_reducible rfl
            rotate_left
            · simp only [Act.put, List.setIfInBounds_toArray, List.set_cons_zero, List.set_cons_succ, i64_w, i32_w]; rfl
            refine pure_ (i := 26) (N := some 109) (v := ?_) (a' := ?_) #[true, true, true, true, true, true, true, true, true, true, true, true, true, true, true, true, true, true, true, true, true, true, true, true, true, true, true, false, false, false, false, false, false, false, false, false, false, false, false, false, false, false, false, false, false, false, false, false, false] rfl rfl (by kernel_rfl) (fun _ _ _ h => h) (Or.inl ⟨by rfl, ?_⟩) ?_ ?_
            rotate_left
            · intro w'; go_simp; with_reducible rfl
            rotate_left
            · simp only [Act.put, List.setIfInBounds_toArray, List.set_cons_zero, List.set_cons_succ, i64_w, i32_w]; rfl
            refine pure_ (i := 27) (N := some 110) (v := ?_) (a' := ?_) #[true, true, true, true, true, true, true, true, true, true, true, true, true, true, true, true, true, true, true, true, true, true, true, true, true, true, true, true, false, false, false, false, false, false, false, false, false, false, false, false, false, false, false, false, false, false, false, false, false] rfl rfl (by kernel_rfl) (fun _ _ _ h => h) (Or.inl ⟨by rfl, ?_⟩) ?_ ?_
            rotate_left
            · intro w'; go_simp; with_reducible rfl
            rotate_left
            · simp only [Act.put, List.setIfInBounds_toArray, List.set_cons_zero, List.set_cons_succ, i64_w, i32_w]; rfl
            refine take_ (i := 28) (N := some 111) (v := ?_) (a' := ?_) #[true, true, true, true, true, true, true, true, true, true, true, true, true, true, true, true, true, true, true, true, true, true, true, true, true, true, true, true, true, false, false, false, false, false, false, false, false, false, false, false, false, false, false, false, false, false, false, false, false] rfl rfl (by kernel_rfl) (fun _ _ _ h => h) (Or.inl ⟨by rfl, ?_⟩) hHeld ?_ ?_
            rotate_left
            · rintro w' ⟨s0, s1, s2, s3, s4, s5⟩; go_simp; with_reducible rfl
            rotate_left
            · simp only [Act.put, List.setIfInBounds_toArray, List.set_cons_zero, List.set_cons_succ, i64_w, i32_w]; rfl
            refine pure_ (i := 29) (N := some 112) (v := ?_) (a' := ?_) #[true, true, true, true, true, true, true, true, true, true, true, true, true, true, true, true, true, true, true, true, true, true, true, true, true, true, true, true, true, true, false, false, false, false, false, false, false, false, false, false, false, false, false, false, false, false, false, false, false] rfl rfl (by kernel_rfl) (fun _ _ _ h => h) (Or.inl ⟨by rfl, ?_⟩) ?_ ?_
            rotate_left
            · intro w'; go_simp; with_reducible rfl
            rotate_left
            · simp only [Act.put, List.setIfInBounds_toArray, List.set_cons_zero, List.set_cons_succ, i64_w, i32_w]; rfl
            refine pure_ (i := 30) (N := some 113) (v := ?_) (a' := ?_) #[true, true, true, true, true, true, true, true, true, true, true, true, true, true, true, true, true, true, true, true, true, true, true, true, true, true, true, true, true, true, true, false, false, false, false, false, false, false, false, false, false, false, false, false, false, false, false, false, false] rfl rfl (by kernel_rfl) (fun _ _ _ h => h) (Or.inl ⟨by rfl, ?_⟩) ?_ ?_
            rotate_left
            · intro w'; go_simp; with_reducible rfl
            rotate_left
            · simp only [Act.put, List.setIfInBounds_toArray, List.set_cons_zero, List.set_cons_succ, i64_w, i32_w]; rfl
            refine pure_ (i := 31) (N := some 114) (v := ?_) (a' := ?_) #[true, true, true, true, true, true, true, true, true, true, true, true, true, true, true, true, true, true, true, true, true, true, true, true, true, true, true, true, true, true, true, true, false, false, false, false, false, false, false, false, false, false, false, false, false, false, false, false, false] rfl rfl (by kernel_rfl) (fun _ _ _ h => h) (Or.inl ⟨by rfl, ?_⟩) ?_ ?_
            rotate_left
            · intro w'; go_simp; with_reducible rfl
            rotate_left
            · simp only [Act.put, List.setIfInBounds_toArray, List.set_cons_zero, List.set_cons_succ, i64_w, i32_w]; rfl
            refine pure_ (i := 32) (N := some 115) (v := ?_) (a' := ?_) #[true, true, true, true, true, true, true, true, true, true, true, true, true, true, true, true, true, true, true, true, true, true, true, true, true, true, true, true, true, true, true, true, true, false, false, false, false, false, false, false, false, false, false, false, false, false, false, false, false] rfl rfl (by kernel_rfl) (fun _ _ _ h => h) (Or.inl ⟨by rfl, ?_⟩) ?_ ?_
            rotate_left
            · intro w'; go_simp; with_reducible rfl
            rotate_left
            · simp only [Act.put, List.setIfInBounds_toArray, List.set_cons_zero, List.set_cons_succ, i64_w, i32_w]; rfl
            refine pure_ (i := 33) (N := some 116) (v := ?_) (a' := ?_) #[true, true, true, true, true, true, true, true, true, true, true, true, true, true, true, true, true, true, true, true, true, true, true, true, true, true, true, true, true, true, true, true, true, true, false, false, false, false, false, false, false, false, false, false, false, false, false, false, false] rfl rfl (by kernel_rfl) (fun _ _ _ h => h) (Or.inl ⟨by rfl, ?_⟩) ?_ ?_
            rotate_left
            · intro w'; go_simp; with_reducible rfl
            rotate_left
            · simp only [Act.put, List.setIfInBounds_toArray, List.set_cons_zero, List.set_cons_succ, i64_w, i32_w]; rfl
            refine pure_ (i := 34) (N := some 117) (v := ?_) (a' := ?_) #[true, true, true, true, true, true, true, true, true, true, true, true, true, true, true, true, true, true, true, true, true, true, true, true, true, true, true, true, true, true, true, true, true, true, true, false, false, false, false, false, false, false, false, false, false, false, false, false, false] rfl rfl (by kernel_rfl) (fun _ _ _ h => h) (Or.inl ⟨by rfl, ?_⟩) ?_ ?_
            rotate_left
            · intro w'; go_simp; with_reducible rfl
            rotate_left
            · simp only [Act.put, List.setIfInBounds_toArray, List.set_cons_zero, List.set_cons_succ, i64_w, i32_w]; rfl
            refine pure_ (i := 35) (N := some 118) (v := ?_) (a' := ?_) #[true, true, true, true, true, true, true, true, true, true, true, true, true, true, true, true, true, true, true, true, true, true, true, true, true, true, true, true, true, true, true, true, true, true, true, true, false, false, false, false, false, false, false, false, false, false, false, false, false] rfl rfl (by kernel_rfl) (fun _ _ _ h => h) (Or.inl ⟨by rfl, ?_⟩) ?_ ?_
            rotate_left
            · intro w'; go_simp; with_reducible rfl
            rotate_left
            · simp only [Act.put, List.setIfInBounds_toArray, List.set_cons_zero, List.set_cons_succ, i64_w, i32_w]; rfl
            refine pure_ (i := 36) (N := some 119) (v := ?_) (a' := ?_) #[true, true, true, true, true, true, true, true, true, true, true, true, true, true, true, true, true, true, true, true, true, true, true, true, true, true, true, true, true, true, true, true, true, true, true, true, true, false, false, false, false, false, false, false, false, false, false, false, false] rfl rfl (by kernel_rfl) (fun _ _ _ h => h) (Or.inl ⟨by rfl, ?_⟩) ?_ ?_
            rotate_left
            · intro w'; go_simp; with_reducible rfl
            rotate_left
            · simp only [Act.put, List.setIfInBounds_toArray, List.set_cons_zero, List.set_cons_succ, i64_w, i32_w]; rfl
            refine take_ (i := 37) (N := some 120) (v := ?_) (a' := ?_) #[true, true, true, true, true, true, true, true, true, true, true, true, true, true, true, true, true, true, true, true, true, true, true, true, true, true, true, true, true, true, true, true, true, true, true, true, true, true, false, false, false, false, false, false, false, false, false, false, false] rfl rfl (by kernel_rfl) (fun _ _ _ h => h) (Or.inl ⟨by rfl, ?_⟩) hHeld ?_ ?_
            rotate_left
            · rintro w' ⟨s0, s1, s2, s3, s4, s5⟩; go_simp; with_reducible rfl
            rotate_left
            · simp only [Act.put, List.setIfInBounds_toArray, List.set_cons_zero, List.set_cons_succ, i64_w, i32_w]; rfl
            refine pure_ (i := 39) (N := some 122) (v := ?_) (a' := ?_) #[true, true, true, true, true, true, true, true, true, true, true, true, true, true, true, true, true, true, true, true, true, true, true, true, true, true, true, true, true, true, true, true, true, true, true, true, true, true, false, true, false, false, false, false, false, false, false, false, false] rfl rfl (by kernel_rfl) (fun _ _ _ h => h) (Or.inl ⟨by rfl, ?_⟩) ?_ ?_
            rotate_left
            · intro w'; go_simp; with_reducible rfl
            rotate_left
            · simp only [Act.put, List.setIfInBounds_toArray, List.set_cons_zero, List.set_cons_succ, i64_w, i32_w]; rfl
            refine pure_ (i := 40) (N := some 123) (v := ?_) (a' := ?_) #[true, true, true, true, true, true, true, true, true, true, true, true, true, true, true, true, true, true, true, true, true, true, true, true, true, true, true, true, true, true, true, true, true, true, true, true, true, true, false, true, true, false, false, false, false, false, false, false, false] rfl rfl (by kernel_rfl) (fun _ _ _ h => h) (Or.inl ⟨by rfl, ?_⟩) ?_ ?_
            rotate_left
            · intro w'; go_simp; with_reducible rfl
            rotate_left
            · simp only [Act.put, List.setIfInBounds_toArray, List.set_cons_zero, List.set_cons_succ, i64_w, i32_w]; rfl
            refine pure_ (i := 41) (N := some 124) (v := ?_) (a' := ?_) #[true, true, true, true, true, true, true, true, true, true, true, true, true, true, true, true, true, true, true, true, true, true, true, true, true, true, true, true, true, true, true, true, true, true, true, true, true, true, false, true, true, true, false, false, false, false, false, false, false] rfl rfl (by kernel_rfl) (fun _ _ _ h => h) (Or.inl ⟨by rfl, ?_⟩) ?_ ?_
            rotate_left
            · intro w'; go_simp; with_reducible rfl
            rotate_left
            · simp only [Act.put, List.setIfInBounds_toArray, List.set_cons_zero, List.set_cons_succ, i64_w, i32_w]; rfl
            refine pure_ (i := 42) (N := some 125) (v := ?_) (a' := ?_) #[true, true, true, true, true, true, true, true, true, true, true, true, true, true, true, true, true, true, true, true, true, true, true, true, true, true, true, true, true, true, true, true, true, true, true, true, true, true, false, true, true, true, true, false, false, false, false, false, false] rfl rfl (by kernel_rfl) (fun _ _ _ h => h) (Or.inl ⟨by rfl, ?_⟩) ?_ ?_
            rotate_left
            · intro w'; go_simp; with_reducible rfl
            rotate_left
            · simp only [Act.put, List.setIfInBounds_toArray, List.set_cons_zero, List.set_cons_succ, i64_w, i32_w]; rfl
            refine take_ (i := 43) (N := some 126) (v := ?_) (a' := ?_) #[true, true, true, true, true, true, true, true, true, true, true, true, true, true, true, true, true, true, true, true, true, true, true, true, true, true, true, true, true, true, true, true, true, true, true, true, true, true, false, true, true, true, true, true, false, false, false, false, false] rfl rfl (by kernel_rfl) (fun _ _ _ h => h) (Or.inl ⟨by rfl, ?_⟩) hHeld ?_ ?_
            rotate_left
            · rintro w' ⟨s0, s1, s2, s3, s4, s5⟩; go_simp; with_reducible rfl
            rotate_left
            · simp only [Act.put, List.setIfInBounds_toArray, List.set_cons_zero, List.set_cons_succ, i64_w, i32_w]; rfl
            refine one_ (i := 38) (N := some 121) #[true, true, true, true, true, true, true, true, true, true, true, true, true, true, true, true, true, true, true, true, true, true, true, true, true, true, true, true, true, true, true, true, true, true, true, true, true, true, true, true, true, true, true, true, false, false, false, false, false] rfl rfl (by kernel_rfl) (by decide) (fun K hK => ?_)
            refine goes_ Try.func40 (by kernel_rfl) rfl #[ptr (ga 0)] (by rfl) rfl rfl (by first | rfl | (simp only [List.map_toArray, List.map_cons, List.map_nil]; rfl)) ?_
            refine (left_is (HP2.out.lk 0 (by decide))).mono ?_
            rintro e W3 ⟨rfl, hb⟩; rw [HL0.out]; have HP3 := Aside0.mk (HP2.out.bel hb); clear hb
            refine ⟨_, rfl, hK.out _ _ (goes_six HP3.out E3.out E4.out E5.out E6.out) (fun hHeld => ?_)⟩
            clear hK K
            refine norm_ (a' := ?_) ?_ ?_
            rotate_left
            · show Act.put _ (some 121) _ = _
              simp only [Act.put, List.setIfInBounds_toArray, List.set_cons_zero, List.set_cons_succ, i64_w, i32_w]
              rfl
            refine one_ (i := 44) (N := some 127) #[true, true, true, true, true, true, true, true, true, true, true, true, true, true, true, true, true, true, true, true, true, true, true, true, true, true, true, true, true, true, true, true, true, true, true, true, true, true, true, true, true, true, true, true, true, false, false, false, false] rfl rfl (by kernel_rfl) (by decide) (fun K hK => ?_)
            refine goes_ Try.func40 (by kernel_rfl) rfl #[ptr (ga 1)] (by rfl) rfl rfl (by first | rfl | (simp only [List.map_toArray, List.map_cons, List.map_nil]; rfl)) ?_
            refine (left_is (HP3.out.lk 1 (by decide))).mono ?_
            rintro e W4 ⟨rfl, hb⟩; rw [HL1.out]; have HP4 := Aside0.mk (HP3.out.bel hb); clear hb
            refine ⟨_, rfl, hK.out _ _ (goes_six HP4.out E3.out E4.out E5.out E6.out) (fun hHeld => ?_)⟩
            clear hK K
            refine norm_ (a' := ?_) ?_ ?_
            rotate_left
            · show Act.put _ (some 127) _ = _
              simp only [Act.put, List.setIfInBounds_toArray, List.set_cons_zero, List.set_cons_succ, i64_w, i32_w]
              rfl
            refine pure_ (i := 45) (N := some 128) (v := ?_) (a' := ?_) #[true, true, true, true, true, true, true, true, true, true, true, true, true, true, true, true, true, true, true, true, true, true, true, true, true, true, true, true, true, true, true, true, true, true, true, true, true, true, true, true, true, true, true, true, true, true, false, false, false] rfl rfl (by kernel_rfl) (fun _ _ _ h => h) (Or.inl ⟨by rfl, ?_⟩) ?_ ?_
            rotate_left
            · intro w'; go_simp; simp only [i64_w, wrap64_0]; with_reducible rfl
            rotate_left
            · simp only [Act.put, List.setIfInBounds_toArray, List.set_cons_zero, List.set_cons_succ, i64_w, i32_w]; rfl
            refine pure_ (i := 46) (N := some 129) (v := ?_) (a' := ?_) #[true, true, true, true, true, true, true, true, true, true, true, true, true, true, true, true, true, true, true, true, true, true, true, true, true, true, true, true, true, true, true, true, true, true, true, true, true, true, true, true, true, true, true, true, true, true, true, false, false] rfl rfl (by kernel_rfl) (fun _ _ _ h => h) (Or.inl ⟨by rfl, ?_⟩) ?_ ?_
            rotate_left
            · intro w'; go_simp; with_reducible rfl
            rotate_left
            · simp only [Act.put, List.setIfInBounds_toArray, List.set_cons_zero, List.set_cons_succ, i64_w, i32_w]; rfl
            refine pure_ (i := 47) (N := some 130) (v := ?_) (a' := ?_) #[true, true, true, true, true, true, true, true, true, true, true, true, true, true, true, true, true, true, true, true, true, true, true, true, true, true, true, true, true, true, true, true, true, true, true, true, true, true, true, true, true, true, true, true, true, true, true, true, false] rfl rfl (by kernel_rfl) (fun _ _ _ h => h) (Or.inl ⟨by rfl, ?_⟩) ?_ ?_
            rotate_left
            · intro w'; go_simp; with_reducible rfl
            rotate_left
            · simp only [Act.put, List.setIfInBounds_toArray, List.set_cons_zero, List.set_cons_succ, i64_w, i32_w]; rfl
            refine pure_ (i := 48) (N := some 2) (v := ?_) (a' := ?_) #[true, true, true, true, true, true, true, true, true, true, true, true, true, true, true, true, true, true, true, true, true, true, true, true, true, true, true, true, true, true, true, true, true, true, true, true, true, true, true, true, true, true, true, true, true, true, true, true, true] rfl rfl (by kernel_rfl) (fun _ _ _ h => h) (Or.inl ⟨by rfl, ?_⟩) ?_ ?_
            rotate_left
            · intro w'; go_simp; with_reducible rfl
            rotate_left
            · simp only [Act.put, List.setIfInBounds_toArray, List.set_cons_zero, List.set_cons_succ, i64_w, i32_w]; rfl
            refine done_ (by kernel_rfl) ?_
            go_wp2
            go_ret
            exact ⟨rfl, HP4.out.below⟩
          | succ k1 =>
            have hr : r < 20 := by have := HQ.out; omega
            have d5 : decide ((r : Int) < 20) = true := decide_eq_true (by omega)
            have HT1 := Aside0.mk (HR.out.good.tick (i := 0) (by decide))
            have HI1 := Aside0.mk HR.out.ticks
            have HBA := Aside0.mk ((HR.out.good.inv.at (i := 0) (by decide)).bd).1
            have HBB := Aside0.mk ((HT1.out.inv.at (i := 1) (by decide)).bd).1
            have HFA := Aside0.mk (fun q hq => HR.out.good.from (i := 0) (by decide) (tick_pk (HR.out.good.inv.at (i := 0) (by decide)) q hq))
            have HFB := Aside0.mk (fun q hq => HT1.out.from (i := 1) (by decide) (tick_pk (HT1.out.inv.at (i := 1) (by decide)) q hq))
            have HCA := Aside0.mk HR.out.good.inv.cap
            have HCB := Aside0.mk HT1.out.inv.cap
            have pt0 := pair_ptr HP.out (i := 0) (by decide)
            go_wp2_with (first
              | ((with_reducible refine gate_dst (N := 53) rfl ?_); refine goesL_ (some 53) rfl rfl Try.func50 (by kernel_rfl) rfl #[ptr (ga 0)] rfl (by first | (simp only [List.map_toArray, List.map_cons, List.map_nil]; rfl) | rfl) ?_; refine (tick_is (HP.out.lk 0 (by decide)) HBA.out).mono ?_; rintro e W5 ⟨o, rfl, ho, hb⟩; obtain ⟨Ao, co, rfl, hro⟩ := RowP.of_R ho; have HP5 := Aside0.mk (HP.out.bel hb); have HO5 := Aside0.mk (hro.mono (ok' := fun k => ow k ≠ 3) (fun k hk => by rw [HP.out.new k hk.2.1]; decide)); clear ho hb hro pt0; refine ⟨_, rfl, ?_⟩)
              | ((with_reducible refine gate_dst (N := 54) rfl ?_); refine goesL_ (some 54) rfl rfl Try.func55 (by kernel_rfl) rfl #[ptr bx, .slice Ao (outs (S 0).l 0 (S 0).l.out).length co] rfl (by first | (simp only [List.map_toArray, List.map_cons, List.map_nil]; rfl) | rfl) ?_; refine (out_is HP5.out (i := 0) (by decide) HO5.out HFA.out HCA.out (by rw [outs_len]; have := HBA.out.o8; omega)).mono ?_; rintro e W6 ⟨rfl, ow6, hp6⟩; have HP6 := Aside0.mk (show PS W W6 bx gN ga ma va sv gv ow6 (tickS S 0) from hp6); clear hp6; have pt1 := pair_ptr HP6.out (i := 1) (by decide); refine ⟨_, rfl, ?_⟩)
              | ((with_reducible refine gate_dst (N := 61) rfl ?_); refine goesL_ (some 61) rfl rfl Try.func50 (by kernel_rfl) rfl #[ptr (ga 1)] rfl (by first | (simp only [List.map_toArray, List.map_cons, List.map_nil]; rfl) | rfl) ?_; refine (tick_is (HP6.out.lk 1 (by decide)) HBB.out).mono ?_; rintro e W7 ⟨o, rfl, ho, hb⟩; obtain ⟨Ap, cp, rfl, hro⟩ := RowP.of_R ho; have HP7 := Aside0.mk (HP6.out.bel hb); have HO7 := Aside0.mk (hro.mono (ok' := fun k => ow6 k ≠ 3) (fun k hk => by rw [HP6.out.new k hk.2.1]; decide)); clear ho hb hro pt1; refine ⟨_, rfl, ?_⟩)
              | ((with_reducible refine gate_dst (N := 62) rfl ?_); refine goesL_ (some 62) rfl rfl Try.func55 (by kernel_rfl) rfl #[ptr bx, .slice Ap (outs (tickS S 0 1).l 0 (tickS S 0 1).l.out).length cp] rfl (by first | (simp only [List.map_toArray, List.map_cons, List.map_nil]; rfl) | rfl) ?_; refine (out_is HP7.out (i := 1) (by decide) HO7.out HFB.out HCB.out (by rw [outs_len]; have := HBB.out.o8; omega)).mono ?_; rintro e W8 ⟨rfl, ow8, hp8⟩; have HP8 := Aside0.mk (show PS W W8 bx gN ga ma va sv gv ow8 (tick2 S) from hp8); clear hp8; refine ⟨_, rfl, ?_⟩))
            go_loopg [6] 500 (fun kq v6 w' => ∃ (k : Nat) (S : Nat → Sd) (va sv gv : Nat → Value) (ow : Nat → Nat), v6 = .int .i64 k ∧ Aside0 (k + kq = 500) ∧ Aside0 (Inn r k S) ∧ Aside0 (PS W w' bx gN ga ma va sv gv ow S))
            case atStart => exact ⟨0, _, _, _, _, _, rfl, ⟨rfl⟩, HI1, HP8⟩
            case round =>
              clear HP8 HI1 HP HR HT1 HBA HBB HFA HFB HCA HCB HP5 HO5 HP6 HP7 HO7
              obtain ⟨k, S, va, sv, gv, ow, rfl, HK, HI, HP⟩ := hrel
              cases gk with
              | zero =>
                have hk : k = 500 := by have := HK.out; omega
                subst hk
                have d6 : decide (((500 : Nat) : Int) < 500) = false := by decide
                go_wp2
                go_roundg k1
                case measure => omega
                case rel => exact ⟨r + 1, S, va, sv, gv, ow, by first | rfl | (simp; done) | (simp; unfold wrap64; omega), ⟨by have := HQ.out; omega⟩, ⟨HI.out.next (.inl rfl)⟩, HP⟩
              | succ k2 =>
                have hk : k < 500 := by have := HK.out; omega
                have d6 : decide ((k : Int) < 500) = true := decide_eq_true (by omega)
                have hcn : cnt (qOf (S 0).row (S 1).row) = LK.tot S := qOf_cnt _ _
                have HCN := Aside0.mk hcn
                have HCC := Aside0.mk (show cnt (qOf (S 0).row (S 1).row) ≤ 1000 by rw [hcn]; have := HI.out.good.inv.cap; unfold LK.tot; omega)
                have b2 : wr.cell? ⟨bx, 2, none⟩ = some (ptr gN) := (blk_cell HP.out.box 2).trans rfl
                clear hcn
                by_cases hz : LK.tot S = 0
                · have HZ := Aside0.mk hz
                  have d7 : decide ((0 : Int) < (LK.tot S : Int)) = false := decide_eq_false (by omega)
                  have d8 : decide (0 < LK.tot S) = false := decide_eq_false (by omega)
                  clear hz
                  go_wp2_with (first
                    | ((with_reducible refine gate_dst (N := 70) rfl ?_); refine gate_guard (by rfl) ?_; dsimp only; refine goesL_ (some 70) rfl rfl Try.func21 (by kernel_rfl) rfl #[ptr gN] rfl (by first | (simp only [List.map_toArray, List.map_cons, List.map_nil]; rfl) | rfl) ?_; refine (count_net HP.out.net HCC.out).mono ?_; rintro e W9 ⟨rfl, hb⟩; rw [HCN.out]; have HP9 := Aside0.mk (HP.out.bel hb); clear hb b2; refine ⟨_, rfl, ?_⟩))
                  go_roundg k1
                  case measure => omega
                  case rel => exact ⟨r + 1, S, va, sv, gv, ow, by first | rfl | (simp; done) | (simp; unfold wrap64; omega), ⟨by have := HQ.out; omega⟩, ⟨HI.out.next (.inr HZ.out)⟩, HP9⟩
                · have HZ := Aside0.mk hz
                  have d7 : decide ((0 : Int) < (LK.tot S : Int)) = true := decide_eq_true (by omega)
                  have d8 : decide (0 < LK.tot S) = true := decide_eq_true (by omega)
                  have HS0 := Aside0.mk (show ∀ i, i < 2 → (S i).sent.length ≤ 1000 from fun i hi => by have h := HI.out.sum; unfold ssm at h; rcases two_cases hi with rfl | rfl <;> omega)
                  clear hz
                  go_wp2_with (first
                    | ((with_reducible refine gate_dst (N := 70) rfl ?_); refine gate_guard (by rfl) ?_; dsimp only; refine goesL_ (some 70) rfl rfl Try.func21 (by kernel_rfl) rfl #[ptr gN] rfl (by first | (simp only [List.map_toArray, List.map_cons, List.map_nil]; rfl) | rfl) ?_; refine (count_net HP.out.net HCC.out).mono ?_; rintro e W9 ⟨rfl, hb⟩; rw [HCN.out]; have HP9 := Aside0.mk (HP.out.bel hb); clear hb b2; refine ⟨_, rfl, ?_⟩)
                    | ((with_reducible refine gate_dst (N := 76) rfl ?_); refine goesL_ (some 76) rfl rfl Try.func56 (by kernel_rfl) rfl #[ptr bx, .int .i64 0, .int .i64 0] rfl (by first | (simp only [List.map_toArray, List.map_cons, List.map_nil]; rfl) | rfl) ?_; refine (come_a HP9.out HI.out.good HS0.out).mono ?_; rintro e W10 ⟨rfl, va1, gv1, ow1, hp⟩; have HP10 := Aside0.mk hp; clear hp; refine ⟨_, rfl, ?_⟩)
                    | ((with_reducible refine gate_dst (N := 80) rfl ?_); refine gate_guard (by rfl) ?_; dsimp only; refine goesL_ (some 80) rfl rfl Try.func56 (by kernel_rfl) rfl #[ptr bx, .int .i64 1, .int .i64 0] rfl (by first | (simp only [List.map_toArray, List.map_cons, List.map_nil]; rfl) | rfl) ?_; refine (come_b HP10.out (HI.out.good.come (i := 0) (by decide) 0) (fun i hi => by rw [comeS_sent]; exact HS0.out i hi)).mono ?_; rintro e W11 ⟨rfl, va2, gv2, ow2, hp⟩; have HP11 := Aside0.mk (show PS W W11 bx gN ga ma va2 sv gv2 ow2 (com2 S) from hp); clear hp; refine ⟨_, rfl, ?_⟩))
                  go_roundg k2
                  case measure => omega
                  case rel => exact ⟨k + 1, com2 S, _, _, _, _, by first | rfl | (simp; done) | (simp; unfold wrap64; omega), ⟨by have := HK.out; omega⟩, ⟨HI.out.come HZ.out⟩, HP11⟩
      · have hn := HN.out
        have d1 : decide ((n : Int) < (l.length : Int)) = true := decide_eq_true (by omega)
        have d2 : decide ((n : Int) < 80) = false := decide_eq_false (by omega)
        have g1 : n < l.length := by omega
        have g2 : 80 ≤ n := by omega
        clear hn
        obtain ⟨va, sv, gv, ow, hp⟩ := HD.out
        have hnl : n ≤ l.length := by have := HN.out; omega
        have hn80 : n ≤ 80 := by have := HN.out; omega
        have hct := doN_count (f := 1) (by decide) (by decide) l n hnl
        have HR0 := Aside0.mk (show Rnd 0 (doN (freshL 1) l n) from ⟨doN_good (by decide) (by decide) l n hnl, by omega, fun _ => by omega, fun e => absurd e (by decide), fun e => absurd e (by decide)⟩)
        have HP0 := Aside0.mk hp
        clear hp hct hnl hn80 HD
        go_wp2
        go_loopg [5] 20 (fun kq v5 w' => ∃ (r : Nat) (S : Nat → Sd) (va sv gv : Nat → Value) (ow : Nat → Nat), v5 = .int .i64 r ∧ Aside0 (r + kq = 20) ∧ Aside0 (Rnd r S) ∧ Aside0 (PS W w' bx gN ga ma va sv gv ow S))
        case atStart => exact ⟨0, _, _, _, _, _, rfl, ⟨rfl⟩, HR0, HP0⟩
        case round =>
          clear HR0 HP0
          obtain ⟨r, S, va, sv, gv, ow, rfl, HQ, HR, HP⟩ := hrel
          cases gk with
          | zero =>
            have hr : r = 20 := by have := HQ.out; omega
            subst hr
            have d5 : decide (((20 : Nat) : Int) < 20) = false := by decide
            have hfin := HR.out.last (by decide)
            obtain ⟨x, y, A3, c3, A4, c4, A5, c5, A6, c6, e3, e4, e5, e6⟩ := goes_rows HP.out hfin
            have E3 := Aside0.mk e3
            have E4 := Aside0.mk e4
            have E5 := Aside0.mk e5
            have E6 := Aside0.mk e6
            have HL0 := Aside0.mk (show (S 0).l.q.length = 0 by rw [hfin.1]; rfl)
            have HL1 := Aside0.mk (show (S 1).l.q.length = 0 by rw [hfin.2.1]; rfl)
            have HS0 := Aside0.mk (show ∀ i, i < 2 → (S i).sent.length ≤ 1000 from fun i hi => by have h := HR.out.sum; unfold ssm at h; rcases two_cases hi with rfl | rfl <;> omega)
            clear e3 e4 e5 e6 hfin
            go_wp2
            have HPd := Aside0.mk HP.out.drew
            refine start_ (n := 49) (S := fun w' => w'.cell? ⟨bx, 0, none⟩ = some (ptr (ga 0)) ∧ w'.cell? ⟨bx, 1, none⟩ = some (ptr (ga 1)) ∧ w'.cell? ⟨bx, 3, none⟩ = some (.slice A3 y c3) ∧ w'.cell? ⟨bx, 4, none⟩ = some (.slice A4 x c4) ∧ w'.cell? ⟨bx, 5, none⟩ = some (.slice A5 x c5) ∧ w'.cell? ⟨bx, 6, none⟩ = some (.slice A6 y c6)) (ds := []) #[false, false, false, false, false, false, false, false, false, false, false, false, false, false, false, false, false, false, false, false, false, false, false, false, false, false, false, false, false, false, false, false, false, false, false, false, false, false, false, false, false, false, false, false, false, false, false, false, false] (by kernel_rfl) rfl rfl (goes_six HPd.out E3.out E4.out E5.out E6.out) (fun hHeld => ?_)
            refine pure_ (i := 0) (N := some 83) (v := ?_) (a' := ?_) #[true, false, false, false, false, false, false, false, false, false, false, false, false, false, false, false, false, false, false, false, false, false, false, false, false, false, false, false, false, false, false, false, false, false, false, false, false, false, false, false, false, false, false, false, false, false, false, false, false] rfl rfl (by kernel_rfl) (fun _ _ _ h => h) (Or.inl ⟨by rfl, ?_⟩) ?_ ?_
            rotate_left
            · intro w'; go_simp; with_reducible rfl
            rotate_left
            · simp only [Act.put, List.setIfInBounds_toArray, List.set_cons_zero, List.set_cons_succ, i64_w, i32_w]; rfl
            refine one_ (i := 1) (N := some 84) #[true, true, false, false, false, false, false, false, false, false, false, false, false, false, false, false, false, false, false, false, false, false, false, false, false, false, false, false, false, false, false, false, false, false, false, false, false, false, false, false, false, false, false, false, false, false, false, false, false] rfl rfl (by kernel_rfl) (by decide) (fun K hK => ?_)
            refine goes_ Try.func57 (by kernel_rfl) rfl #[ptr bx] (by rfl) rfl rfl (by first | rfl | (simp only [List.map_toArray, List.map_cons, List.map_nil]; rfl)) ?_
            refine (right_is HPd.out HR.out.good HS0.out).mono ?_
            rintro e W2 ⟨rfl, hp⟩; have HP2 := Aside0.mk hp; clear hp
            refine ⟨_, rfl, hK.out _ _ (goes_six HP2.out E3.out E4.out E5.out E6.out) (fun hHeld => ?_)⟩
            clear hK K
            refine norm_ (a' := ?_) ?_ ?_
            rotate_left
            · show Act.put _ (some 84) _ = _
              simp only [Act.put, List.setIfInBounds_toArray, List.set_cons_zero, List.set_cons_succ, i64_w, i32_w]
              rfl
            refine pure_ (i := 2) (N := some 85) (v := ?_) (a' := ?_) #[true, true, true, false, false, false, false, false, false, false, false, false, false, false, false, false, false, false, false, false, false, false, false, false, false, false, false, false, false, false, false, false, false, false, false, false, false, false, false, false, false, false, false, false, false, false, false, false, false] rfl rfl (by kernel_rfl) (fun _ _ _ h => h) (Or.inl ⟨by rfl, ?_⟩) ?_ ?_
            rotate_left
            · intro w'; go_simp; with_reducible rfl
            rotate_left
            · simp only [Act.put, List.setIfInBounds_toArray, List.set_cons_zero, List.set_cons_succ, i64_w, i32_w]; rfl
            refine pure_ (i := 3) (N := some 86) (v := ?_) (a' := ?_) #[true, true, true, true, false, false, false, false, false, false, false, false, false, false, false, false, false, false, false, false, false, false, false, false, false, false, false, false, false, false, false, false, false, false, false, false, false, false, false, false, false, false, false, false, false, false, false, false, false] rfl rfl (by kernel_rfl) (fun _ _ _ h => h) (Or.inl ⟨by rfl, ?_⟩) ?_ ?_
            rotate_left
            · intro w'; go_simp; with_reducible rfl
            rotate_left
            · simp only [Act.put, List.setIfInBounds_toArray, List.set_cons_zero, List.set_cons_succ, i64_w, i32_w]; rfl
            refine pure_ (i := 4) (N := some 87) (v := ?_) (a' := ?_) #[true, true, true, true, true, false, false, false, false, false, false, false, false, false, false, false, false, false, false, false, false, false, false, false, false, false, false, false, false, false, false, false, false, false, false, false, false, false, false, false, false, false, false, false, false, false, false, false, false] rfl rfl (by kernel_rfl) (fun _ _ _ h => h) (Or.inl ⟨by rfl, ?_⟩) ?_ ?_
            rotate_left
            · intro w'; go_simp; with_reducible rfl
            rotate_left
            · simp only [Act.put, List.setIfInBounds_toArray, List.set_cons_zero, List.set_cons_succ, i64_w, i32_w]; rfl
            refine pure_ (i := 5) (N := some 88) (v := ?_) (a' := ?_) #[true, true, true, true, true, true, false, false, false, false, false, false, false, false, false, false, false, false, false, false, false, false, false, false, false, false, false, false, false, false, false, false, false, false, false, false, false, false, false, false, false, false, false, false, false, false, false, false, false] rfl rfl (by kernel_rfl) (fun _ _ _ h => h) (Or.inl ⟨by rfl, ?_⟩) ?_ ?_
            rotate_left
            · intro w'; go_simp; with_reducible rfl
            rotate_left
            · simp only [Act.put, List.setIfInBounds_toArray, List.set_cons_zero, List.set_cons_succ, i64_w, i32_w]; rfl
            refine pure_ (i := 6) (N := some 89) (v := ?_) (a' := ?_) #[true, true, true, true, true, true, true, false, false, false, false, false, false, false, false, false, false, false, false, false, false, false, false, false, false, false, false, false, false, false, false, false, false, false, false, false, false, false, false, false, false, false, false, false, false, false, false, false, false] rfl rfl (by kernel_rfl) (fun _ _ _ h => h) (Or.inl ⟨by rfl, ?_⟩) ?_ ?_
            rotate_left
            · intro w'; go_simp; with_reducible rfl
            rotate_left
            · simp only [Act.put, List.setIfInBounds_toArray, List.set_cons_zero, List.set_cons_succ, i64_w, i32_w]; rfl
            refine take_ (i := 7) (N := some 90) (v := ?_) (a' := ?_) #[true, true, true, true, true, true, true, true, false, false, false, false, false, false, false, false, false, false, false, false, false, false, false, false, false, false, false, false, false, false, false, false, false, false, false, false, false, false, false, false, false, false, false, false, false, false, false, false, false] rfl rfl (by kernel_rfl) (fun _ _ _ h => h) (Or.inl ⟨by rfl, ?_⟩) hHeld ?_ ?_
            rotate_left
            · rintro w' ⟨s0, s1, s2, s3, s4, s5⟩; go_simp; with_reducible rfl
            rotate_left
            · simp only [Act.put, List.setIfInBounds_toArray, List.set_cons_zero, List.set_cons_succ, i64_w, i32_w]; rfl
            refine pure_ (i := 8) (N := some 91) (v := ?_) (a' := ?_) #[true, true, true, true, true, true, true, true, true, false, false, false, false, false, false, false, false, false, false, false, false, false, false, false, false, false, false, false, false, false, false, false, false, false, false, false, false, false, false, false, false, false, false, false, false, false, false, false, false] rfl rfl (by kernel_rfl) (fun _ _ _ h => h) (Or.inl ⟨by rfl, ?_⟩) ?_ ?_
            rotate_left
            · intro w'; go_simp; with_reducible rfl
            rotate_left
            · simp only [Act.put, List.setIfInBounds_toArray, List.set_cons_zero, List.set_cons_succ, i64_w, i32_w]; rfl
            refine pure_ (i := 9) (N := some 92) (v := ?_) (a' := ?_) #[true, true, true, true, true, true, true, true, true, true, false, false, false, false, false, false, false, false, false, false, false, false, false, false, false, false, false, false, false, false, false, false, false, false, false, false, false, false, false, false, false, false, false, false, false, false, false, false, false] rfl rfl (by kernel_rfl) (fun _ _ _ h => h) (Or.inl ⟨by rfl, ?_⟩) ?_ ?_
            rotate_left
            · intro w'; go_simp; with_reducible rfl
            rotate_left
            · simp only [Act.put, List.setIfInBounds_toArray, List.set_cons_zero, List.set_cons_succ, i64_w, i32_w]; rfl
            refine pure_ (i := 10) (N := some 93) (v := ?_) (a' := ?_) #[true, true, true, true, true, true, true, true, true, true, true, false, false, false, false, false, false, false, false, false, false, false, false, false, false, false, false, false, false, false, false, false, false, false, false, false, false, false, false, false, false, false, false, false, false, false, false, false, false] rfl rfl (by kernel_rfl) (fun _ _ _ h => h) (Or.inl ⟨by rfl, ?_⟩) ?_ ?_
            rotate_left
            · intro w'; go_simp; with_reducible rfl
            rotate_left
            · simp only [Act.put, List.setIfInBounds_toArray, List.set_cons_zero, List.set_cons_succ, i64_w, i32_w]; rfl
            refine pure_ (i := 11) (N := some 94) (v := ?_) (a' := ?_) #[true, true, true, true, true, true, true, true, true, true, true, true, false, false, false, false, false, false, false, false, false, false, false, false, false, false, false, false, false, false, false, false, false, false, false, false, false, false, false, false, false, false, false, false, false, false, false, false, false] rfl rfl (by kernel_rfl) (fun _ _ _ h => h) (Or.inl ⟨by rfl, ?_⟩) ?_ ?_
            rotate_left
            · intro w'; go_simp; with_reducible rfl
            rotate_left
            · simp only [Act.put, List.setIfInBounds_toArray, List.set_cons_zero, List.set_cons_succ, i64_w, i32_w]; rfl
            refine pure_ (i := 12) (N := some 95) (v := ?_) (a' := ?_) #[true, true, true, true, true, true, true, true, true, true, true, true, true, false, false, false, false, false, false, false, false, false, false, false, false, false, false, false, false, false, false, false, false, false, false, false, false, false, false, false, false, false, false, false, false, false, false, false, false] rfl rfl (by kernel_rfl) (fun _ _ _ h => h) (Or.inl ⟨by rfl, ?_⟩) ?_ ?_
            rotate_left
            · intro w'; go_simp; with_reducible rfl
            rotate_left
            · simp only [Act.put, List.setIfInBounds_toArray, List.set_cons_zero, List.set_cons_succ, i64_w, i32_w]; rfl
            refine take_ (i := 13) (N := some 96) (v := ?_) (a' := ?_) #[true, true, true, true, true, true, true, true, true, true, true, true, true, true, false, false, false, false, false, false, false, false, false, false, false, false, false, false, false, false, false, false, false, false, false, false, false, false, false, false, false, false, false, false, false, false, false, false, false] rfl rfl (by kernel_rfl) (fun _ _ _ h => h) (Or.inl ⟨by rfl, ?_⟩) hHeld ?_ ?_
            rotate_left
            · rintro w' ⟨s0, s1, s2, s3, s4, s5⟩; go_simp; with_reducible rfl
            rotate_left
            · simp only [Act.put, List.setIfInBounds_toArray, List.set_cons_zero, List.set_cons_succ, i64_w, i32_w]; rfl
            refine pure_ (i := 14) (N := some 97) (v := ?_) (a' := ?_) #[true, true, true, true, true, true, true, true, true, true, true, true, true, true, true, false, false, false, false, false, false, false, false, false, false, false, false, false, false, false, false, false, false, false, false, false, false, false, false, false, false, false, false, false, false, false, false, false, false] rfl rfl (by kernel_rfl) (fun _ _ _ h => h) (Or.inl ⟨by rfl, ?_⟩) ?_ ?_
            rotate_left
            · intro w'; go_simp; with_reducible rfl
            rotate_left
            · simp only [Act.put, List.setIfInBounds_toArray, List.set_cons_zero, List.set_cons_succ, i64_w, i32_w]; rfl
            refine pure_ (i := 15) (N := some 98) (v := ?_) (a' := ?_) #[true, true, true, true, true, true, true, true, true, true, true, true, true, true, true, true, false, false, false, false, false, false, false, false, false, false, false, false, false, false, false, false, false, false, false, false, false, false, false, false, false, false, false, false, false, false, false, false, false] rfl rfl (by kernel_rfl) (fun _ _ _ h => h) (Or.inl ⟨by rfl, ?_⟩) ?_ ?_
            rotate_left
            · intro w'; go_simp; with_reducible rfl
            rotate_left
            · simp only [Act.put, List.setIfInBounds_toArray, List.set_cons_zero, List.set_cons_succ, i64_w, i32_w]; rfl
            refine pure_ (i := 16) (N := some 99) (v := ?_) (a' := ?_) #[true, true, true, true, true, true, true, true, true, true, true, true, true, true, true, true, true, false, false, false, false, false, false, false, false, false, false, false, false, false, false, false, false, false, false, false, false, false, false, false, false, false, false, false, false, false, false, false, false] rfl rfl (by kernel_rfl) (fun _ _ _ h => h) (Or.inl ⟨by rfl, ?_⟩) ?_ ?_
            rotate_left
            · intro w'; go_simp; with_reducible rfl
            rotate_left
            · simp only [Act.put, List.setIfInBounds_toArray, List.set_cons_zero, List.set_cons_succ, i64_w, i32_w]; rfl
            refine pure_ (i := 17) (N := some 100) (v := ?_) (a' := ?_) #[true, true, true, true, true, true, true, true, true, true, true, true, true, true, true, true, true, true, false, false, false, false, false, false, false, false, false, false, false, false, false, false, false, false, false, false, false, false, false, false, false, false, false, false, false, false, false, false, false] rfl rfl (by kernel_rfl) (fun _ _ _ h => h) (Or.inl ⟨by rfl, ?_⟩) ?_ ?_
            rotate_left
            · intro w'; go_simp; with_reducible rfl
            rotate_left
            · simp only [Act.put, List.setIfInBounds_toArray, List.set_cons_zero, List.set_cons_succ, i64_w, i32_w]; rfl
            refine pure_ (i := 18) (N := some 101) (v := ?_) (a' := ?_) #[true, true, true, true, true, true, true, true, true, true, true, true, true, true, true, true, true, true, true, false, false, false, false, false, false, false, false, false, false, false, false, false, false, false, false, false, false, false, false, false, false, false, false, false, false, false, false, false, false] rfl rfl (by kernel_rfl) (fun _ _ _ h => h) (Or.inl ⟨by rfl, ?_⟩) ?_ ?_
            rotate_left
            · intro w'; go_simp; with_reducible rfl
            rotate_left
            · simp only [Act.put, List.setIfInBounds_toArray, List.set_cons_zero, List.set_cons_succ, i64_w, i32_w]; rfl
            refine pure_ (i := 19) (N := some 102) (v := ?_) (a' := ?_) #[true, true, true, true, true, true, true, true, true, true, true, true, true, true, true, true, true, true, true, true, false, false, false, false, false, false, false, false, false, false, false, false, false, false, false, false, false, false, false, false, false, false, false, false, false, false, false, false, false] rfl rfl (by kernel_rfl) (fun _ _ _ h => h) (Or.inl ⟨by rfl, ?_⟩) ?_ ?_
            rotate_left
            · intro w'; go_simp; with_reducible rfl
            rotate_left
            · simp only [Act.put, List.setIfInBounds_toArray, List.set_cons_zero, List.set_cons_succ, i64_w, i32_w]; rfl
            refine pure_ (i := 20) (N := some 103) (v := ?_) (a' := ?_) #[true, true, true, true, true, true, true, true, true, true, true, true, true, true, true, true, true, true, true, true, true, false, false, false, false, false, false, false, false, false, false, false, false, false, false, false, false, false, false, false, false, false, false, false, false, false, false, false, false] rfl rfl (by kernel_rfl) (fun _ _ _ h => h) (Or.inl ⟨by rfl, ?_⟩) ?_ ?_
            rotate_left
            · intro w'; go_simp; with_reducible rfl
            rotate_left
            · simp only [Act.put, List.setIfInBounds_toArray, List.set_cons_zero, List.set_cons_succ, i64_w, i32_w]; rfl
            refine pure_ (i := 21) (N := some 104) (v := ?_) (a' := ?_) #[true, true, true, true, true, true, true, true, true, true, true, true, true, true, true, true, true, true, true, true, true, true, false, false, false, false, false, false, false, false, false, false, false, false, false, false, false, false, false, false, false, false, false, false, false, false, false, false, false] rfl rfl (by kernel_rfl) (fun _ _ _ h => h) (Or.inl ⟨by rfl, ?_⟩) ?_ ?_
            rotate_left
            · intro w'; go_simp; with_reducible rfl
            rotate_left
            · simp only [Act.put, List.setIfInBounds_toArray, List.set_cons_zero, List.set_cons_succ, i64_w, i32_w]; rfl
            refine take_ (i := 22) (N := some 105) (v := ?_) (a' := ?_) #[true, true, true, true, true, true, true, true, true, true, true, true, true, true, true, true, true, true, true, true, true, true, true, false, false, false, false, false, false, false, false, false, false, false, false, false, false, false, false, false, false, false, false, false, false, false, false, false, false] rfl rfl (by kernel_rfl) (fun _ _ _ h => h) (Or.inl ⟨by rfl, ?_⟩) hHeld ?_ ?_
            rotate_left
            · rintro w' ⟨s0, s1, s2, s3, s4, s5⟩; go_simp; with_reducible rfl
            rotate_left
            · simp only [Act.put, List.setIfInBounds_toArray, List.set_cons_zero, List.set_cons_succ, i64_w, i32_w]; rfl
            refine pure_ (i := 23) (N := some 106) (v := ?_) (a' := ?_) #[true, true, true, true, true, true, true, true, true, true, true, true, true, true, true, true, true, true, true, true, true, true, true, true, false, false, false, false, false, false, false, false, false, false, false, false, false, false, false, false, false, false, false, false, false, false, false, false, false] rfl rfl (by kernel_rfl) (fun _ _ _ h => h) (Or.inl ⟨by rfl, ?_⟩) ?_ ?_
            rotate_left
            · intro w'; go_simp; with_reducible rfl
            rotate_left
            · simp only [Act.put, List.setIfInBounds_toArray, List.set_cons_zero, List.set_cons_succ, i64_w, i32_w]; rfl
            refine pure_ (i := 24) (N := some 107) (v := ?_) (a' := ?_) #[true, true, true, true, true, true, true, true, true, true, true, true, true, true, true, true, true, true, true, true, true, true, true, true, true, false, false, false, false, false, false, false, false, false, false, false, false, false, false, false, false, false, false, false, false, false, false, false, false] rfl rfl (by kernel_rfl) (fun _ _ _ h => h) (Or.inl ⟨by rfl, ?_⟩) ?_ ?_
            rotate_left
            · intro w'; go_simp; with_reducible rfl
            rotate_left
            · simp only [Act.put, List.setIfInBounds_toArray, List.set_cons_zero, List.set_cons_succ, i64_w, i32_w]; rfl
            refine pure_ (i := 25) (N := some 108) (v := ?_) (a' := ?_) #[true, true, true, true, true, true, true, true, true, true, true, true, true, true, true, true, true, true, true, true, true, true, true, true, true, true, false, false, false, false, false, false, false, false, false, false, false, false, false, false, false, false, false, false, false, false, false, false, false] rfl rfl (by kernel_rfl) (fun _ _ _ h => h) (Or.inl ⟨by rfl, ?_⟩) ?_ ?_
            rotate_left
            · intro w'; go_simp; with_reducible rfl
            rotate_left
            · simp only [Act.put, List.setIfInBounds_toArray, List.set_cons_zero, List.set_cons_succ, i64_w, i32_w]; rfl
            refine pure_ (i := 26) (N := some 109) (v := ?_) (a' := ?_) #[true, true, true, true, true, true, true, true, true, true, true, true, true, true, true, true, true, true, true, true, true, true, true, true, true, true, true, false, false, false, false, false, false, false, false, false, false, false, false, false, false, false, false, false, false, false, false, false, false] rfl rfl (by kernel_rfl) (fun _ _ _ h => h) (Or.inl ⟨by rfl, ?_⟩) ?_ ?_
            rotate_left
            · intro w'; go_simp; with_reducible rfl
            rotate_left
            · simp only [Act.put, List.setIfInBounds_toArray, List.set_cons_zero, List.set_cons_succ, i64_w, i32_w]; rfl
            refine pure_ (i := 27) (N := some 110) (v := ?_) (a' := ?_) #[true, true, true, true, true, true, true, true, true, true, true, true, true, true, true, true, true, true, true, true, true, true, true, true, true, true, true, true, false, false, false, false, false, false, false, false, false, false, false, false, false, false, false, false, false, false, false, false, false] rfl rfl (by kernel_rfl) (fun _ _ _ h => h) (Or.inl ⟨by rfl, ?_⟩) ?_ ?_
            rotate_left
            · intro w'; go_simp; with_reducible rfl
            rotate_left
            · simp only [Act.put, List.setIfInBounds_toArray, List.set_cons_zero, List.set_cons_succ, i64_w, i32_w]; rfl
            refine take_ (i := 28) (N := some 111) (v := ?_) (a' := ?_) #[true, true, true, true, true, true, true, true, true, true, true, true, true, true, true, true, true, true, true, true, true, true, true, true, true, true, true, true, true, false, false, false, false, false, false, false, false, false, false, false, false, false, false, false, false, false, false, false, false] rfl rfl (by kernel_rfl) (fun _ _ _ h => h) (Or.inl ⟨by rfl, ?_⟩) hHeld ?_ ?_
            rotate_left
            · rintro w' ⟨s0, s1, s2, s3, s4, s5⟩; go_simp; with_reducible rfl
            rotate_left
            · simp only [Act.put, List.setIfInBounds_toArray, List.set_cons_zero, List.set_cons_succ, i64_w, i32_w]; rfl
            refine pure_ (i := 29) (N := some 112) (v := ?_) (a' := ?_) #[true, true, true, true, true, true, true, true, true, true, true, true, true, true, true, true, true, true, true, true, true, true, true, true, true, true, true, true, true, true, false, false, false, false, false, false, false, false, false, false, false, false, false, false, false, false, false, false, false] rfl rfl (by kernel_rfl) (fun _ _ _ h => h) (Or.inl ⟨by rfl, ?_⟩) ?_ ?_
            rotate_left
            · intro w'; go_simp; with_reducible rfl
            rotate_left
            · simp only [Act.put, List.setIfInBounds_toArray, List.set_cons_zero, List.set_cons_succ, i64_w, i32_w]; rfl
            refine pure_ (i := 30) (N := some 113) (v := ?_) (a' := ?_) #[true, true, true, true, true, true, true, true, true, true, true, true, true, true, true, true, true, true, true, true, true, true, true, true, true, true, true, true, true, true, true, false, false, false, false, false, false, false, false, false, false, false, false, false, false, false, false, false, false] rfl rfl (by kernel_rfl) (fun _ _ _ h => h) (Or.inl ⟨by rfl, ?_⟩) ?_ ?_
            rotate_left
            · intro w'; go_simp; with_reducible rfl
            rotate_left
            · simp only [Act.put, List.setIfInBounds_toArray, List.set_cons_zero, List.set_cons_succ, i64_w, i32_w]; rfl
            refine pure_ (i := 31) (N := some 114) (v := ?_) (a' := ?_) #[true, true, true, true, true, true, true, true, true, true, true, true, true, true, true, true, true, true, true, true, true, true, true, true, true, true, true, true, true, true, true, true, false, false, false, false, false, false, false, false, false, false, false, false, false, false, false, false, false] rfl rfl (by kernel_rfl) (fun _ _ _ h => h) (Or.inl ⟨by rfl, ?_⟩) ?_ ?_
            rotate_left
            · intro w'; go_simp; with_reducible rfl
            rotate_left
            · simp only [Act.put, List.setIfInBounds_toArray, List.set_cons_zero, List.set_cons_succ, i64_w, i32_w]; rfl
            refine pure_ (i := 32) (N := some 115) (v := ?_) (a' := ?_) #[true, true, true, true, true, true, true, true, true, true, true, true, true, true, true, true, true, true, true, true, true, true, true, true, true, true, true, true, true, true, true, true, true, false, false, false, false, false, false, false, false, false, false, false, false, false, false, false, false] rfl rfl (by kernel_rfl) (fun _ _ _ h => h) (Or.inl ⟨by rfl, ?_⟩) ?_ ?_
            rotate_left
            · intro w'; go_simp; with_reducible rfl
            rotate_left
            · simp only [Act.put, List.setIfInBounds_toArray, List.set_cons_zero, List.set_cons_succ, i64_w, i32_w]; rfl
            refine pure_ (i := 33) (N := some 116) (v := ?_) (a' := ?_) #[true, true, true, true, true, true, true, true, true, true, true, true, true, true, true, true, true, true, true, true, true, true, true, true, true, true, true, true, true, true, true, true, true, true, false, false, false, false, false, false, false, false, false, false, false, false, false, false, false] rfl rfl (by kernel_rfl) (fun _ _ _ h => h) (Or.inl ⟨by rfl, ?_⟩) ?_ ?_
            rotate_left
            · intro w'; go_simp; with_reducible rfl
            rotate_left
            · simp only [Act.put, List.setIfInBounds_toArray, List.set_cons_zero, List.set_cons_succ, i64_w, i32_w]; rfl
            refine pure_ (i := 34) (N := some 117) (v := ?_) (a' := ?_) #[true, true, true, true, true, true, true, true, true, true, true, true, true, true, true, true, true, true, true, true, true, true, true, true, true, true, true, true, true, true, true, true, true, true, true, false, false, false, false, false, false, false, false, false, false, false, false, false, false] rfl rfl (by kernel_rfl) (fun _ _ _ h => h) (Or.inl ⟨by rfl, ?_⟩) ?_ ?_
            rotate_left
            · intro w'; go_simp; with_reducible rfl
            rotate_left
            · simp only [Act.put, List.setIfInBounds_toArray, List.set_cons_zero, List.set_cons_succ, i64_w, i32_w]; rfl
            refine pure_ (i := 35) (N := some 118) (v := ?_) (a' := ?_) #[true, true, true, true, true, true, true, true, true, true, true, true, true, true, true, true, true, true, true, true, true, true, true, true, true, true, true, true, true, true, true, true, true, true, true, true, false, false, false, false, false, false, false, false, false, false, false, false, false] rfl rfl (by kernel_rfl) (fun _ _ _ h => h) (Or.inl ⟨by rfl, ?_⟩) ?_ ?_
            rotate_left
            · intro w'; go_simp; with_reducible rfl
            rotate_left
            · simp only [Act.put, List.setIfInBounds_toArray, List.set_cons_zero, List.set_cons_succ, i64_w, i32_w]; rfl
            refine pure_ (i := 36) (N := some 119) (v := ?_) (a' := ?_) #[true, true, true, true, true, true, true, true, true, true, true, true, true, true, true, true, true, true, true, true, true, true, true, true, true, true, true, true, true, true, true, true, true, true, true, true, true, false, false, false, false, false, false, false, false, false, false, false, false] rfl rfl (by kernel_rfl) (fun _ _ _ h => h) (Or.inl ⟨by rfl, ?_⟩) ?_ ?_
            rotate_left
            · intro w'; go_simp; with_reducible rfl
            rotate_left
            · simp only [Act.put, List.setIfInBounds_toArray, List.set_cons_zero, List.set_cons_succ, i64_w, i32_w]; rfl
            refine take_ (i := 37) (N := some 120) (v := ?_) (a' := ?_) #[true, true, true, true, true, true, true, true, true, true, true, true, true, true, true, true, true, true, true, true, true, true, true, true, true, true, true, true, true, true, true, true, true, true, true, true, true, true, false, false, false, false, false, false, false, false, false, false, false] rfl rfl (by kernel_rfl) (fun _ _ _ h => h) (Or.inl ⟨by rfl, ?_⟩) hHeld ?_ ?_
            rotate_left
            · rintro w' ⟨s0, s1, s2, s3, s4, s5⟩; go_simp; with_reducible rfl
            rotate_left
            · simp only [Act.put, List.setIfInBounds_toArray, List.set_cons_zero, List.set_cons_succ, i64_w, i32_w]; rfl
            refine pure_ (i := 39) (N := some 122) (v := ?_) (a' := ?_) #[true, true, true, true, true, true, true, true, true, true, true, true, true, true, true, true, true, true, true, true, true, true, true, true, true, true, true, true, true, true, true, true, true, true, true, true, true, true, false, true, false, false, false, false, false, false, false, false, false] rfl rfl (by kernel_rfl) (fun _ _ _ h => h) (Or.inl ⟨by rfl, ?_⟩) ?_ ?_
            rotate_left
            · intro w'; go_simp; with_reducible rfl
            rotate_left
            · simp only [Act.put, List.setIfInBounds_toArray, List.set_cons_zero, List.set_cons_succ, i64_w, i32_w]; rfl
            refine pure_ (i := 40) (N := some 123) (v := ?_) (a' := ?_) #[true, true, true, true, true, true, true, true, true, true, true, true, true, true, true, true, true, true, true, true, true, true, true, true, true, true, true, true, true, true, true, true, true, true, true, true, true, true, false, true, true, false, false, false, false, false, false, false, false] rfl rfl (by kernel_rfl) (fun _ _ _ h => h) (Or.inl ⟨by rfl, ?_⟩) ?_ ?_
            rotate_left
            · intro w'; go_simp; with_reducible rfl
            rotate_left
            · simp only [Act.put, List.setIfInBounds_toArray, List.set_cons_zero, List.set_cons_succ, i64_w, i32_w]; rfl
            refine pure_ (i := 41) (N := some 124) (v := ?_) (a' := ?_) #[true, true, true, true, true, true, true, true, true, true, true, true, true, true, true, true, true, true, true, true, true, true, true, true, true, true, true, true, true, true, true, true, true, true, true, true, true, true, false, true, true, true, false, false, false, false, false, false, false] rfl rfl (by kernel_rfl) (fun _ _ _ h => h) (Or.inl ⟨by rfl, ?_⟩) ?_ ?_
            rotate_left
            · intro w'; go_simp; with_reducible rfl
            rotate_left
            · simp only [Act.put, List.setIfInBounds_toArray, List.set_cons_zero, List.set_cons_succ, i64_w, i32_w]; rfl
            refine pure_ (i := 42) (N := some 125) (v := ?_) (a' := ?_) #[true, true, true, true, true, true, true, true, true, true, true, true, true, true, true, true, true, true, true, true, true, true, true, true, true, true, true, true, true, true, true, true, true, true, true, true, true, true, false, true, true, true, true, false, false, false, false, false, false] rfl rfl (by kernel_rfl) (fun _ _ _ h => h) (Or.inl ⟨by rfl, ?_⟩) ?_ ?_
            rotate_left
            · intro w'; go_simp; with_reducible rfl
            rotate_left
            · simp only [Act.put, List.setIfInBounds_toArray, List.set_cons_zero, List.set_cons_succ, i64_w, i32_w]; rfl
            refine take_ (i := 43) (N := some 126) (v := ?_) (a' := ?_) #[true, true, true, true, true, true, true, true, true, true, true, true, true, true, true, true, true, true, true, true, true, true, true, true, true, true, true, true, true, true, true, true, true, true, true, true, true, true, false, true, true, true, true, true, false, false, false, false, false] rfl rfl (by kernel_rfl) (fun _ _ _ h => h) (Or.inl ⟨by rfl, ?_⟩) hHeld ?_ ?_
            rotate_left
            · rintro w' ⟨s0, s1, s2, s3, s4, s5⟩; go_simp; with_reducible rfl
            rotate_left
            · simp only [Act.put, List.setIfInBounds_toArray, List.set_cons_zero, List.set_cons_succ, i64_w, i32_w]; rfl
            refine one_ (i := 38) (N := some 121) #[true, true, true, true, true, true, true, true, true, true, true, true, true, true, true, true, true, true, true, true, true, true, true, true, true, true, true, true, true, true, true, true, true, true, true, true, true, true, true, true, true, true, true, true, false, false, false, false, false] rfl rfl (by kernel_rfl) (by decide) (fun K hK => ?_)
            refine goes_ Try.func40 (by kernel_rfl) rfl #[ptr (ga 0)] (by rfl) rfl rfl (by first | rfl | (simp only [List.map_toArray, List.map_cons, List.map_nil]; rfl)) ?_
            refine (left_is (HP2.out.lk 0 (by decide))).mono ?_
            rintro e W3 ⟨rfl, hb⟩; rw [HL0.out]; have HP3 := Aside0.mk (HP2.out.bel hb); clear hb
            refine ⟨_, rfl, hK.out _ _ (goes_six HP3.out E3.out E4.out E5.out E6.out) (fun hHeld => ?_)⟩
            clear hK K
            refine norm_ (a' := ?_) ?_ ?_
            rotate_left
            · show Act.put _ (some 121) _ = _
              simp only [Act.put, List.setIfInBounds_toArray, List.set_cons_zero, List.set_cons_succ, i64_w, i32_w]
              rfl
            refine one_ (i := 44) (N := some 127) #[true, true, true, true, true, true, true, true, true, true, true, true, true, true, true, true, true, true, true, true, true, true, true, true, true, true, true, true, true, true, true, true, true, true, true, true, true, true, true, true, true, true, true, true, true, false, false, false, false] rfl rfl (by kernel_rfl) (by decide) (fun K hK => ?_)
            refine goes_ Try.func40 (by kernel_rfl) rfl #[ptr (ga 1)] (by rfl) rfl rfl (by first | rfl | (simp only [List.map_toArray, List.map_cons, List.map_nil]; rfl)) ?_
            refine (left_is (HP3.out.lk 1 (by decide))).mono ?_
            rintro e W4 ⟨rfl, hb⟩; rw [HL1.out]; have HP4 := Aside0.mk (HP3.out.bel hb); clear hb
            refine ⟨_, rfl, hK.out _ _ (goes_six HP4.out E3.out E4.out E5.out E6.out) (fun hHeld => ?_)⟩
            clear hK K
            refine norm_ (a' := ?_) ?_ ?_
            rotate_left
            · show Act.put _ (some 127) _ = _
              simp only [Act.put, List.setIfInBounds_toArray, List.set_cons_zero, List.set_cons_succ, i64_w, i32_w]
              rfl
            refine pure_ (i := 45) (N := some 128) (v := ?_) (a' := ?_) #[true, true, true, true, true, true, true, true, true, true, true, true, true, true, true, true, true, true, true, true, true, true, true, true, true, true, true, true, true, true, true, true, true, true, true, true, true, true, true, true, true, true, true, true, true, true, false, false, false] rfl rfl (by kernel_rfl) (fun _ _ _ h => h) (Or.inl ⟨by rfl, ?_⟩) ?_ ?_
            rotate_left
            · intro w'; go_simp; simp only [i64_w, wrap64_0]; with_reducible rfl
            rotate_left
            · simp only [Act.put, List.setIfInBounds_toArray, List.set_cons_zero, List.set_cons_succ, i64_w, i32_w]; rfl
            refine pure_ (i := 46) (N := some 129) (v := ?_) (a' := ?_) #[true, true, true, true, true, true, true, true, true, true, true, true, true, true, true, true, true, true, true, true, true, true, true, true, true, true, true, true, true, true, true, true, true, true, true, true, true, true, true, true, true, true, true, true, true, true, true, false, false] rfl rfl (by kernel_rfl) (fun _ _ _ h => h) (Or.inl ⟨by rfl, ?_⟩) ?_ ?_
            rotate_left
            · intro w'; go_simp; with_reducible rfl
            rotate_left
            · simp only [Act.put, List.setIfInBounds_toArray, List.set_cons_zero, List.set_cons_succ, i64_w, i32_w]; rfl
            refine pure_ (i := 47) (N := some 130) (v := ?_) (a' := ?_) #[true, true, true, true, true, true, true, true, true, true, true, true, true, true, true, true, true, true, true, true, true, true, true, true, true, true, true, true, true, true, true, true, true, true, true, true, true, true, true, true, true, true, true, true, true, true, true, true, false] rfl rfl (by kernel_rfl) (fun _ _ _ h => h) (Or.inl ⟨by rfl, ?_⟩) ?_ ?_
            rotate_left
            · intro w'; go_simp; with_reducible rfl
            rotate_left
            · simp only [Act.put, List.setIfInBounds_toArray, List.set_cons_zero, List.set_cons_succ, i64_w, i32_w]; rfl
            refine pure_ (i := 48) (N := some 2) (v := ?_) (a' := ?_) #[true, true, true, true, true, true, true, true, true, true, true, true, true, true, true, true, true, true, true, true, true, true, true, true, true, true, true, true, true, true, true, true, true, true, true, true, true, true, true, true, true, true, true, true, true, true, true, true, true] rfl rfl (by kernel_rfl) (fun _ _ _ h => h) (Or.inl ⟨by rfl, ?_⟩) ?_ ?_
            rotate_left
            · intro w'; go_simp; with_reducible rfl
            rotate_left
            · simp only [Act.put, List.setIfInBounds_toArray, List.set_cons_zero, List.set_cons_succ, i64_w, i32_w]; rfl
            refine done_ (by kernel_rfl) ?_
            go_wp2
            go_ret
            exact ⟨rfl, HP4.out.below⟩
          | succ k1 =>
            have hr : r < 20 := by have := HQ.out; omega
            have d5 : decide ((r : Int) < 20) = true := decide_eq_true (by omega)
            have HT1 := Aside0.mk (HR.out.good.tick (i := 0) (by decide))
            have HI1 := Aside0.mk HR.out.ticks
            have HBA := Aside0.mk ((HR.out.good.inv.at (i := 0) (by decide)).bd).1
            have HBB := Aside0.mk ((HT1.out.inv.at (i := 1) (by decide)).bd).1
            have HFA := Aside0.mk (fun q hq => HR.out.good.from (i := 0) (by decide) (tick_pk (HR.out.good.inv.at (i := 0) (by decide)) q hq))
            have HFB := Aside0.mk (fun q hq => HT1.out.from (i := 1) (by decide) (tick_pk (HT1.out.inv.at (i := 1) (by decide)) q hq))
            have HCA := Aside0.mk HR.out.good.inv.cap
            have HCB := Aside0.mk HT1.out.inv.cap
            have pt0 := pair_ptr HP.out (i := 0) (by decide)
            go_wp2_with (first
              | ((with_reducible refine gate_dst (N := 53) rfl ?_); refine goesL_ (some 53) rfl rfl Try.func50 (by kernel_rfl) rfl #[ptr (ga 0)] rfl (by first | (simp only [List.map_toArray, List.map_cons, List.map_nil]; rfl) | rfl) ?_; refine (tick_is (HP.out.lk 0 (by decide)) HBA.out).mono ?_; rintro e W5 ⟨o, rfl, ho, hb⟩; obtain ⟨Ao, co, rfl, hro⟩ := RowP.of_R ho; have HP5 := Aside0.mk (HP.out.bel hb); have HO5 := Aside0.mk (hro.mono (ok' := fun k => ow k ≠ 3) (fun k hk => by rw [HP.out.new k hk.2.1]; decide)); clear ho hb hro pt0; refine ⟨_, rfl, ?_⟩)
              | ((with_reducible refine gate_dst (N := 54) rfl ?_); refine goesL_ (some 54) rfl rfl Try.func55 (by kernel_rfl) rfl #[ptr bx, .slice Ao (outs (S 0).l 0 (S 0).l.out).length co] rfl (by first | (simp only [List.map_toArray, List.map_cons, List.map_nil]; rfl) | rfl) ?_; refine (out_is HP5.out (i := 0) (by decide) HO5.out HFA.out HCA.out (by rw [outs_len]; have := HBA.out.o8; omega)).mono ?_; rintro e W6 ⟨rfl, ow6, hp6⟩; have HP6 := Aside0.mk (show PS W W6 bx gN ga ma va sv gv ow6 (tickS S 0) from hp6); clear hp6; have pt1 := pair_ptr HP6.out (i := 1) (by decide); refine ⟨_, rfl, ?_⟩)
              | ((with_reducible refine gate_dst (N := 61) rfl ?_); refine goesL_ (some 61) rfl rfl Try.func50 (by kernel_rfl) rfl #[ptr (ga 1)] rfl (by first | (simp only [List.map_toArray, List.map_cons, List.map_nil]; rfl) | rfl) ?_; refine (tick_is (HP6.out.lk 1 (by decide)) HBB.out).mono ?_; rintro e W7 ⟨o, rfl, ho, hb⟩; obtain ⟨Ap, cp, rfl, hro⟩ := RowP.of_R ho; have HP7 := Aside0.mk (HP6.out.bel hb); have HO7 := Aside0.mk (hro.mono (ok' := fun k => ow6 k ≠ 3) (fun k hk => by rw [HP6.out.new k hk.2.1]; decide)); clear ho hb hro pt1; refine ⟨_, rfl, ?_⟩)
              | ((with_reducible refine gate_dst (N := 62) rfl ?_); refine goesL_ (some 62) rfl rfl Try.func55 (by kernel_rfl) rfl #[ptr bx, .slice Ap (outs (tickS S 0 1).l 0 (tickS S 0 1).l.out).length cp] rfl (by first | (simp only [List.map_toArray, List.map_cons, List.map_nil]; rfl) | rfl) ?_; refine (out_is HP7.out (i := 1) (by decide) HO7.out HFB.out HCB.out (by rw [outs_len]; have := HBB.out.o8; omega)).mono ?_; rintro e W8 ⟨rfl, ow8, hp8⟩; have HP8 := Aside0.mk (show PS W W8 bx gN ga ma va sv gv ow8 (tick2 S) from hp8); clear hp8; refine ⟨_, rfl, ?_⟩))
            go_loopg [6] 500 (fun kq v6 w' => ∃ (k : Nat) (S : Nat → Sd) (va sv gv : Nat → Value) (ow : Nat → Nat), v6 = .int .i64 k ∧ Aside0 (k + kq = 500) ∧ Aside0 (Inn r k S) ∧ Aside0 (PS W w' bx gN ga ma va sv gv ow S))
            case atStart => exact ⟨0, _, _, _, _, _, rfl, ⟨rfl⟩, HI1, HP8⟩
            case round =>
              clear HP8 HI1 HP HR HT1 HBA HBB HFA HFB HCA HCB HP5 HO5 HP6 HP7 HO7
              obtain ⟨k, S, va, sv, gv, ow, rfl, HK, HI, HP⟩ := hrel
              cases gk with
              | zero =>
                have hk : k = 500 := by have := HK.out; omega
                subst hk
                have d6 : decide (((500 : Nat) : Int) < 500) = false := by decide
                go_wp2
                go_roundg k1
                case measure => omega
                case rel => exact ⟨r + 1, S, va, sv, gv, ow, by first | rfl | (simp; done) | (simp; unfold wrap64; omega), ⟨by have := HQ.out; omega⟩, ⟨HI.out.next (.inl rfl)⟩, HP⟩
              | succ k2 =>
                have hk : k < 500 := by have := HK.out; omega
                have d6 : decide ((k : Int) < 500) = true := decide_eq_true (by omega)
                have hcn : cnt (qOf (S 0).row (S 1).row) = LK.tot S := qOf_cnt _ _
                have HCN := Aside0.mk hcn
                have HCC := Aside0.mk (show cnt (qOf (S 0).row (S 1).row) ≤ 1000 by rw [hcn]; have := HI.out.good.inv.cap; unfold LK.tot; omega)
                have b2 : wr.cell? ⟨bx, 2, none⟩ = some (ptr gN) := (blk_cell HP.out.box 2).trans rfl
                clear hcn
                by_cases hz : LK.tot S = 0
                · have HZ := Aside0.mk hz
                  have d7 : decide ((0 : Int) < (LK.tot S : Int)) = false := decide_eq_false (by omega)
                  have d8 : decide (0 < LK.tot S) = false := decide_eq_false (by omega)
                  clear hz
                  go_wp2_with (first
                    | ((with_reducible refine gate_dst (N := 70) rfl ?_); refine gate_guard (by rfl) ?_; dsimp only; refine goesL_ (some 70) rfl rfl Try.func21 (by kernel_rfl) rfl #[ptr gN] rfl (by first | (simp only [List.map_toArray, List.map_cons, List.map_nil]; rfl) | rfl) ?_; refine (count_net HP.out.net HCC.out).mono ?_; rintro e W9 ⟨rfl, hb⟩; rw [HCN.out]; have HP9 := Aside0.mk (HP.out.bel hb); clear hb b2; refine ⟨_, rfl, ?_⟩))
                  go_roundg k1
                  case measure => omega
                  case rel => exact ⟨r + 1, S, va, sv, gv, ow, by first | rfl | (simp; done) | (simp; unfold wrap64; omega), ⟨by have := HQ.out; omega⟩, ⟨HI.out.next (.inr HZ.out)⟩, HP9⟩
                · have HZ := Aside0.mk hz
                  have d7 : decide ((0 : Int) < (LK.tot S : Int)) = true := decide_eq_true (by omega)
                  have d8 : decide (0 < LK.tot S) = true := decide_eq_true (by omega)
                  have HS0 := Aside0.mk (show ∀ i, i < 2 → (S i).sent.length ≤ 1000 from fun i hi => by have h := HI.out.sum; unfold ssm at h; rcases two_cases hi with rfl | rfl <;> omega)
                  clear hz
                  go_wp2_with (first
                    | ((with_reducible refine gate_dst (N := 70) rfl ?_); refine gate_guard (by rfl) ?_; dsimp only; refine goesL_ (some 70) rfl rfl Try.func21 (by kernel_rfl) rfl #[ptr gN] rfl (by first | (simp only [List.map_toArray, List.map_cons, List.map_nil]; rfl) | rfl) ?_; refine (count_net HP.out.net HCC.out).mono ?_; rintro e W9 ⟨rfl, hb⟩; rw [HCN.out]; have HP9 := Aside0.mk (HP.out.bel hb); clear hb b2; refine ⟨_, rfl, ?_⟩)
                    | ((with_reducible refine gate_dst (N := 76) rfl ?_); refine goesL_ (some 76) rfl rfl Try.func56 (by kernel_rfl) rfl #[ptr bx, .int .i64 0, .int .i64 0] rfl (by first | (simp only [List.map_toArray, List.map_cons, List.map_nil]; rfl) | rfl) ?_; refine (come_a HP9.out HI.out.good HS0.out).mono ?_; rintro e W10 ⟨rfl, va1, gv1, ow1, hp⟩; have HP10 := Aside0.mk hp; clear hp; refine ⟨_, rfl, ?_⟩)
                    | ((with_reducible refine gate_dst (N := 80) rfl ?_); refine gate_guard (by rfl) ?_; dsimp only; refine goesL_ (some 80) rfl rfl Try.func56 (by kernel_rfl) rfl #[ptr bx, .int .i64 1, .int .i64 0] rfl (by first | (simp only [List.map_toArray, List.map_cons, List.map_nil]; rfl) | rfl) ?_; refine (come_b HP10.out (HI.out.good.come (i := 0) (by decide) 0) (fun i hi => by rw [comeS_sent]; exact HS0.out i hi)).mono ?_; rintro e W11 ⟨rfl, va2, gv2, ow2, hp⟩; have HP11 := Aside0.mk (show PS W W11 bx gN ga ma va2 sv gv2 ow2 (com2 S) from hp); clear hp; refine ⟨_, rfl, ?_⟩))
                  go_roundg k2
                  case measure => omega
                  case rel => exact ⟨k + 1, com2 S, _, _, _, _, by first | rfl | (simp; done) | (simp; unfold wrap64; omega), ⟨by have := HK.out; omega⟩, ⟨HI.out.come HZ.out⟩, HP11⟩
    | succ k1 =>
      have hn : n < l.length := by have := HN.out; omega
      have hn2 : n < 80 := by have := HN.out; omega
      have d1 : decide ((n : Int) < (l.length : Int)) = true := decide_eq_true (by omega)
      have d2 : decide ((n : Int) < 80) = true := decide_eq_true (by omega)
      have i0 : (0 : Int) ≤ (n : Int) := by omega
      have i1 : (n : Int) < (l.length : Int) := by omega
      have HL := Aside0.mk hn
      have HL2 := Aside0.mk hn2
      obtain ⟨va, sv, gv, ow, hp⟩ := HD.out
      obtain ⟨x, hx⟩ : ∃ x, rd_T109 l (n : Int) = x := ⟨_, rfl⟩
      obtain ⟨ad, hA, _⟩ := at_T109 HC.out (n : Int) i0 i1
      have HX := Aside0.mk hx
      have HP := Aside0.mk hp
      have HZ := Aside0.mk (show x.f3.size ≤ 9223372036854775807 by rw [← hx]; exact size109 HG.out hn)
      clear hx hp
      subst hA
      obtain ⟨e0, e1, e2, e3⟩ := cells109 HC.out HP.out.below hn HX.out rfl
      go_wp2_with (first
        | ((with_reducible refine gate_dst (N := 41) rfl ?_); refine goesL_ (some 41) rfl rfl Try.func58 (by kernel_rfl) rfl #[ptr bx, .agg #[.int .i64 x.f0, .int .i64 x.f1, .int .i64 x.f2, .string x.f3]] rfl (by first | (simp only [List.map_toArray, List.map_cons, List.map_nil]; rfl) | rfl) ?_; refine (do_is HP.out (doN_good (by decide) (by decide) l n (by have := HL.out; omega)) (fun j _ => Nat.le_trans (doN_sent 1 l n (by have := HL.out; omega) j) (by have := HL2.out; omega)) x HZ.out).mono ?_; rintro e w8 ⟨rfl, va', sv', gv', ow', hp⟩; have HP8 := Aside0.mk (show PS W w8 bx gN ga ma va' sv' gv' ow' (doN (freshL 1) l (n + 1)) by rw [doN_succ _ HL.out, HX.out]; exact hp); clear hp e0 e1 e2 e3; refine ⟨_, rfl, ?_⟩))
      go_roundg k1
      case measure => omega
      case rel => exact ⟨n + 1, by first | rfl | (simp; done) | (simp; unfold wrap64; omega), ⟨by have := HN.out; omega⟩, ⟨⟨_, _, _, _, HP8.out⟩⟩⟩
end Go.Proofs.Ytdibaeomepallaa.LK
