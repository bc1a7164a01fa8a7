/- The law NetLimits' walk. -/
import Derived.Test.YtdibaeomepallaaNO
import Derived.Test.YtdibaeomepallaaNQ
namespace Go.Proofs.Ytdibaeomepallaa.NW
open Go.RowKit Go.Proofs.YtdibaeomepallaaW.PrintWords Go.Proofs.YtdibaeomepallaaW.PrintLast Go.Proofs.YtdibaeomepallaaW.PrintMore Go.Proofs.Ytdibaeomepallaa.PAll
set_option linter.unusedVariables false
set_option linter.unusedSimpArgs false
set_option maxRecDepth 100000
def limP (n : Nat) : Pk := ⟨1, 2 + (n : Int) % 14, 1, 1, (n : Int) + 1, 0, ⟨#[]⟩⟩
def limL : Nat → List Pk
  | 0 => []
  | n + 1 => sendL (limP n) (limL n)
theorem limP_ok {n : Nat} (h : n ≤ 1000) : okP (limP n) = true := by
  unfold okP limP
  simp only [Bool.and_eq_true, Bool.or_eq_true, decide_eq_true_eq]
  have : (⟨#[]⟩ : ByteArray).size = 0 := rfl
  rw [this]
  omega
theorem limL_len : ∀ n, n ≤ 1000 → (limL n).length = min n 400 := by
  intro n
  induction n with
  | zero => intro _; rfl
  | succ n ih =>
    intro h
    have ih := ih (by omega)
    unfold limL sendL
    by_cases hc : (limL n).length < 400
    · rw [if_pos ⟨limP_ok (by omega), hc⟩, List.length_append, List.length_singleton]; omega
    · rw [if_neg (fun e => hc e.2)]; omega
theorem limL_mem : ∀ n, ∀ p ∈ limL n, p.f0 = 1 := by
  intro n
  induction n with
  | zero => intro p hp; cases hp
  | succ n ih =>
    intro p hp
    unfold limL sendL at hp
    split at hp
    · rcases List.mem_append.1 hp with hp | hp
      · exact ih p hp
      · rw [List.mem_singleton.1 hp]; rfl
    · exact ih p hp
theorem limL_head : ∀ n, ∃ r, limL (n + 1) = limP 0 :: r := by
  intro n
  induction n with
  | zero => exact ⟨[], by unfold limL sendL; rw [if_pos ⟨limP_ok (Nat.zero_le _), by decide⟩]; rfl⟩
  | succ n ih =>
    obtain ⟨r, hr⟩ := ih
    rw [limL]
    unfold sendL
    split
    · exact ⟨r ++ [limP (n + 1)], by rw [hr]; rfl⟩
    · exact ⟨r, hr⟩
/-- What the net is at the end: of n packets, then one doubled, then node 1's taken away. -/
theorem lim_end {q : List (List Pk)} {n : Nat} (h : NRel q (limL n)) (h1 : 390 ≤ n) (h2 : n ≤ 409) : twiceE q 1 2 0 = (if n < 400 then 0 else 6) ∧ cnt (twiceQ q 1 2 0) ≤ 1000 ∧ clearK (twiceQ q 1 2 0) 1 ≤ 400 ∧ cnt (clearQ (twiceQ q 1 2 0) 1) = 0 := by
  obtain ⟨r, hr⟩ := limL_head (n - 1)
  rw [show n - 1 + 1 = n from by omega] at hr
  have hf : (limL n).filter (hopP 1 2) = limP 0 :: r.filter (hopP 1 2) := by rw [hr, List.filter_cons, if_pos (by rfl)]
  have hb : hopB 1 2 = true := by rfl
  have hrow := h.rowAt hb
  rw [hf] at hrow
  have ht : thereE q 1 2 0 = 0 := by
    unfold thereE
    rw [if_pos hb, hrow, if_neg (by simp)]
  have hl := limL_len n (by omega)
  have hp : (rowAt q 1 2).getD (0 : Int).toNat pk0 = limP 0 := by rw [hrow]; rfl
  have hE := h.sendE (limP 0)
  rw [hl, if_pos (limP_ok (by omega))] at hE
  have hR := h.send (limP 0)
  have hlen : (sendL (limP 0) (limL n)).length ≤ 400 := sendL_le (by omega)
  have hm : ∀ p ∈ sendL (limP 0) (limL n), p.f0 = 1 := by
    intro p hp
    unfold sendL at hp
    split at hp
    · rcases List.mem_append.1 hp with hp | hp
      · exact limL_mem n p hp
      · rw [List.mem_singleton.1 hp]; rfl
    · exact limL_mem n p hp
  unfold twiceE twiceQ
  rw [if_pos ht, if_pos ht, hp]
  have hcl : clearL 1 (sendL (limP 0) (limL n)) = [] := by
    unfold clearL
    rw [List.filter_eq_nil_iff]
    intro p hp
    unfold clearP
    rw [hm p hp]
    simp
  have hC := hR.clear 1
  rw [hcl] at hC
  refine ⟨?_, by rw [hR.cnt]; omega, by have := hC.2; simp at this; omega, by rw [hC.1.cnt]; rfl⟩
  rw [hE]
  by_cases hn : n < 400
  · rw [if_pos hn, if_pos (by omega)]
  · rw [if_neg hn, if_neg (by omega)]
theorem netLimits_walk (a : Int) (w : World) (wf : (Lit.int .i64 a).wf = true) :
    Calls Try.prog 3 #[.int .i64 a] w fun e w' => e = .returned (.bool true) ∧ Below w.heap.size w w' := by
  have hu28 := Try.underlying28
  have hu32 := Try.underlying32
  have t1a : -20 < Int.tmod a 20 := Int.lt_tmod_of_pos a (by omega)
  have t1b : Int.tmod a 20 < 20 := Int.tmod_lt_of_pos a (by omega)
  have t2a : 0 ≤ Int.tmod (Int.tmod a 20 + 20) 20 := Int.tmod_nonneg _ (by omega)
  have t2b : Int.tmod (Int.tmod a 20 + 20) 20 < 20 := Int.tmod_lt_of_pos _ (by omega)
  obtain ⟨m, hm⟩ : ∃ m : Nat, 390 + a.tmod 20 % 20 = (m : Int) := Int.eq_ofNat_of_zero_le (by omega)
  have hm1 : 390 ≤ m ∧ m ≤ 409 := by omega
  obtain ⟨hma, hmb⟩ := hm1
  have HM := Aside0.mk hm
  clear hm
  go_enter Try.func3, Try.ntmps3
  go_wp2_with (first
    | ((with_reducible refine gate_dst (N := 7) rfl ?_); refine goesL_ (some 7) rfl rfl Try.func15 (by kernel_rfl) rfl #[] rfl (by simp) ?_; refine (St.new w _ (Below.refl _ _)).mono ?_; rintro e w10 ⟨rfl, hs⟩; have HS := Aside0.mk (show St w w.heap.size [] q0 a0 w10 from hs); clear hs; refine ⟨_, rfl, ?_⟩)
    | ((with_reducible refine gate_dst (N := 13) rfl ?_); refine goesL_ (some 13) rfl rfl Try.func16 (by kernel_rfl) rfl #[] rfl (by simp) ?_; refine (awake_is _).mono ?_; rintro e w13 ⟨rfl, hb⟩; have HS_ := Aside0.mk (St.bel (by repeat (first | (with_reducible exact HS.out) | apply St.drew | apply St.drewN | apply St.alloc)) hb); clear HS; have HS := HS_; clear HS_; clear hb; refine ⟨_, rfl, ?_⟩)
    )
  rw [HM.out]
  clear t1a t1b t2a t2b HM
  go_loopg [4] m (fun kq v4 w' => ∃ (i : Nat) (q : List (List Pk)), v4 = .int .i64 i ∧ Aside0 (St w w.heap.size [] q a0 w') ∧ Aside0 (NRel q (limL i)) ∧ Aside0 (i + kq = m))
  case atStart => exact ⟨0, q0, rfl, HS, ⟨nrel_new⟩, ⟨by omega⟩⟩
  case round =>
    clear HS
    obtain ⟨i, q, rfl, HS, HR, HK⟩ := hrel
    cases gk with
    | zero =>
      have e : i = m := by have := HK.out; omega
      subst e
      have d1 : decide ((i : Int) < (i : Int)) = false := decide_eq_false (by omega)
      obtain ⟨hE, hc2, hK, hz⟩ := lim_end HR.out hma hmb
      have hc := HR.out.cnt
      rw [limL_len i (by omega)] at hc
      have HC := Aside0.mk (show cnt q ≤ 1000 by omega)
      have HC2 := Aside0.mk hc2
      have HC3 := Aside0.mk (show cnt (clearQ (twiceQ q 1 2 0) 1) ≤ 1000 by omega)
      have HZ := Aside0.mk hz
      have hk : decide ((clearK (twiceQ q 1 2 0) 1 : Int) ≤ 400) = true := decide_eq_true (by omega)
      have HE := Aside0.mk hE
      clear hE hc hc2 hz hK HR
      by_cases h4 : i < 400
      · have d2 : decide ((i : Int) < 400) = true := decide_eq_true (by omega)
        go_wp2_with (first
          | ((with_reducible refine gate_dst (N := 47) rfl ?_); refine goesL_ (some 47) rfl rfl Try.func19 (by kernel_rfl) rfl #[.pointer (some ⟨w.heap.size, 0, none⟩), .agg #[.int .i64 1, .int .i64 2], .int .i64 0] rfl (by first | (simp only [List.map_toArray, List.map_cons, List.map_nil]; rfl) | rfl) ?_; refine (St.twice (w0 := w) (q := q) (ap := a0) (by repeat (first | (with_reducible exact HS.out) | apply St.drew | apply St.drewN | apply St.alloc)) HC.out 1 2 0).mono ?_; rintro e w14 ⟨rfl, hs⟩; rw [HE.out, if_pos h4]; have HS_ := Aside0.mk hs; clear HS; have HS := HS_; clear HS_; clear hs; refine ⟨_, rfl, ?_⟩)
          | ((with_reducible refine gate_dst (N := 49) rfl ?_); refine goesL_ (some 49) rfl rfl Try.func20 (by kernel_rfl) rfl #[.pointer (some ⟨w.heap.size, 0, none⟩), .int .i64 1] rfl (by first | (simp only [List.map_toArray, List.map_cons, List.map_nil]; rfl) | rfl) ?_; refine (St.clear (w0 := w) (q := twiceQ q 1 2 0) (ap := a0) (by repeat (first | (with_reducible exact HS.out) | apply St.drew | apply St.drewN | apply St.alloc)) HC2.out 1).mono ?_; rintro e w15 ⟨rfl, hs⟩; have HS_ := Aside0.mk hs; clear HS; have HS := HS_; clear HS_; clear hs; refine ⟨_, rfl, ?_⟩)
          | ((with_reducible refine gate_dst (N := 60) rfl ?_); refine gate_guard (by rfl) ?_; dsimp only; refine goesL_ (some 60) rfl rfl Try.func21 (by kernel_rfl) rfl #[.pointer (some ⟨w.heap.size, 0, none⟩)] rfl (by first | (simp only [List.map_toArray, List.map_cons, List.map_nil]; rfl) | rfl) ?_; refine (St.count (w0 := w) (q := clearQ (twiceQ q 1 2 0) 1) (ap := a0) (by repeat (first | (with_reducible exact HS.out) | apply St.drew | apply St.drewN | apply St.alloc)) HC3.out).mono ?_; rintro e w16 ⟨rfl, hs⟩; rw [HZ.out]; have HS_ := Aside0.mk hs; clear HS; have HS := HS_; clear HS_; clear hs; refine ⟨_, rfl, ?_⟩))
        go_ret
        exact ⟨rfl, HS.out.below⟩
      · have d2 : decide ((i : Int) < 400) = false := decide_eq_false (by omega)
        go_wp2_with (first
          | ((with_reducible refine gate_dst (N := 47) rfl ?_); refine goesL_ (some 47) rfl rfl Try.func19 (by kernel_rfl) rfl #[.pointer (some ⟨w.heap.size, 0, none⟩), .agg #[.int .i64 1, .int .i64 2], .int .i64 0] rfl (by first | (simp only [List.map_toArray, List.map_cons, List.map_nil]; rfl) | rfl) ?_; refine (St.twice (w0 := w) (q := q) (ap := a0) (by repeat (first | (with_reducible exact HS.out) | apply St.drew | apply St.drewN | apply St.alloc)) HC.out 1 2 0).mono ?_; rintro e w14 ⟨rfl, hs⟩; rw [HE.out, if_neg h4]; have HS_ := Aside0.mk hs; clear HS; have HS := HS_; clear HS_; clear hs; refine ⟨_, rfl, ?_⟩)
          | ((with_reducible refine gate_dst (N := 49) rfl ?_); refine goesL_ (some 49) rfl rfl Try.func20 (by kernel_rfl) rfl #[.pointer (some ⟨w.heap.size, 0, none⟩), .int .i64 1] rfl (by first | (simp only [List.map_toArray, List.map_cons, List.map_nil]; rfl) | rfl) ?_; refine (St.clear (w0 := w) (q := twiceQ q 1 2 0) (ap := a0) (by repeat (first | (with_reducible exact HS.out) | apply St.drew | apply St.drewN | apply St.alloc)) HC2.out 1).mono ?_; rintro e w15 ⟨rfl, hs⟩; have HS_ := Aside0.mk hs; clear HS; have HS := HS_; clear HS_; clear hs; refine ⟨_, rfl, ?_⟩)
          | ((with_reducible refine gate_dst (N := 60) rfl ?_); refine gate_guard (by rfl) ?_; dsimp only; refine goesL_ (some 60) rfl rfl Try.func21 (by kernel_rfl) rfl #[.pointer (some ⟨w.heap.size, 0, none⟩)] rfl (by first | (simp only [List.map_toArray, List.map_cons, List.map_nil]; rfl) | rfl) ?_; refine (St.count (w0 := w) (q := clearQ (twiceQ q 1 2 0) 1) (ap := a0) (by repeat (first | (with_reducible exact HS.out) | apply St.drew | apply St.drewN | apply St.alloc)) HC3.out).mono ?_; rintro e w16 ⟨rfl, hs⟩; rw [HZ.out]; have HS_ := Aside0.mk hs; clear HS; have HS := HS_; clear HS_; clear hs; refine ⟨_, rfl, ?_⟩))
        go_ret
        exact ⟨rfl, HS.out.below⟩
    | succ k1 =>
      have hi : i < m := by have := HK.out; omega
      have d1 : decide ((i : Int) < (m : Int)) = true := decide_eq_true (by omega)
      have hlen := limL_len i (by omega)
      have hE := HR.out.sendE (limP i)
      rw [hlen, if_pos (limP_ok (by omega))] at hE
      have hR := HR.out.send (limP i)
      have hc := HR.out.cnt
      rw [hlen] at hc
      have HR2 := Aside0.mk hR
      have HC := Aside0.mk (show cnt q ≤ 1000 by omega)
      have HE := Aside0.mk hE
      clear hE hR hlen hc HR
      by_cases h4 : i < 400
      · have d2 : decide ((i : Int) < 400) = true := decide_eq_true (by omega)
        go_wp2_with (first
          | ((with_reducible refine gate_dst (N := 30) rfl ?_); refine goesL_ (some 30) rfl rfl Try.func18 (by kernel_rfl) rfl #[.int .i64 1, .int .i64 (2 + (i : Int) % 14), .int .i64 ((i : Int) + 1), .string ⟨#[]⟩] rfl (by first | (simp only [List.map_toArray, List.map_cons, List.map_nil]; rfl) | rfl) ?_; refine (caduceuslaw12_packet.calls 1 (2 + (i : Int) % 14) ((i : Int) + 1) ⟨#[]⟩ 1 (2 + (i : Int) % 14) 1 1 ((i : Int) + 1) 0 ⟨#[]⟩ _ rfl).mono ?_; rintro e w13 ⟨rfl, hb⟩; have HS_ := Aside0.mk (St.bel (by repeat (first | (with_reducible exact HS.out) | apply St.drew | apply St.drewN | apply St.alloc)) hb); clear HS; have HS := HS_; clear HS_; clear hb; refine ⟨_, rfl, ?_⟩)
          | ((with_reducible refine gate_dst (N := 31) rfl ?_); refine goesL_ (some 31) rfl rfl Try.func17 (by kernel_rfl) rfl #[.pointer (some ⟨w.heap.size, 0, none⟩), .agg #[.int .i64 1, .int .i64 (2 + (i : Int) % 14), .int .i64 1, .int .i64 1, .int .i64 ((i : Int) + 1), .int .i64 0, .string ⟨#[]⟩]] rfl (by first | (simp only [List.map_toArray, List.map_cons, List.map_nil]; rfl) | rfl) ?_; refine (St.send (w0 := w) (q := q) (ap := a0) (by repeat (first | (with_reducible exact HS.out) | apply St.drew | apply St.drewN | apply St.alloc)) (limP i) HC.out).mono ?_; rintro e w14 ⟨rfl, hs⟩; rw [HE.out, if_pos (by omega)]; have HS_ := Aside0.mk hs; clear HS; have HS := HS_; clear HS_; clear hs; refine ⟨_, rfl, ?_⟩))
        go_roundg k1
        case measure => omega
        case rel => exact ⟨i + 1, _, by first | rfl | simp, HS, HR2, ⟨by have := HK.out; omega⟩⟩
      · have d2 : decide ((i : Int) < 400) = false := decide_eq_false (by omega)
        go_wp2_with (first
          | ((with_reducible refine gate_dst (N := 30) rfl ?_); refine goesL_ (some 30) rfl rfl Try.func18 (by kernel_rfl) rfl #[.int .i64 1, .int .i64 (2 + (i : Int) % 14), .int .i64 ((i : Int) + 1), .string ⟨#[]⟩] rfl (by first | (simp only [List.map_toArray, List.map_cons, List.map_nil]; rfl) | rfl) ?_; refine (caduceuslaw12_packet.calls 1 (2 + (i : Int) % 14) ((i : Int) + 1) ⟨#[]⟩ 1 (2 + (i : Int) % 14) 1 1 ((i : Int) + 1) 0 ⟨#[]⟩ _ rfl).mono ?_; rintro e w13 ⟨rfl, hb⟩; have HS_ := Aside0.mk (St.bel (by repeat (first | (with_reducible exact HS.out) | apply St.drew | apply St.drewN | apply St.alloc)) hb); clear HS; have HS := HS_; clear HS_; clear hb; refine ⟨_, rfl, ?_⟩)
          | ((with_reducible refine gate_dst (N := 31) rfl ?_); refine goesL_ (some 31) rfl rfl Try.func17 (by kernel_rfl) rfl #[.pointer (some ⟨w.heap.size, 0, none⟩), .agg #[.int .i64 1, .int .i64 (2 + (i : Int) % 14), .int .i64 1, .int .i64 1, .int .i64 ((i : Int) + 1), .int .i64 0, .string ⟨#[]⟩]] rfl (by first | (simp only [List.map_toArray, List.map_cons, List.map_nil]; rfl) | rfl) ?_; refine (St.send (w0 := w) (q := q) (ap := a0) (by repeat (first | (with_reducible exact HS.out) | apply St.drew | apply St.drewN | apply St.alloc)) (limP i) HC.out).mono ?_; rintro e w14 ⟨rfl, hs⟩; rw [HE.out, if_neg (by omega)]; have HS_ := Aside0.mk hs; clear HS; have HS := HS_; clear HS_; clear hs; refine ⟨_, rfl, ?_⟩))
        go_roundg k1
        case measure => omega
        case rel => exact ⟨i + 1, _, by first | rfl | simp, HS, HR2, ⟨by have := HK.out; omega⟩⟩
end Go.Proofs.Ytdibaeomepallaa.NW
