/- The net's contracts, each for all arguments: what a method answers, and which net it leaves. -/
import Derived.Test.YtdibaeomepallaaNK
namespace Go.Proofs.Ytdibaeomepallaa.NW
open Go.RowKit Go.Proofs.YtdibaeomepallaaW.PrintWords Go.Proofs.YtdibaeomepallaaW.PrintLast Go.Proofs.YtdibaeomepallaaW.PrintMore Go.Proofs.Ytdibaeomepallaa.PAll
set_option linter.unusedVariables false
set_option linter.unusedSimpArgs false
set_option maxRecDepth 100000
def thereE (q : List (List Pk)) (a b i : Int) : Int := if hopB a b = true then (if i < 0 ∨ ((rowAt q a b).length : Int) ≤ i then 4 else 0) else 1
def cutB (ap : List Bool) (a b : Int) : Bool := hopB a b && ap.getD (at2 a b) false
/-- The rows without a packet. -/
def delQ (q : List (List Pk)) (a b i : Int) : List (List Pk) := q.set (at2 a b) ((rowAt q a b).eraseIdx i.toNat)
def takeE (q : List (List Pk)) (ap : List Bool) (a b i : Int) : Int := if thereE q a b i = 0 then (if cutB ap a b = true then 12 else 0) else thereE q a b i
def takeP (q : List (List Pk)) (ap : List Bool) (a b i : Int) : Pk := if takeE q ap a b i = 0 then (rowAt q a b).getD i.toNat pk0 else pk0
def takeQ (q : List (List Pk)) (ap : List Bool) (a b i : Int) : List (List Pk) := if takeE q ap a b i = 0 then delQ q a b i else q
def loseQ (q : List (List Pk)) (a b i : Int) : List (List Pk) := if thereE q a b i = 0 then delQ q a b i else q
def twiceE (q : List (List Pk)) (a b i : Int) : Int := if thereE q a b i = 0 then sendE ((rowAt q a b).getD i.toNat pk0) q else thereE q a b i
def twiceQ (q : List (List Pk)) (a b i : Int) : List (List Pk) := if thereE q a b i = 0 then sendQ ((rowAt q a b).getD i.toNat pk0) q else q
def apartE (a b : Int) : Int := if hopB a b = true then 0 else 1
def apartA (ap : List Bool) (a b : Int) (on : Bool) : List Bool := if hopB a b = true then (ap.set (at2 a b) on).set (at2 b a) on else ap
def clearK (q : List (List Pk)) (of : Int) : Nat := if 1 ≤ of ∧ of ≤ 15 then clrK q of.toNat 16 else 0
def clearQ (q : List (List Pk)) (of : Int) : List (List Pk) := if 1 ≤ of ∧ of ≤ 15 then clrQ q of.toNat 16 else q
section
variable {w : World} {F : Nat → Prop} {g : Nat} {q : List (List Pk)} {ap : List Bool}
theorem short_of_cnt (hc : cnt q ≤ 1000) : Short q := fun i xs h => Nat.le_trans (cnt_row h) hc
theorem rowAt_short (hc : cnt q ≤ 1000) (a b : Int) : (rowAt q a b).length ≤ 1000 := by
  unfold rowAt
  split
  · rw [List.getD_eq_getElem?_getD]
    cases h : q[at2 a b]? with
    | none => simp
    | some xs => exact short_of_cnt hc _ _ h
  · simp
theorem NetW.gF (h : NetW w F g q ap) : F g := by
  obtain ⟨_, _, h⟩ := h
  exact h.1
theorem there_is (h : NetW w F g q ap) (a b i : Int) : Calls Try.prog 60 #[.pointer (some ⟨g, 0, none⟩), .agg #[.int .i64 a, .int .i64 b], .int .i64 i] w fun e w' => e = .returned (.int .i64 (thereE q a b i)) ∧ Below w.heap.size w w' := by
  unfold thereE
  cases hb : hopB a b with
  | false => exact there_bad g a b i (by rw [is_is, hb])
  | true =>
    obtain ⟨h1, h2, h3⟩ := hopB_iff.1 hb
    exact there_yes h a b i h1.1 h1.2 h2.1 h2.2 h3 (h.row hb)
theorem cut_is (h : NetW w F g q ap) (a b : Int) : Calls Try.prog 29 #[.pointer (some ⟨g, 0, none⟩), .int .i64 a, .int .i64 b] w fun e w' => e = .returned (.bool (cutB ap a b)) ∧ Below w.heap.size w w' := by
  unfold cutB
  cases hb : hopB a b with
  | false => exact cut_no g a b w (fun e => by have := hopB_iff.2 ⟨⟨e.1, e.2.1⟩, ⟨e.2.2.1, e.2.2.2.1⟩, e.2.2.2.2⟩; rw [hb] at this; cases this)
  | true =>
    obtain ⟨h1, h2, h3⟩ := hopB_iff.1 hb
    have hx := h.bool hb
    obtain ⟨vs, h, _⟩ := h
    have hc := h.bool hx
    rw [← Nat.add_assoc] at hc
    exact cut_yes g a b w _ h1.1 h1.2 h2.1 h2.2 h3 hc
theorem packet_at (h : NetW w F g q ap) {a b i : Int} (ht : thereE q a b i = 0) : hopB a b = true ∧ ∃ n : Nat, i = n ∧ n < (rowAt q a b).length ∧ (rowAt q a b)[n]? = some ((rowAt q a b).getD i.toNat pk0) := by
  unfold thereE at ht
  cases hb : hopB a b with
  | false => rw [hb] at ht; cases ht
  | true =>
    rw [hb, if_pos rfl] at ht
    split at ht
    · cases ht
    · rename_i hi
      obtain ⟨n, rfl⟩ := Int.eq_ofNat_of_zero_le (show 0 ≤ i by omega)
      refine ⟨rfl, n, rfl, by omega, ?_⟩
      rw [List.getD_eq_getElem?_getD, Int.toNat_natCast, List.getElem?_eq_getElem (by omega)]
      rfl
theorem there_ne {a b i : Int} (ht : ¬ thereE q a b i = 0) : thereE q a b i ≠ 0 := ht
theorem take_is (h : NetW w F g q ap) (hc : cnt q ≤ 1000) (a b i : Int) : Calls Try.prog 24 #[.pointer (some ⟨g, 0, none⟩), .agg #[.int .i64 a, .int .i64 b], .int .i64 i] w fun e w' => e = .returned (.tuple #[pkV (takeP q ap a b i), .int .i64 (takeE q ap a b i)]) ∧ NetW w' (grow F w w') g (takeQ q ap a b i) ap ∧ Mods F w w' := by
  by_cases ht : thereE q a b i = 0
  · obtain ⟨hb, n, rfl, hn, hp⟩ := packet_at h ht
    obtain ⟨h1, h2, h3⟩ := hopB_iff.1 hb
    have hgF := h.gF
    have key := take_ok h a b n (ap.getD (at2 a b) false) h1.1 h1.2 h2.1 h2.2 h3 (h.row hb) hp (rowAt_short hc a b) (h.bool hb)
    refine key.mono fun e w' ⟨he, hn, hm⟩ => ⟨?_, ?_, hm.mono (fun k _ hk => by subst hk; exact hgF)⟩
    · rw [he]
      unfold takeP takeE cutB
      rw [if_pos ht, hb, Bool.true_and]
      cases ap.getD (at2 a b) false <;> rfl
    · unfold takeQ takeE cutB
      rw [if_pos ht, hb, Bool.true_and]
      cases hx : ap.getD (at2 a b) false with
      | true => rw [hx] at hn; exact hn
      | false => rw [hx] at hn; exact hn
  · have key := take_err (w := w) (F := F) (g := g) a b i _ ht (fun w1 hb => there_is (h.below hb) a b i)
    refine key.mono fun e w' ⟨he, hb⟩ => ⟨?_, ?_, Mods.of_below hb⟩
    · unfold takeP takeE
      rw [if_neg ht, if_neg ht]
      exact he
    · unfold takeQ takeE
      rw [if_neg ht, if_neg ht]
      exact h.grow hb
theorem lose_is (h : NetW w F g q ap) (hc : cnt q ≤ 1000) (a b i : Int) : Calls Try.prog 31 #[.pointer (some ⟨g, 0, none⟩), .agg #[.int .i64 a, .int .i64 b], .int .i64 i] w fun e w' => e = .returned (.int .i64 (thereE q a b i)) ∧ NetW w' (grow F w w') g (loseQ q a b i) ap ∧ Mods F w w' := by
  unfold loseQ
  by_cases ht : thereE q a b i = 0
  · rw [if_pos ht, ht]
    obtain ⟨hb, n, rfl, hn, hp⟩ := packet_at h ht
    obtain ⟨h1, h2, h3⟩ := hopB_iff.1 hb
    have hgF := h.gF
    exact (lose_ok h a b n h1.1 h1.2 h2.1 h2.2 h3 (h.row hb) hp (rowAt_short hc a b)).mono fun e w' ⟨he, hn, hm⟩ => ⟨he, hn, hm.mono (fun k _ hk => by subst hk; exact hgF)⟩
  · rw [if_neg ht]
    exact (lose_err (w := w) (F := F) (g := g) a b i _ ht (fun w1 hb => there_is (h.below hb) a b i)).mono fun e w' ⟨he, hb⟩ => ⟨he, h.grow hb, Mods.of_below hb⟩
theorem twice_is (h : NetW w F g q ap) (hc : cnt q ≤ 1000) (a b i : Int) : Calls Try.prog 19 #[.pointer (some ⟨g, 0, none⟩), .agg #[.int .i64 a, .int .i64 b], .int .i64 i] w fun e w' => e = .returned (.int .i64 (twiceE q a b i)) ∧ NetW w' (grow F w w') g (twiceQ q a b i) ap ∧ Mods F w w' := by
  unfold twiceQ twiceE
  by_cases ht : thereE q a b i = 0
  · rw [if_pos ht, if_pos ht]
    obtain ⟨hb, n, rfl, hn, hp⟩ := packet_at h ht
    obtain ⟨h1, h2, h3⟩ := hopB_iff.1 hb
    refine twice_ok h a b n h1.1 h1.2 h2.1 h2.2 h3 (h.row hb) hp _ ?_ (fun e w1 hq => ⟨_, hq.1⟩)
    intro w1 hn1 hb1
    exact (send_is _ hn1 hc).mono fun e w' ⟨he, hn, hm⟩ => ⟨he, hn.mono (fun k _ hk => hk.elim .inl (fun e => .inr ⟨Nat.le_trans hb1.size e.1, e.2⟩)), Mods.after_below hb1 hm⟩
  · rw [if_neg ht, if_neg ht]
    exact (twice_err (w := w) (F := F) (g := g) a b i _ ht (fun w1 hb => there_is (h.below hb) a b i)).mono fun e w' ⟨he, hb⟩ => ⟨he, h.grow hb, Mods.of_below hb⟩
theorem apart_is (h : NetW w F g q ap) (a b : Int) (on : Bool) : Calls Try.prog 32 #[.pointer (some ⟨g, 0, none⟩), .int .i64 a, .int .i64 b, .bool on] w fun e w' => e = .returned (.int .i64 (apartE a b)) ∧ NetW w' (grow F w w') g q (apartA ap a b on) ∧ Mods F w w' := by
  unfold apartE apartA
  cases hb : hopB a b with
  | false => exact (apart_bad g a b on (by rw [is_is, hb])).mono fun e w' ⟨he, hb⟩ => ⟨he, h.grow hb, Mods.of_below hb⟩
  | true =>
    obtain ⟨h1, h2, h3⟩ := hopB_iff.1 hb
    have hgF := h.gF
    exact (apart_ok h a b on h1.1 h1.2 h2.1 h2.2 h3).mono fun e w' ⟨he, hn, hm⟩ => ⟨he, hn, hm.mono (fun k _ hk => by subst hk; exact hgF)⟩
theorem clear_bad (w : World) (g : Nat) (of : Int) (hn : net_node.f of = some false) : Calls Try.prog 20 #[.pointer (some ⟨g, 0, none⟩), .int .i64 of] w fun e w' => e = .returned (.int .i64 0) ∧ Below w.heap.size w w' := by
  go_enter Try.func20, Try.ntmps20
  go_wp2_with ((with_reducible refine gate_callee (f := 61) rfl ?_); refine gate_guard (by rfl) ?_; dsimp only; refine goesL_ (some 11) rfl rfl Try.func61 (by kernel_rfl) rfl #[.int .i64 of] rfl (by (try simp only [List.map_toArray, List.map_cons, List.map_nil]); rfl) ?_; refine (net_node.calls of false _ hn).mono ?_; rintro e w11 ⟨rfl, hd11⟩; have hb11 := hd11.below; clear hd11; refine ⟨_, rfl, ?_⟩)
  go_ret
  exact ⟨rfl, hb11⟩
theorem clear_is (h : NetW w F g q ap) (hc : cnt q ≤ 1000) (of : Int) : Calls Try.prog 20 #[.pointer (some ⟨g, 0, none⟩), .int .i64 of] w fun e w' => e = .returned (.int .i64 (clearK q of)) ∧ NetW w' (grow F w w') g (clearQ q of) ap ∧ Mods F w w' := by
  unfold clearK clearQ
  by_cases ho : 1 ≤ of ∧ of ≤ 15
  · rw [if_pos ho, if_pos ho]
    obtain ⟨n, rfl⟩ := Int.eq_ofNat_of_zero_le (show 0 ≤ of by omega)
    have hgF := h.gF
    exact (clear_ok h n (by omega) (by omega) (short_of_cnt hc)).mono fun e w' ⟨he, hn, hm⟩ => ⟨he, hn.mono (fun k _ hk => .inl hk), hm.mono (fun k _ hk => by subst hk; exact hgF)⟩
  · rw [if_neg ho, if_neg ho]
    exact (clear_bad w g of (by rw [node_is, decide_eq_false ho])).mono fun e w' ⟨he, hb⟩ => ⟨he, h.grow hb, Mods.of_below hb⟩
theorem zNet_is : zNet = (List.replicate 256 (Value.slice none 0 0) ++ (List.replicate 256 false).map Value.bool).toArray := by
  unfold zNet
  rw [List.map_replicate, ← List.toArray_replicate, ← List.toArray_replicate, List.append_toArray]
/-- A new net: all its blocks are new. -/
theorem new_net (w : World) : Calls Try.prog 15 #[] w fun e w' => e = .returned (.pointer (some ⟨w.heap.size, 0, none⟩)) ∧ NetW w' (fun k => w.heap.size ≤ k ∧ k < w'.heap.size) w.heap.size (List.replicate 256 []) (List.replicate 256 false) ∧ Below w.heap.size w w' := by
  refine (new_is w).mono fun e w' ⟨he, hb, hk⟩ => ⟨he, ⟨List.replicate 256 (.slice none 0 0), ⟨?_, by simp, by simp, by simp, ?_, ?_⟩, ⟨Nat.le_refl _, (Array.getElem?_eq_some_iff.1 hk).1⟩, ?_⟩, hb⟩
  · rw [hk, zNet_is]
  · intro i v xs hv hq
    have h1 := List.mem_of_getElem? hv
    have h2 := List.mem_of_getElem? hq
    rw [List.mem_replicate] at h1 h2
    rw [h1.2, h2.2]
    exact row_nil0 w'
  · intro i j u v _ hu hv k hk
    have h1 := List.mem_of_getElem? hu
    rw [List.mem_replicate] at h1
    rw [h1.2] at hk
    cases hk
  · intro i v hv k hk
    have h1 := List.mem_of_getElem? hv
    rw [List.mem_replicate] at h1
    rw [h1.2] at hk
    cases hk
end
end Go.Proofs.Ytdibaeomepallaa.NW
