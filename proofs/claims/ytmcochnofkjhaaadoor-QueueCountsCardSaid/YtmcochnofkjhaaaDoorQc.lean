/- A queue in memory; what is given, cloned; New, Len, Room, Over; a nil queue. By hand. -/
import Derived.Test.YtmcochnofkjhaaaDoorQb
namespace Go.Proofs.YtmcochnofkjhaaaDoor.QU
open Go.RowKit Go.Proofs.YtmcochnofkjhaaaDoorW.PrintWords Go.Proofs.YtmcochnofkjhaaaDoorW.PrintLast Go.Proofs.YtmcochnofkjhaaaDoorW.PrintMore Go.Proofs.YtmcochnofkjhaaaDoor.PAll
set_option linter.unusedVariables false
set_option linter.unusedSimpArgs false
set_option maxRecDepth 100000
/-! ### rows of what is given -/
theorem info36p : (Tryd.prog.info? 36).map (fun i => (i.zero, i.size, i.bytes)) = some (some (.agg #[.int .i64 0, .string ⟨#[]⟩, .int .i64 0, .int .i64 0, .int .i64 0, .string ⟨#[]⟩, .slice none 0 0]), k36.sz, 88) := by kernel_rfl
theorem info36s : (Tryd.prog.info? 36).map (·.size) = some 7 := by kernel_rfl
theorem info68s : (Tryd.prog.info? 68).map (·.size) = some 3 := by kernel_rfl
theorem k36_types {t : Nat} (h1 : 36 ≠ t) (h2 : 87 ≠ t) : ∀ q, q ∈ (36 : Nat) :: k36.E → q ≠ t := by
  intro q hq
  have : q = 36 ∨ q = 87 := by simpa [k36, k33, k30, k87, k85, Kd.iso, Kd.pair, Kd.slice, Kd.int, Kd.string, Kd.scalar] using hq
  rcases this with rfl | rfl
  · exact h1
  · exact h2
/-- Elements one behind the other, their rows in ok. -/
def GRow (w : World) (ok : Nat → Prop) (A : Option Addr) (n : Nat) (xs : List S36) : Prop := ReadsRow (k36.M w 0 ok) 7 w A n xs
theorem GRow.of_R {w : World} {ok : Nat → Prop} {A : Option Addr} {n c : Nat} {xs : List S36} (h : k36.R 36 w 0 ok (.slice A n c) xs) : n = xs.length ∧ n ≤ c ∧ GRow w ok A xs.length xs := by
  obtain ⟨A', c', e, hc, hr⟩ := h.2.reads
  injection e with e1 e2 e3
  subst e1 e2 e3
  exact ⟨rfl, hc, hr.1, hr.2.1, fun hn => by
    obtain ⟨ad, e, hcell⟩ := hr.2.2 hn
    exact ⟨ad, e, fun j p hp => by
      obtain ⟨cs, a, b, c⟩ := hcell j p hp
      exact ⟨cs, a, k36.M_mono (fun k hk => hk.1) b, c⟩⟩⟩
theorem GRow.C {w : World} {ok : Nat → Prop} {A : Option Addr} {n : Nat} {xs : List S36} (h : GRow w ok A n xs) : k36.C w A n xs :=
  ⟨h.1, h.2.1, fun hn => by
    obtain ⟨ad, e, hcell⟩ := h.2.2 hn
    exact ⟨ad, e, fun j p hp => by
      obtain ⟨cs, a, b, c⟩ := hcell j p hp
      exact ⟨cs, a, k36.K_of_M b, c⟩⟩⟩
theorem GRow.take {w : World} {ok : Nat → Prop} {A : Option Addr} {xs : List S36} {m : Nat} (h : GRow w ok A xs.length xs) (hm : m ≤ xs.length) : GRow w ok A (xs.take m).length (xs.take m) := by
  have hl : (xs.take m).length = m := by rw [List.length_take]; omega
  refine ⟨rfl, by rw [hl]; have := h.2.1; omega, fun hp => ?_⟩
  obtain ⟨ad, e, hc⟩ := h.2.2 (by omega)
  refine ⟨ad, e, fun j p hj => hc j p ?_⟩
  rw [List.getElem?_take] at hj
  split at hj
  · exact hj
  · cases hj
theorem GRow.drop {w : World} {ok : Nat → Prop} {A : Option Addr} {xs : List S36} {m c : Nat} (h : GRow w ok A xs.length xs) (hm : m ≤ xs.length) (hc : xs.length ≤ c) : GRow w ok (if c = m then A else A.map (·.add (m * 7))) (xs.drop m).length (xs.drop m) := by
  have hl : (xs.drop m).length = xs.length - m := List.length_drop
  refine ⟨rfl, by rw [hl]; have := h.2.1; omega, fun hp => ?_⟩
  rw [hl] at hp
  obtain ⟨ad, rfl, hcell⟩ := h.2.2 (by omega)
  rw [if_neg (by omega)]
  refine ⟨ad.add (m * 7), rfl, fun j p hj => ?_⟩
  rw [List.getElem?_drop] at hj
  obtain ⟨cs, h1, h2, h3⟩ := hcell (m + j) p hj
  refine ⟨cs, h1, h2, fun i u hu => ?_⟩
  rw [add_add, show m * 7 + (j * 7 + i) = (m + j) * 7 + i by rw [Nat.add_mul]; omega]
  exact h3 i u hu
theorem GRow.below {w w' : World} {ok : Nat → Prop} {A : Option Addr} {n : Nat} {xs : List S36} (h : GRow w ok A n xs) (hb : Below w.heap.size w w') : GRow w' ok A n xs :=
  ReadsRow.imp_ h hb (fun p c hp => Kd.M_step hp (fun k _ hlt => hb.block k hlt))
theorem R_lit1 {α : Type} (d : Kd α) (e : Nat) (w : World) (ok : Nat → Prop) (h : ok w.heap.size) : d.R e (w.alloc (.cells #[] e)) 0 ok (.slice (some ⟨w.heap.size, 0, none⟩) 0 0) [] := by
  refine ⟨fun k hk => ?_, [], ?_, Reps.none _ _⟩
  · have : w.heap.size = k := by simpa [Value.ownBlock] using hk
    exact this ▸ h
  · have h2 := World.ownsRow_lit (base := 0) (e := e) (size := d.sz) w #[] 0 (Nat.zero_le _) (by decide) (by simp)
    simpa using h2
theorem own_lit (b : Nat) {k : Nat} (h : (Value.slice (some ⟨b, 0, none⟩) 0 0).ownBlock = some k) : b = k := by simpa [Value.ownBlock] using h
set_option maxHeartbeats 4000000 in
theorem cloneG_is {w : World} {ok : Nat → Prop} {A : Option Addr} {n c : Nat} {xs : List S36} (hr : GRow w ok A xs.length xs) (hc : xs.length ≤ c) (hl : xs.length ≤ 100000) (hn : xs.length = n) :
    Calls Tryd.prog 27 #[.slice A n c] w fun e w' => ∃ v, e = .returned v ∧ k36.R 36 w' 0 (fun k => ok k ∨ w.heap.size ≤ k) v xs ∧ (∀ k, v.ownBlock = some k → w.heap.size ≤ k) ∧ Below w.heap.size w w' := by
  subst hn
  have hu36 := Tryd.underlying36
  have hnil := fun (W : World) (A : Option Addr) (n : Nat) => Lib.run_eql_slice_nil W 37 36 A n c 0 0 Tryd.underlying37
  have HR := Aside0.mk hr
  have HL := Aside0.mk hl
  clear hr hl
  cases A with
  | none =>
    obtain rfl : xs = [] := C_none_nil HR.out.C
    go_enter Tryd.func27, Tryd.ntmps27
    go_wp2
    go_ret
    exact ⟨_, rfl, Kd.R_nil _ _ _ _ _, fun k hk => by simp [Value.ownBlock] at hk, Below.refl _ _⟩
  | some ad =>
    have HO := Aside0.mk (R_lit1 k36 36 w (fun k => ok k ∨ w.heap.size ≤ k) (.inr (Nat.le_refl _)))
    have HB1 := Aside0.mk (below_alloc (Below.refl w.heap.size w) (.cells #[] 36))
    go_enter Tryd.func27, Tryd.ntmps27
    go_wp2_with ((with_reducible refine gate_builtin (b := .append) (xs := #[.tmp 5, .tmp 6]) rfl ?_); at_builtin; refine Kd.R_append_rows k36 (Rr := k36.M w 0 (fun k => ok k ∧ k < w.heap.size)) (w0 := w.alloc (.cells #[] 36)) 0 rfl (.tmp 5) (.tmp 6) 37 36 _ 88 rfl Tryd.underlying37 info36p rfl (by decide) (by omega) _ [] xs _ _ _ (fun k => ok k ∨ w.heap.size ≤ k) (fun k => ok k ∧ k < w.heap.size) rfl rfl HO.out ?rowR ?mM ?okp (fun k hk => .inr (Nat.le_trans HB1.out.size hk)) (Below.refl 0 _) (Nat.zero_le _) (by have := HL.out; simp; omega) ?_; (case rowR => exact ReadsRow.imp_ HR.out HB1.out (fun x cs hp => k36.M_mono (fun k hk => ⟨hk.1, hk.2.2.1⟩) (k36.M_bound hp))); (case mM => intro x cs hp; exact Kd.M_alloc hp _); (case okp => intro k hk; exact ⟨.inl hk.1, fun e => by have := own_lit _ e.symm; have := hk.2; omega⟩); intro v1 w1 h1 h2 h3 h4; have HV := Aside0.mk h1; have HB2 := Aside0.mk h3; have HA2 := Aside0.mk h4; clear h1 h2 h3 h4)
    go_ret
    refine ⟨v1, rfl, by simpa using HV.out, fun k hk => ?_, ?_⟩
    · rcases HA2.out with e | ⟨b, e, hb⟩
      · rw [e] at hk
        have := own_lit _ hk
        omega
      · rw [e] at hk
        injection hk with hk
        have : w.heap.size + 1 ≤ b := by simpa using hb
        omega
    · exact Mods.below (F := fun _ => False) ((Mods.alloc (Mods.refl _ w) _).grown HB2.out (fun k hk => .inr (by have := own_lit _ hk; omega))) (Nat.le_refl _) (fun _ h => h.elim)
end Go.Proofs.YtmcochnofkjhaaaDoor.QU
