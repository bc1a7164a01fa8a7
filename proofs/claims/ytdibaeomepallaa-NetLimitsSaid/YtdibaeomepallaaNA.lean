/- The net, by hand: Len, Cut, New, Count; rows of the array. -/
import Derived.Test.YtdibaeomepallaaPAllx3
import Derived.Deep.MidRow
namespace Go.Proofs.Ytdibaeomepallaa.NW
open Go.RowKit Go.Proofs.YtdibaeomepallaaW.PrintWords Go.Proofs.YtdibaeomepallaaW.PrintLast Go.Proofs.YtdibaeomepallaaW.PrintMore Go.Proofs.Ytdibaeomepallaa.PAll
set_option linter.unusedVariables false
set_option linter.unusedSimpArgs false
theorem len_yes (g : Nat) (a b : Int) (w : World) (A : Option Addr) (n : Nat) (c : Nat) (ha : 1 ≤ a) (ha2 : a ≤ 15) (hb : 1 ≤ b) (hb2 : b ≤ 15) (hne : a ≠ b) (hc : w.cell? ⟨g, a.toNat * 16 + b.toNat, none⟩ = some (.slice A n c)) : 
    Calls Try.prog 28 #[.pointer (some ⟨g, 0, none⟩), .agg #[.int .i64 a, .int .i64 b]] w fun e w' => e = .returned (.int .i64 n) ∧ Below w.heap.size w w' := by
  have hu32 := Try.underlying32
  have hg := World.block_lt_of_cell? w _ hc
  have hn1 : (a != b) = true := bne_iff_ne.mpr hne
  have hn2 : (!a != b) = false := by rw [hn1]; rfl
  have d1 : decide (a ≤ 15) = true := decide_eq_true ha2
  have d2 : decide (b ≤ 15) = true := decide_eq_true hb2
  have d3 : decide (1 ≤ a) = true := decide_eq_true ha
  have d4 : decide (1 ≤ b) = true := decide_eq_true hb
  have hB := below_alloc (below_alloc (Below.refl w.heap.size w) (Obj.cells #[Value.int IntKind.i64 a, Value.int IntKind.i64 b] 32)) (Obj.cells #[Value.int IntKind.i64 a, Value.int IntKind.i64 b] 32)
  have hc' := (hB.cell hg).trans hc
  have hu117 := Try.underlying117
  have hu113 := Try.underlying113
  have hu112 := Try.underlying112
  go_enter Try.func28, Try.ntmps28
  go_wp2
  go_quiet (fail)
  go_wp2
  go_ret
  exact ⟨rfl, pw_below_drewN hB _⟩
theorem cut_yes (g : Nat) (a b : Int) (w : World) (v : Bool) (ha : 1 ≤ a) (ha2 : a ≤ 15) (hb : 1 ≤ b) (hb2 : b ≤ 15) (hne : a ≠ b) (hc : w.cell? ⟨g, 256 + a.toNat * 16 + b.toNat, none⟩ = some (.bool v)) : 
    Calls Try.prog 29 #[.pointer (some ⟨g, 0, none⟩), .int .i64 a, .int .i64 b] w fun e w' => e = .returned (.bool v) ∧ Below w.heap.size w w' := by
  have hu32 := Try.underlying32
  have hg := World.block_lt_of_cell? w _ hc
  have hn1 : (a != b) = true := bne_iff_ne.mpr hne
  have hn2 : (!a != b) = false := by rw [hn1]; rfl
  have d1 : decide (a ≤ 15) = true := decide_eq_true ha2
  have d2 : decide (b ≤ 15) = true := decide_eq_true hb2
  have d3 : decide (1 ≤ a) = true := decide_eq_true ha
  have d4 : decide (1 ≤ b) = true := decide_eq_true hb
  have hu117 := Try.underlying117
  have hu115 := Try.underlying115
  have hu114 := Try.underlying114
  have hB := below_alloc (Below.refl w.heap.size w) (Obj.cells #[Value.int IntKind.i64 a, Value.int IntKind.i64 b] 32)
  have hc' := (hB.cell hg).trans hc
  go_enter Try.func29, Try.ntmps29
  go_wp2
  go_ret
  exact ⟨rfl, hB⟩
theorem cut_no (g : Nat) (a b : Int) (w : World) (h : ¬ (1 ≤ a ∧ a ≤ 15 ∧ 1 ≤ b ∧ b ≤ 15 ∧ a ≠ b)) : 
    Calls Try.prog 29 #[.pointer (some ⟨g, 0, none⟩), .int .i64 a, .int .i64 b] w fun e w' => e = .returned (.bool false) ∧ Below w.heap.size w w' := by
  have hu32 := Try.underlying32
  have hu117 := Try.underlying117
  have hB := below_alloc (Below.refl w.heap.size w) (Obj.cells #[Value.int IntKind.i64 a, Value.int IntKind.i64 b] 32)
  by_cases h1 : 1 ≤ a
  · by_cases h2 : a ≤ 15
    · by_cases h3 : 1 ≤ b
      · by_cases h4 : b ≤ 15
        · have h5 : a = b := by omega
          subst h5
          have d1 : decide (a ≤ 15) = true := decide_eq_true h2
          have d3 : decide (1 ≤ a) = true := decide_eq_true h1
          have hn1 : (a != a) = false := by simp
          go_enter Try.func29, Try.ntmps29
          go_wp2
          go_ret
          exact ⟨by first | rfl | simp, hB⟩
        · have d1 : decide (a ≤ 15) = true := decide_eq_true h2
          have d3 : decide (1 ≤ a) = true := decide_eq_true h1
          have d4 : decide (1 ≤ b) = true := decide_eq_true h3
          have d2 : decide (b ≤ 15) = false := decide_eq_false h4
          go_enter Try.func29, Try.ntmps29
          go_wp2
          go_ret
          exact ⟨by first | rfl | simp, hB⟩
      · have d1 : decide (a ≤ 15) = true := decide_eq_true h2
        have d3 : decide (1 ≤ a) = true := decide_eq_true h1
        have d4 : decide (1 ≤ b) = false := decide_eq_false h3
        go_enter Try.func29, Try.ntmps29
        go_wp2
        go_ret
        exact ⟨by first | rfl | simp, hB⟩
    · have d1 : decide (a ≤ 15) = false := decide_eq_false h2
      have d3 : decide (1 ≤ a) = true := decide_eq_true h1
      go_enter Try.func29, Try.ntmps29
      go_wp2
      go_ret
      exact ⟨by first | rfl | simp, hB⟩
  · have d3 : decide (1 ≤ a) = false := decide_eq_false h1
    go_enter Try.func29, Try.ntmps29
    go_wp2
    go_ret
    exact ⟨by first | rfl | simp, hB⟩
def zNet : Array Value := Array.replicate 256 (.slice none 0 0) ++ Array.replicate 256 (.bool false)
theorem built_net : Try.prog.built 117 [] = some zNet := by kernel_rfl
theorem one_net : zNet.all (·.oneCell') = true := by kernel_rfl
theorem size_net : zNet.size = 512 := by kernel_rfl
theorem info_net : (Try.prog.info? 117).map (·.size) = some 512 := by kernel_rfl
theorem wpList_build_net {ops : Array Oper} {rest : List Oper} {o : Oper} {a : Act} {w : World} {Q : Exit → Act → World → Prop} (hg : o.guard = none) (ho : o.op = .build 117 #[]) (h : wpList Try.prog ops Q rest (a.put o.dst (.agg zNet)) w) : wpList Try.prog ops Q (o :: rest) a w := by
  have e : Try.prog.built 117 ((#[] : Array (Nat × Operand)).map fun (i, x) => (i, a.eval x)).toList = some zNet := (congrArg (Try.prog.built 117) (by simp)).trans built_net
  refine wpList_build hg 117 #[] ho (by rw [e]; rfl) ?_
  rw [e]
  exact h
theorem run_box_net {a : Act} {o : Oper} {W : World} {x : Operand} (ho : o.op = .box 117 x) (hx : a.eval x = .agg zNet) : (execOp a.eval o).run Try.prog W = .ok (.value (.pointer (some ⟨W.heap.size, 0, none⟩))) (W.alloc (.cells zNet 117 (0, 0))) := by
  unfold execOp
  simp only [ho]
  rw [hx]
  go_simp
theorem new_is (w : World) : Calls Try.prog 15 #[] w fun e w' => e = .returned (.pointer (some ⟨w.heap.size, 0, none⟩)) ∧ Below w.heap.size w w' ∧ w'.heap[w.heap.size]? = some (.cells zNet 117 (0, 0)) := by
  have hu117 := Try.underlying117
  go_enter Try.func15, Try.ntmps15
  go_wp2_with (first | ((with_reducible refine gate_dst (N := 1) rfl ?_); refine wpList_build_net rfl rfl ?_) | ((with_reducible refine gate_dst (N := 2) rfl ?_); refine box_event ?hg (N := 2) ?hd (cs := zNet) (t := 117) ?hr ?_; (case hd => rfl); (case hg => rfl); (case hr => exact run_box_net rfl rfl); intro g hg w1 hbox hb; subst hg))
  go_ret
  exact ⟨rfl, hb, hbox⟩
theorem run_index_rows (w : World) (cs : Array Value) (a : Nat) (ha : a < 16) : (Instr.index 113 (.agg cs) (.int .i64 a)).run Try.prog w = .ok (.agg (cs.extract (a * 16) (a * 16 + 16))) w := by
  have hu113 := Try.underlying113
  have hu112 := Try.underlying112
  have hi : (Try.prog.info? 112).map (·.size) = some 16 := by kernel_rfl
  cases hq : Try.prog.info? 112 with
  | none => simp [hq] at hi
  | some i =>
    have hs : i.size = 16 := by simpa [hq] using hi
    have h2 : (0 : Int) ≤ a ∧ (a : Int) < 16 := by omega
    simp [Instr.index, Sem.run_bind, asIntOf, run_underlying hu113, h2.2, part, isAgg, run_underlying hu112, sizeOf, typeInfo, hq, hs]
    exact fun h => absurd h (by omega)
theorem run_index_row (w : World) (cs : Array Value) (a : Nat) (v : Value) (ha : a < 16) (hv : cs[a]? = some v) : (Instr.index 112 (.agg cs) (.int .i64 a)).run Try.prog w = .ok v w := by
  have hu112 := Try.underlying112
  have hu50 := Try.underlying50
  have hi : (Try.prog.info? 50).map (·.size) = some 1 := by kernel_rfl
  cases hq : Try.prog.info? 50 with
  | none => simp [hq] at hi
  | some i =>
    have hs : i.size = 1 := by simpa [hq] using hi
    have h2 : (0 : Int) ≤ a ∧ (a : Int) < 16 := by omega
    simp [Instr.index, Sem.run_bind, asIntOf, run_underlying hu112, h2.2, part, isAgg, run_underlying hu50, sizeOf, typeInfo, hq, hs, hv]
    exact fun h => absurd h (by omega)
section
variable {ops : Array Oper} {rest : List Oper} {o : Oper} {a : Act} {w : World} {Q : Exit → Act → World → Prop}
theorem wpList_index_rows (hg : o.guard = none) (x i : Operand) (ho : o.op = .index 113 x i) {cs : Array Value} {n : Nat} (hx : a.eval x = .agg cs) (hi : a.eval i = .int .i64 n) (hn : n < 16) (h : wpList Try.prog ops Q rest (a.put o.dst (.agg (cs.extract (n * 16) (n * 16 + 16)))) w) : wpList Try.prog ops Q (o :: rest) a w := by
  refine Kd.event_run hg ?_ h
  unfold execOp
  simp only [ho, hx, hi, Sem.run_bind, run_index_rows w cs n hn, Result.andThen_ok, Sem.run_pure]
theorem wpList_index_row (hg : o.guard = none) (x i : Operand) (ho : o.op = .index 112 x i) {cs : Array Value} {n : Nat} {v : Value} (hx : a.eval x = .agg cs) (hi : a.eval i = .int .i64 n) (hn : n < 16) (hv : cs[n]? = some v) (h : wpList Try.prog ops Q rest (a.put o.dst v) w) : wpList Try.prog ops Q (o :: rest) a w := by
  refine Kd.event_run hg ?_ h
  unfold execOp
  simp only [ho, hx, hi, Sem.run_bind, run_index_row w cs n v hn hv, Result.andThen_ok, Sem.run_pure]
end
theorem below_setRow {B : Nat} {w w1 : World} (h : Below B w w1) {g : Nat} (hg : B ≤ g) (cs : Array Value) : Below B w (w1.setRow g cs) := by
  refine ⟨h.os, h.tape, h.output, ?_, fun k hk => ?_⟩
  · exact Nat.le_trans h.size (by simp [World.setRow])
  · rw [setRow_other w1 g k cs (by omega)]; exact h.block k hk
def lenOf : Value → Nat
  | .slice _ n _ => n
  | _ => 0
/-- The packets of the first n rows. -/
def tot (vs : List Value) (n : Nat) : Nat := ((vs.take n).map lenOf).sum
theorem tot_succ (vs : List Value) (n : Nat) (h : n < vs.length) : tot vs (n + 1) = tot vs n + lenOf vs[n] := by
  unfold tot
  rw [List.take_succ_eq_append_getElem h, List.map_append, List.sum_append]
  simp
theorem tot_mono (vs : List Value) (n : Nat) : tot vs n ≤ tot vs vs.length := by
  unfold tot
  rw [List.take_length]
  conv => rhs; rw [← List.take_append_drop n vs, List.map_append, List.sum_append]
  omega
theorem info_rows : (Try.prog.info? 112).map (·.size) = some 16 := by kernel_rfl
theorem count_is (g : Nat) (w : World) (vs : List Value) (hl : vs.length = 256) (hr : w.rangeAt g 0 vs) (hv : ∀ v ∈ vs, ∃ A n c, v = .slice A n c) (ht : tot vs 256 ≤ 1000) :
    Calls Try.prog 21 #[.pointer (some ⟨g, 0, none⟩)] w fun e w' => e = .returned (.int .i64 (tot vs 256)) ∧ Below w.heap.size w w' := by
  have hu117 := Try.underlying117
  have hu113 := Try.underlying113
  have hu112 := Try.underlying112
  have hi113 : (Try.prog.info? 113).map (·.size) = some vs.length := by rw [hl]; kernel_rfl
  go_enter Try.func21, Try.ntmps21
  go_wp2_with (first | ((with_reducible refine gate_dst (N := 13) rfl ?_); refine wpList_load_mid rfl 113 (.tmp 12) rfl g 0 rfl vs _ hr hu113 rfl hi113 ?_))
  go_loopg [3, 14] 16 (fun kq v3 v14 w' => ∃ a : Nat, v14 = .int .i64 a ∧ v3 = .int .i64 (tot vs (a * 16)) ∧ Aside0 (a + kq = 16) ∧ Aside0 (Below w.heap.size w w'))
  case atStart => exact ⟨0, rfl, rfl, ⟨rfl⟩, ⟨Below.refl _ _⟩⟩
  case round =>
    obtain ⟨a, rfl, rfl, HK, HB⟩ := hrel
    cases gk with
    | zero => 
      have e : a = 16 := by have := HK.out; omega
      subst e
      go_wp2
      go_ret
      exact ⟨rfl, HB.out⟩
    | succ k1 =>
      have ha : a < 16 := by have := HK.out; omega
      have d1 : decide ((a : Int) < 16) = true := decide_eq_true (by omega)
      obtain ⟨rl, hrl⟩ : ∃ rl, rl = (vs.drop (a * 16)).take 16 := ⟨_, rfl⟩
      have hrl' : vs.toArray.extract (a * 16) (a * 16 + 16) = rl.toArray := by rw [hrl]; simp
      have hx : rl.toArray.size = 16 := by simp [hrl, hl]; omega
      have hj : ∀ j, j < 16 → rl[j]? = vs[a * 16 + j]? := by intro j hj; rw [hrl, List.getElem?_take, if_pos hj, List.getElem?_drop]
      have h1 : rl.toArray.all (·.oneCell') = true := by
        rw [List.all_toArray, List.all_eq_true]
        intro v hm
        rw [hrl] at hm
        obtain ⟨A, n, c, rfl⟩ := hv v (List.mem_of_mem_drop (List.mem_of_mem_take hm))
        rfl
      clear hrl
      go_wp2_with (first | ((with_reducible refine gate_dst (N := 16) rfl ?_); refine wpList_index_rows rfl (.tmp 13) (.tmp 14) rfl rfl rfl ha ?_; rw [hrl']) | ((with_reducible refine gate_dst (N := 5) rfl ?_); refine box_event ?hg (N := 5) ?hd (cs := Array.replicate 16 (.slice none 0 0)) (t := 112) ?hr ?_; (case hd => rfl); (case hg => rfl); (case hr => go_simp; rfl); intro g5 hg5 w5 hbox hb) | ((with_reducible refine gate_store (t := 112) (p := 5) rfl ?_); refine wpList_store_row rfl 112 (.tmp 5) (.tmp 16) rfl g5 _ rfl rfl 112 _ hbox (by rw [hx]; exact info_rows) (by rw [hx]; rfl) h1 ?_) | ((with_reducible refine gate_dst (N := 17) rfl ?_); refine wpList_load_row rfl 112 (.tmp 5) rfl g5 rfl 112 _ (0, 0) _ (setRow_heap _ _ _ _ _ _ hbox) hu112 rfl (by rw [hx]; exact info_rows) ?_))
      have HB5 := Aside0.mk (below_setRow (HB.out.trans (hb.mono HB.out.size)) (g := g5) (by rw [hg5]; exact HB.out.size) rl.toArray)
      clear HB
      have HB := HB5
      clear HB5
      go_loopg [3, 18] 16 (fun kq v3 v18 w' => ∃ b : Nat, v18 = .int .i64 b ∧ v3 = .int .i64 (tot vs (a * 16 + b)) ∧ Aside0 (b + kq = 16) ∧ Aside0 (Below w.heap.size w w'))
      case atStart => exact ⟨0, rfl, rfl, ⟨rfl⟩, ⟨by have h := HB.out; rw [hg5] at h; exact h⟩⟩
      case round =>
        obtain ⟨b, rfl, rfl, HKb, HB⟩ := hrel
        cases gk with
        | zero =>
          have e : b = 16 := by have := HKb.out; omega
          subst e
          go_wp2
          go_roundg k1
          case measure => omega
          case rel => exact ⟨a + 1, by first | rfl | simp, by rw [show (a + 1) * 16 = a * 16 + 16 from by omega], ⟨by have := HK.out; omega⟩, HB⟩
        | succ k2 =>
          have hb : b < 16 := by have := HKb.out; omega
          have d2 : decide ((b : Int) < 16) = true := decide_eq_true (by omega)
          have hbl : a * 16 + b < vs.length := by omega
          obtain ⟨A, n, c, hv2⟩ := hv _ (List.getElem_mem hbl)
          have hv3 : rl.toArray[b]? = some (.slice A n c) := by rw [List.getElem?_toArray, hj b hb, List.getElem?_eq_getElem hbl, hv2]
          have hts := tot_succ vs (a * 16 + b) hbl
          have htm := tot_mono vs (a * 16 + b + 1)
          rw [hl] at htm
          rw [hv2] at hts
          have hts2 : tot vs (a * 16 + b + 1) = tot vs (a * 16 + b) + n := hts
          go_wp2_with (first | ((with_reducible refine gate_dst (N := 20) rfl ?_); refine wpList_index_row rfl (.tmp 17) (.tmp 18) rfl rfl rfl hb hv3 ?_))
          go_roundg k2
          case measure => omega
          case rel => exact ⟨b + 1, by first | rfl | simp, by rw [← Nat.add_assoc, hts2, Int.natCast_add], ⟨by have := HKb.out; omega⟩, HB⟩
end Go.Proofs.Ytdibaeomepallaa.NW
