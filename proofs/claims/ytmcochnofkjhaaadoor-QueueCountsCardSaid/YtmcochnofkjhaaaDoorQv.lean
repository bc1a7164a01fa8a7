/- DeleteFunc, the walk where something is found. By hand. -/
import Derived.Test.YtmcochnofkjhaaaDoorQu
namespace Go.Proofs.YtmcochnofkjhaaaDoor.QU
open Go.RowKit Go.Proofs.YtmcochnofkjhaaaDoorW.PrintWords Go.Proofs.YtmcochnofkjhaaaDoorW.PrintLast Go.Proofs.YtmcochnofkjhaaaDoorW.PrintMore Go.Proofs.YtmcochnofkjhaaaDoor.PAll
set_option linter.unusedVariables false
set_option linter.unusedSimpArgs false
set_option maxRecDepth 100000
/-- An element of a row of its own, cell by cell. -/
theorem elem36 {W : World} {ok : Nat → Prop} {b n cap : Nat} {xs : List S36} (h : k36.R 36 W 0 ok (.slice (some ⟨b, 0, none⟩) n cap) xs) (j : Nat) (hj : j < xs.length) :
    ∃ A6 c6, W.cell? ⟨b, j * 7, none⟩ = some (.int .i64 (rd_T36 xs j).f0) ∧ W.cell? ⟨b, j * 7 + 1, none⟩ = some (.string (rd_T36 xs j).f1) ∧ W.cell? ⟨b, j * 7 + 2, none⟩ = some (.int .i64 (rd_T36 xs j).f2.f0.f0) ∧ W.cell? ⟨b, j * 7 + 3, none⟩ = some (.int .i64 (rd_T36 xs j).f2.f0.f1) ∧ W.cell? ⟨b, j * 7 + 4, none⟩ = some (.int .i64 (rd_T36 xs j).f2.f0.f2) ∧ W.cell? ⟨b, j * 7 + 5, none⟩ = some (.string (rd_T36 xs j).f2.f1) ∧ W.cell? ⟨b, j * 7 + 6, none⟩ = some (.slice A6 (rd_T36 xs j).f2.f2.length c6) ∧ k87.R 87 W 0 (fun k => ok k ∧ k ≠ b) (.slice A6 (rd_T36 xs j).f2.f2.length c6) (rd_T36 xs j).f2.f2 := by
  have hn := (Kd.R_reads' h).1
  obtain ⟨c, hcl, hM, hc, hf⟩ := Kd.R_elem h z36 (j : Int) (by omega) (by omega)
  obtain ⟨v6, rfl, g6⟩ := k36_openM hM
  obtain ⟨A6, c6, rfl⟩ := Kd.R_slice g6
  rw [Int.toNat_natCast] at hc
  exact ⟨A6, c6, hc 0 _ rfl, hc 1 _ rfl, hc 2 _ rfl, hc 3 _ rfl, hc 4 _ rfl, hc 5 _ rfl, hc 6 _ rfl, g6⟩
theorem cells36 {W : World} {ok : Nat → Prop} {b n cap : Nat} {xs : List S36} (h : k36.R 36 W 0 ok (.slice (some ⟨b, 0, none⟩) n cap) xs) : ∃ cur : Array Value, W.heap[b]? = some (.cells cur 36 (0, 0)) ∧ cur.size = cap * 7 := by
  obtain ⟨_, inner, ho, _⟩ := h
  obtain ⟨_, ho2⟩ := ho
  rcases ho2 with ⟨hv, _⟩ | ⟨g', cap', cur, hv, hb, hh, hnc', hcm, hcs, ht⟩
  · cases hv
  injection hv with ha _ hc
  injection ha with ha
  injection ha with hg
  subst hg; subst hc
  exact ⟨cur, hh, hcs⟩
theorem clearL_ {P : Program} {ops : Array Oper} {rest : List Oper} {o : Oper} {a : Act} {W w1 : World} {Q : Exit → Act → World → Prop} {t : TypeId} {s : Operand} {v v' : Value} (hgd : o.guard = none) (hN : o.dst = none) (ho : o.op = .call { callee := .builtin .clear, args := #[s], argTypes := #[t] }) (hs : a.eval s = v)
    (hr : (Builtin.clear_ #[t] o.type #[v]).run P W = .ok v' w1) (h : wpList P ops Q rest a w1) : wpList P ops Q (o :: rest) a W := by
  refine wpList_plain hgd fun K hK => ?_
  unfold Oper.wp
  have hrun : (execOp a.eval o).run P W = .ok (.value v') w1 := by
    unfold execOp
    simp only [ho, resolve, invoke, builtin, Sem.run_bind, Sem.run_pure, Result.andThen_ok, List.map_toArray, List.map_cons, List.map_nil, hs, hr]
  rw [hrun]
  refine hK _ _ ?_
  rw [hN]
  exact h
theorem zero36 (w : World) : (zeroValue 36).run Tryd.prog w = .ok (.agg #[.int .i64 0, .string ⟨#[]⟩, .int .i64 0, .int .i64 0, .int .i64 0, .string ⟨#[]⟩, .slice none 0 0]) w := by
  with_unfolding_all rfl
theorem zero36_one {n : Nat} : ∀ v ∈ (Builtin.zeroCells (Value.agg #[.int .i64 0, .string ⟨#[]⟩, .int .i64 0, .int .i64 0, .int .i64 0, .string ⟨#[]⟩, .slice none 0 0]).cells n).toList, v.oneCell' = true := by
  intro v hv
  simp only [Builtin.zeroCells, Array.toList_map, List.mem_map] at hv
  obtain ⟨i, _, rfl⟩ := hv
  simp only [Value.cells]
  have h : i % 7 < 7 := Nat.mod_lt _ (by decide)
  show ((#[.int .i64 0, .string ⟨#[]⟩, .int .i64 0, .int .i64 0, .int .i64 0, .string ⟨#[]⟩, .slice none 0 0] : Array Value)[i % 7]!).oneCell' = true
  generalize i % 7 = m at h
  rcases m with _ | _ | _ | _ | _ | _ | _ | m
  all_goals first | rfl | omega
theorem mods_cells {F : Nat → Prop} {a b : World} (h : Mods F a b) {g : Nat} (hg : F g ∨ a.heap.size ≤ g) (o : Nat) (zs : List Value) : Mods F a (b.setCells g o zs) := by
  obtain ⟨h1, h2, h3, h4⟩ := setCells_same g zs o b
  refine h.trans (G := fun k => k = g) ⟨h1, h2, h3, by rw [h4]; exact Nat.le_refl _, fun k _ e => setCells_far zs o k e⟩ (fun i hi e => by subst e; exact hg.elim id (fun e => absurd e (by omega)))
set_option maxHeartbeats 8000000 in
theorem deleteFunc_some (fid : Nat) (caps : Array Value) (fn : Func) (hfn : Tryd.prog.funcs[fid]? = some fn) (hname : (fn.name == "runtime.NumGoroutine") = false) (hbody : fn.body.isSome = true) (p : S36 → Bool) {b : Nat} {c : Nat} {l : List S36} {w : World} {ok : Nat → Prop} (hr : k36.R 36 w 0 ok (.slice (some ⟨b, 0, none⟩) l.length c) l) (hl : l.length ≤ 100) {n : Nat} (hi : idxF p l 0 = n) (hn : n < l.length) (hd : DelI p l l n (n + 1))
    (hf : ∀ (W : World) (x : S36) (A : Option Addr) (c : Nat), Mods (fun k => k = b) w W → Calls Tryd.prog fid (#[.agg (gc x (.slice A x.f2.f2.length c))] ++ caps) W fun e W' => e = .returned (.bool (p x)) ∧ Below W.heap.size W W') :
    Calls Tryd.prog 28 #[.slice (some ⟨b, 0, none⟩) l.length c, .func (.func fid) #[] caps] w (DelOut w (.slice (some ⟨b, 0, none⟩) l.length c) l p ok) := by
  have hu36 := Tryd.underlying36
  have hu33 := Tryd.underlying33
  have hu30 := Tryd.underlying30
  have HR := Aside0.mk hr
  have HD := Aside0.mk hd
  have HFN := Aside0.mk (And.intro hfn (And.intro hname hbody))
  have HF := Aside0.mk hf
  have hcl := (Kd.R_reads' hr).2.1
  have hx := (indexFunc_plain fid caps fn hfn hname hbody p (some ⟨b, 0, none⟩) c l w (Kd.R_reads' hr).2.2 hcl (fun W x A c hb => hf W x A c (Mods.of_below hb)))
  rw [hi] at hx
  have HX := Aside0.mk hx
  have e1 : ((n : Int) == -1) = false := by rw [beq_eq_false_iff_ne]; omega
  have hs1 : wrap64 ((n : Int) + 1) = ((n + 1 : Nat) : Int) := by unfold wrap64; omega
  clear hr hi hx hfn hname hbody hf hd
  go_enter Tryd.func28, Tryd.ntmps28
  go_wp2_with (((with_reducible refine gate_dst (N := 10) rfl ?_); refine goesL_ (some 10) rfl rfl Tryd.func40 (by kernel_rfl) rfl #[.slice (some ⟨b, 0, none⟩) l.length c, .func (.func fid) #[] caps] rfl (by first | (simp only [List.map_toArray, List.map_cons, List.map_nil]; rfl) | rfl) ?_; refine (HX.out).mono ?_; rintro e w1 ⟨rfl, hb⟩; have HB := Aside0.mk hb; clear hb; refine ⟨_, rfl, ?_⟩))
  go_loopg [5, 6] (l.length - (n + 1)) (fun kq v5 v6 w' => ∃ (i j : Nat) (xs : List S36), v5 = .int .i64 i ∧ v6 = .int .i64 j ∧ Aside0 (j + kq = l.length) ∧ Aside0 (i < j) ∧ Aside0 (DelI p l xs i j) ∧ Aside0 (k36.R 36 w' 0 ok (.slice (some ⟨b, 0, none⟩) l.length c) xs) ∧ Aside0 (Mods (fun k => k = b) w w'))
  case atStart => exact ⟨n, n + 1, l, rfl, by first | rfl | rw [hs1], ⟨by omega⟩, ⟨by omega⟩, HD, ⟨Kd.R_below HR.out HB.out⟩, ⟨Mods.of_below HB.out⟩⟩
  case round =>
    obtain ⟨i, j, xs, rfl, rfl, HK, HIJ, HD, HR, HM⟩ := hrel
    have hlen := HD.out.len
    have hij := HIJ.out
    have hjl := HD.out.lj
    cases gk with
    | zero =>
      have hj : j = l.length := by have := HK.out; omega
      have d1 : decide ((j : Int) < (l.length : Int)) = false := decide_eq_false (by omega)
      obtain ⟨ii, hii, hsz⟩ := info36ex
      have hc1 := cut_to (P := Tryd.prog) 37 36 .i64 Tryd.underlying37 hii (some ⟨b, 0, none⟩) l.length c (i : Int) (by omega) (by omega) hcl
      have hc2 := cut_from (P := Tryd.prog) 37 36 .i64 Tryd.underlying37 hii 7 hsz (some ⟨b, 0, none⟩) l.length c (i : Int) (by omega) (by omega)
      rw [Int.toNat_natCast] at hc1 hc2
      rw [if_neg (by omega)] at hc2
      obtain ⟨a3, ha3⟩ : ∃ a3 : Addr, a3 = (⟨b, 0, none⟩ : Addr).add (i * 7) := ⟨_, rfl⟩
      rw [show (some (⟨b, 0, none⟩ : Addr)).map (·.add (i * 7)) = some a3 by rw [ha3]; rfl] at hc2
      have HA3 := Aside0.mk (show a3 = ⟨b, i * 7, none⟩ by rw [ha3]; simp [Addr.add]; omega)
      clear ha3
      obtain ⟨cur, hcur, hcs⟩ := cells36 HR.out
      have HCU := Aside0.mk hcur
      have HCS := Aside0.mk hcs
      clear hcur hcs
      have hzl : (Builtin.zeroCells (Value.agg #[.int .i64 0, .string ⟨#[]⟩, .int .i64 0, .int .i64 0, .int .i64 0, .string ⟨#[]⟩, .slice none 0 0]).cells (l.length - i)).toList.length = (l.length - i) * 7 := zeroCells_len _ _
      have HZL := Aside0.mk hzl
      clear hzl
      have HCl := Aside0.mk (run_clear_rows wr 37 36 0 (.agg #[.int .i64 0, .string ⟨#[]⟩, .int .i64 0, .int .i64 0, .int .i64 0, .string ⟨#[]⟩, .slice none 0 0]) Tryd.underlying37 zero36 b (i * 7) (l.length - i) (c - i) (by omega)
        zero36_one
        (by intro q hq; rw [HZL.out] at hq; rw [blk_cell HCU.out]; have := HCS.out; rw [Array.getElem?_eq_getElem (by omega)]; rfl)
        (by intro q hq; exact blk_frozen HCU.out _))
      go_wp2_with (first | ((with_reducible refine gate_builtin (b := .clear) (xs := #[.tmp 38]) rfl ?_); refine clearL_ rfl rfl rfl rfl (by rw [HA3.out]; exact HCl.out) ?_))
      go_ret
      have hD := HD.out
      rw [hj] at hD
      have hT := R_behind (Kd.R_take HR.out (m := i) (by omega)) (Builtin.zeroCells (Value.agg #[.int .i64 0, .string ⟨#[]⟩, .int .i64 0, .int .i64 0, .int .i64 0, .string ⟨#[]⟩, .slice none 0 0]).cells (l.length - i)).toList (by rw [HZL.out]; show i * 7 + _ ≤ c * 7; omega)
      rw [hD.done] at hT
      exact ⟨_, rfl, hT, fun k hk => by simpa [Value.ownBlock] using hk, (mods_cells HM.out (.inl rfl) _ _).mono (fun k _ hk => by rw [hk]; rfl)⟩
    | succ k1 =>
      have d1 : decide ((j : Int) < (l.length : Int)) = true := decide_eq_true (by have := HK.out; omega)
      have hjl2 : j < l.length := by have := HK.out; omega
      obtain ⟨A6, c6, z0, z1, z2, z3, z4, z5, z6, g6⟩ := elem36 HR.out j (by omega)
      have hrd : rd_T36 xs (j : Int) = l[j] := by
        have h1 := HD.out.post
        have h2 : xs.drop j = xs[j] :: xs.drop (j + 1) := List.drop_eq_getElem_cons (by omega)
        have h3 : l.drop j = l[j] :: l.drop (j + 1) := List.drop_eq_getElem_cons hjl2
        rw [h2, h3] at h1
        injection h1 with h1
        unfold rd_T36
        rw [Int.toNat_natCast, List.getD_eq_getElem?_getD, List.getElem?_eq_getElem (by omega)]
        exact h1
      obtain ⟨G, hG⟩ : ∃ G, G = l[j] := ⟨_, rfl⟩
      rw [hrd, ← hG] at z0 z1 z2 z3 z4 z5 z6 g6
      have HG := Aside0.mk hG
      have H6 := Aside0.mk g6
      clear hrd hG g6
      have hsj : wrap64 ((j : Int) + 1) = ((j + 1 : Nat) : Int) := by unfold wrap64; omega
      have hsi : wrap64 ((i : Int) + 1) = ((i + 1 : Nat) : Int) := by unfold wrap64; omega
      have HSJ := Aside0.mk hsj
      have HSI := Aside0.mk hsi
      clear hsj hsi
      by_cases hp : p G = true
      · have HC := Aside0.mk (fun W h => HF.out W G A6 c6 h)
        simp only [hp, gc] at HC
        have HP := Aside0.mk hp
        clear hp
        go_wp2_with (first
          | ((with_reducible refine gate_dst (N := 7) rfl ?_); refine box_event ?hg (N := 7) ?hd (cs := #[.int .i64 0, .string ⟨#[]⟩, .int .i64 0, .int .i64 0, .int .i64 0, .string ⟨#[]⟩, .slice none 0 0]) (t := 36) ?hr ?_; (case hd => rfl); (case hg => rfl); (case hr => first | (go_simp; done) | (go_simp; rfl)); intro gb hgb wb kgb bgb; have Ggb := Aside0.mk hgb; clear hgb; have HKb := Aside0.mk kgb; have HBb := Aside0.mk bgb; clear kgb bgb)
          | ((with_reducible refine gate_store (t := 36) (p := 7) rfl ?_); refine wpList_store_row rfl 36 (.tmp 7) (.tmp 25) rfl gb #[.int .i64 G.f0, .string G.f1, .int .i64 G.f2.f0.f0, .int .i64 G.f2.f0.f1, .int .i64 G.f2.f0.f2, .string G.f2.f1, .slice A6 G.f2.f2.length c6] rfl rfl 36 _ HKb.out info36s rfl (by rw [List.all_toArray]; rfl) ?_)
          | ((with_reducible refine gate_dst (N := 27) rfl ?_); refine wpList_load_row rfl 36 (.tmp 7) rfl gb rfl 36 _ (0, 0) _ (setRow_heap _ _ _ _ _ _ HKb.out) Tryd.underlying36 rfl info36s ?_)
          | ((with_reducible refine gate_value (s := 26) rfl ?_); refine goesV_ (some 28) rfl rfl HFN.out.1 HFN.out.2.1 HFN.out.2.2 #[.agg #[.int .i64 G.f0, .string G.f1, .int .i64 G.f2.f0.f0, .int .i64 G.f2.f0.f1, .int .i64 G.f2.f0.f2, .string G.f2.f1, .slice A6 G.f2.f2.length c6]] rfl rfl (by (try simp only [List.map_toArray, List.map_cons, List.map_nil]); first | done | rfl) ?_; refine (HC.out _ (HM.out.then_below (below_setRow (g := gb) HBb.out (Nat.le_of_eq Ggb.out.symm) #[.int .i64 G.f0, .string G.f1, .int .i64 G.f2.f0.f0, .int .i64 G.f2.f0.f1, .int .i64 G.f2.f0.f2, .string G.f2.f1, .slice A6 G.f2.f2.length c6]))).mono ?_; rintro e w5 ⟨rfl, hb5⟩; refine ⟨_, rfl, ?_⟩; have HB5 := Aside0.mk ((below_setRow (g := gb) HBb.out (Nat.le_of_eq Ggb.out.symm) #[.int .i64 G.f0, .string G.f1, .int .i64 G.f2.f0.f0, .int .i64 G.f2.f0.f1, .int .i64 G.f2.f0.f2, .string G.f2.f1, .slice A6 G.f2.f2.length c6]).trans (hb5.mono (below_setRow (g := gb) HBb.out (Nat.le_of_eq Ggb.out.symm) #[.int .i64 G.f0, .string G.f1, .int .i64 G.f2.f0.f0, .int .i64 G.f2.f0.f1, .int .i64 G.f2.f0.f2, .string G.f2.f1, .slice A6 G.f2.f2.length c6]).size)); have HK5 := Aside0.mk (keepB (setRow_heap _ _ _ _ _ _ HKb.out) hb5); clear hb5))
        go_roundg k1
        case measure => omega
        case rel => exact ⟨i, j + 1, xs, rfl, rfl, ⟨by have := HK.out; omega⟩, ⟨by omega⟩, ⟨HD.out.skip hjl2 (by rw [← HG.out]; exact HP.out)⟩, ⟨Kd.R_below HR.out HB5.out⟩, ⟨HM.out.then_below HB5.out⟩⟩
      · have hp2 : p G = false := by simpa using hp
        have HC := Aside0.mk (fun W h => HF.out W G A6 c6 h)
        simp only [hp2, gc] at HC
        have HP := Aside0.mk hp2
        clear hp hp2
        go_wp2_with (first
          | ((with_reducible refine gate_dst (N := 7) rfl ?_); refine box_event ?hg (N := 7) ?hd (cs := #[.int .i64 0, .string ⟨#[]⟩, .int .i64 0, .int .i64 0, .int .i64 0, .string ⟨#[]⟩, .slice none 0 0]) (t := 36) ?hr ?_; (case hd => rfl); (case hg => rfl); (case hr => first | (go_simp; done) | (go_simp; rfl)); intro gb hgb wb kgb bgb; have Ggb := Aside0.mk hgb; clear hgb; have HKb := Aside0.mk kgb; have HBb := Aside0.mk bgb; clear kgb bgb)
          | ((with_reducible refine gate_store (t := 36) (p := 7) rfl ?_); refine wpList_store_row rfl 36 (.tmp 7) (.tmp 25) rfl gb #[.int .i64 G.f0, .string G.f1, .int .i64 G.f2.f0.f0, .int .i64 G.f2.f0.f1, .int .i64 G.f2.f0.f2, .string G.f2.f1, .slice A6 G.f2.f2.length c6] rfl rfl 36 _ HKb.out info36s rfl (by rw [List.all_toArray]; rfl) ?_)
          | ((with_reducible refine gate_dst (N := 27) rfl ?_); refine wpList_load_row rfl 36 (.tmp 7) rfl gb rfl 36 _ (0, 0) _ (setRow_heap _ _ _ _ _ _ HKb.out) Tryd.underlying36 rfl info36s ?_)
          | ((with_reducible refine gate_value (s := 26) rfl ?_); refine goesV_ (some 28) rfl rfl HFN.out.1 HFN.out.2.1 HFN.out.2.2 #[.agg #[.int .i64 G.f0, .string G.f1, .int .i64 G.f2.f0.f0, .int .i64 G.f2.f0.f1, .int .i64 G.f2.f0.f2, .string G.f2.f1, .slice A6 G.f2.f2.length c6]] rfl rfl (by (try simp only [List.map_toArray, List.map_cons, List.map_nil]); first | done | rfl) ?_; refine (HC.out _ (HM.out.then_below (below_setRow (g := gb) HBb.out (Nat.le_of_eq Ggb.out.symm) #[.int .i64 G.f0, .string G.f1, .int .i64 G.f2.f0.f0, .int .i64 G.f2.f0.f1, .int .i64 G.f2.f0.f2, .string G.f2.f1, .slice A6 G.f2.f2.length c6]))).mono ?_; rintro e w5 ⟨rfl, hb5⟩; refine ⟨_, rfl, ?_⟩; have HB5 := Aside0.mk ((below_setRow (g := gb) HBb.out (Nat.le_of_eq Ggb.out.symm) #[.int .i64 G.f0, .string G.f1, .int .i64 G.f2.f0.f0, .int .i64 G.f2.f0.f1, .int .i64 G.f2.f0.f2, .string G.f2.f1, .slice A6 G.f2.f2.length c6]).trans (hb5.mono (below_setRow (g := gb) HBb.out (Nat.le_of_eq Ggb.out.symm) #[.int .i64 G.f0, .string G.f1, .int .i64 G.f2.f0.f0, .int .i64 G.f2.f0.f1, .int .i64 G.f2.f0.f2, .string G.f2.f1, .slice A6 G.f2.f2.length c6]).size)); have HK5 := Aside0.mk (keepB (setRow_heap _ _ _ _ _ _ HKb.out) hb5); clear hb5; have hX := Kd.R_below HR.out HB5.out; obtain ⟨cz, hz1, _, hz3, _⟩ := Kd.R_elem hX z36 (i : Int) (by omega) (by omega); have HDZ := Aside0.mk (show cz.drop 7 = [] from List.drop_eq_nil_of_le (Nat.le_of_eq hz1)); have HZ := Aside0.mk (And.intro hz1 hz3); have HM5 := Aside0.mk (k36_mkM w5 0 (fun k => ok k ∧ k ≠ b) G (Kd.R_below H6.out HB5.out)); have HX5 := Aside0.mk hX; clear hz1 hz3 hX)
          | ((with_reducible refine gate_dst (N := 32) rfl ?_); refine wpList_load_row rfl 36 (.tmp 7) rfl gb rfl 36 _ (0, 0) _ HK5.out Tryd.underlying36 rfl info36s ?_)
          | ((with_reducible refine gate_store (t := 36) (p := 33) rfl ?_); refine Kd.R_store k36 (w0 := w5) 0 rfl rfl 36 (.tmp 33) (.tmp 32) rfl 36 (g := b) (n := l.length) (cap := c) (i : Int) 0 xs G (.agg #[.int .i64 G.f0, .string G.f1, .int .i64 G.f2.f0.f0, .int .i64 G.f2.f0.f1, .int .i64 G.f2.f0.f2, .string G.f2.f1, .slice A6 G.f2.f2.length c6]) [.int .i64 G.f0, .string G.f1, .int .i64 G.f2.f0.f0, .int .i64 G.f2.f0.f1, .int .i64 G.f2.f0.f2, .string G.f2.f1, .slice A6 G.f2.f2.length c6] cz ok (fun k => ok k ∧ k ≠ b) rfl ?hoff rfl rfl ?ht ?h1 HX5.out ?h0 ?hi HZ.out.1 HZ.out.2 ?hj ?hM (fun k hk => hk) (Below.refl 0 _) ?_; (case hoff => rw [Int.toNat_natCast]; rfl); (case ht => exact info36s); (case h1 => intro q hq; simp only [List.mem_cons, List.not_mem_nil, or_false] at hq; rcases hq with rfl | rfl | rfl | rfl | rfl | rfl | rfl <;> rfl); (case h0 => omega); (case hi => have := HIJ.out; omega); (case hj => exact Nat.le_of_eq rfl); (case hM => (show k36.M _ 0 _ G (cz.take 0 ++ [.int .i64 G.f0, .string G.f1, .int .i64 G.f2.f0.f0, .int .i64 G.f2.f0.f1, .int .i64 G.f2.f0.f2, .string G.f2.f1, .slice A6 G.f2.f2.length c6] ++ cz.drop 7)); rw [HDZ.out]; exact HM5.out); intro w6 h6 hb6 hg6; have HX6 := Aside0.mk h6; have HG6 := Aside0.mk hg6; clear h6 hb6 hg6))
        go_roundg k1
        case measure => omega
        case rel => exact ⟨i + 1, j + 1, xs.set i l[j], rfl, rfl, ⟨by have := HK.out; omega⟩, ⟨by omega⟩, ⟨HD.out.keep hjl2 (by rw [← HG.out]; exact HP.out)⟩, ⟨by have h6 := HX6.out; rwa [HG.out, Int.toNat_natCast] at h6⟩, ⟨(HM.out.then_below HB5.out).grown HG6.out (fun k hk => .inl (Option.some.inj hk).symm)⟩⟩
end Go.Proofs.YtmcochnofkjhaaaDoor.QU
