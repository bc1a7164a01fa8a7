/- What an end of a link hands on when a text comes: came. By hand. -/
import Derived.Test.YtdibaeomepallaaLe
namespace Go.Proofs.Ytdibaeomepallaa.LK
open Go.RowKit Go.Proofs.YtdibaeomepallaaW.PrintWords Go.Proofs.YtdibaeomepallaaW.PrintLast Go.Proofs.YtdibaeomepallaaW.PrintMore Go.Proofs.Ytdibaeomepallaa.PAll Go.Proofs.Ytdibaeomepallaa.NW
set_option linter.unusedVariables false
set_option linter.unusedSimpArgs false
set_option maxRecDepth 100000
theorem zero9 (w : World) : (zeroValue 9).run Try.prog w = .ok (.string ⟨#[]⟩) w := by kernel_rfl
theorem look_run {P : Program} {o : Oper} {a : Act} {W : World} {t : TypeId} {m x : Operand} {M X v : Value} (ho : o.op = .lookup t m x true) (hm : a.eval m = M) (hx : a.eval x = X) (hr : (Instr.lookup t M X true).run P W = .ok v W) : (execOp a.eval o).run P W = .ok (.value v) W := by
  unfold execOp
  simp only [ho, hm, hx, Sem.run_bind, hr, Result.andThen_ok, Sem.run_pure]
theorem delete_run {P : Program} {o : Oper} {a : Act} {W w1 : World} {t k : TypeId} {s x : Operand} {v u v' : Value} (ho : o.op = .call { callee := .builtin .delete, args := #[s, x], argTypes := #[t, k] }) (hs : a.eval s = v) (hx : a.eval x = u) (hr : (Builtin.delete_ #[t, k] o.type #[v, u]).run P W = .ok v' w1) : (execOp a.eval o).run P W = .ok (.value v') w1 := by
  unfold execOp
  simp only [ho, resolve, invoke, builtin, Sem.run_bind, Sem.run_pure, Result.andThen_ok, List.map_toArray, List.map_cons, List.map_nil, hs, hx, hr]
theorem put_length (er : List (Int × ByteArray)) (k : Int) (s : ByteArray) : (put er k s).length ≤ er.length + 1 := by
  unfold put
  split
  · omega
  · simp
theorem mods_gm {w w' : World} {g m : Nat} (h : Mods (fun k => k = g) w w') : Mods (fun k => k = g ∨ k = m) w w' := h.mono (fun _ _ e => .inl e)
theorem grown_mods {F : Nat → Prop} {w a b : World} {m : Nat} (h : Mods F w a) (hg : a.grownBy b (some m)) (hF : F m) : Mods F w b := h.grown hg (fun k hk => by injection hk with hk; subst hk; exact .inl hF)
/-- What hearing a text leaves. -/
def CameOut (w : World) (g : Nat) (l : Lk) (v : Value) (m : Nat) (seq : Int) (s : ByteArray) (e : Ending) (w' : World) : Prop :=
  ∃ t, e = .returned t ∧ Kd.string.R 9 w' w.heap.size (fun _ => True) t (cameT l seq s) ∧ LkAt w' g (cameL l seq s) v m ∧ Mods (fun k => k = g ∨ k = m) w w'
theorem came_none {w : World} {g m : Nat} {l : Lk} {v : Value} (h : LkAt w g l v m) {seq : Int} {s : ByteArray} (hc : seq < l.want ∨ 8 ≤ seq - l.want) : CameOut w g l v m seq s (.returned (.slice none 0 0)) w := by
  have e : cameR l seq s = (0, l.er, []) := if_pos hc
  refine ⟨_, rfl, ?_, ?_, Mods.refl _ _⟩
  · unfold cameT; rw [e]; exact Kd.R_nil _ _ _ _ _
  · unfold cameL; rw [e]; simpa using h
theorem string_types {t : Nat} (ht : 9 ≠ t) : ∀ q, q ∈ (9 : Nat) :: Kd.string.E → q ≠ t := by
  intro q hq
  have : q = 9 := by simpa [Kd.string, Kd.scalar] using hq
  subst this
  exact ht
/-- The end of the loop. -/
theorem came_end {w wr : World} {g m : Nat} {l : Lk} {v v9 : Value} {seq x : Int} {s : ByteArray} {d : Nat} {er' : List (Int × ByteArray)} {acc : List ByteArray} (h : LkAt w g l v m) (hc : ¬ (seq < l.want ∨ 8 ≤ seq - l.want)) (hx : x = l.want + d)
    (hh : hand ((put l.er seq s).length + 1) l.want (put l.er seq s) = (d, er', acc)) (hr : Kd.string.R 9 wr w.heap.size (fun _ => True) v9 acc) (hg : wr.heap[g]? = some (.cells (lkc { l with want := x } v m) 134 (0, 0))) (he : ErAt Try.prog 3 9 wr m er') (hm : Mods (fun k => k = g ∨ k = m) w wr) : CameOut w g l v m seq s (.returned v9) wr := by
  have e : cameR l seq s = (d, er', acc) := (if_neg hc).trans hh
  subst hx
  refine ⟨_, rfl, ?_, ⟨?_, ?_, ?_⟩, hm⟩
  · unfold cameT; rw [e]; exact hr
  · unfold cameL; rw [e]; exact hg
  · refine Kd.R_mono (Kd.R_step (ok := fun k => v.ownBlock = some k) ⟨fun _ hk => hk, by
      obtain ⟨_, inner, ho, hr⟩ := h.row
      exact ⟨inner, ho, hr⟩⟩ (fun k hk hlt => hm.block k hlt (fun e => e.elim (fun e => h.ne_row (by rw [← e]; exact hk)) (fun e => h.row_map (by rw [← e]; exact hk))))) (fun _ _ => trivial)
  · unfold cameL; rw [e]; exact he
set_option maxHeartbeats 8000000 in
theorem came_is {w : World} {g m : Nat} {l : Lk} {v : Value} (h : LkAt w g l v m) (hb : Bd l) (seq : Int) (s : ByteArray) (n0 : 0 ≤ seq) (n1 : seq ≤ 1099511627775) (hs : s.size ≤ 32768) :
    Calls Try.prog 76 #[.pointer (some ⟨g, 0, none⟩), .int .i64 seq, .string s] w (CameOut w g l v m seq s) := by
  obtain ⟨b1, b2, o8, oq, q64, w1, w2, e1000⟩ := hb
  have HL := Aside0.mk h
  have hwk : (Lit.int .i64 seq).wf = true := WalkArith.wf_i64 ⟨by omega, by omega⟩
  have c8 := (blk_cell h.blk 8).trans (show (lkc l v m)[8]? = some (.int .i64 l.want) from rfl)
  have c9 := (blk_cell h.blk 9).trans (show (lkc l v m)[9]? = some (.map (some m)) from rfl)
  clear h
  by_cases h1 : seq < l.want
  · have d1 : decide (seq < l.want) = true := decide_eq_true h1
    go_enter Try.func76, Try.ntmps76
    go_wp2
    go_ret
    exact came_none HL.out (.inl h1)
  · have d1 : decide (seq < l.want) = false := decide_eq_false h1
    by_cases h2 : 8 ≤ seq - l.want
    · have d2 : decide (8 ≤ seq - l.want) = true := decide_eq_true h2
      go_enter Try.func76, Try.ntmps76
      go_wp2
      go_ret
      exact came_none HL.out (.inr h2)
    · have d2 : decide (8 ≤ seq - l.want) = false := decide_eq_false h2
      have HC := Aside0.mk (show ¬ (seq < l.want ∨ 8 ≤ seq - l.want) by omega)
      have hlook := HL.out.er.look (mt := 132) Try.underlying3 Try.underlying9 Try.underlying132 (zero9 w) hwk
      have HK := Aside0.mk hlook
      clear hlook
      obtain ⟨W1, hcase⟩ : ∃ W1, ((fnd l.er seq = none ∧ (Instr.mapUpdate 132 (.map (some m)) (.int .i64 seq) (.string s)).run Try.prog w = .ok () W1) ∨ ((fnd l.er seq).isSome = true ∧ W1 = w)) ∧ ErAt Try.prog 3 9 W1 m (put l.er seq s) ∧ Mods (fun k => k = g ∨ k = m) w W1 ∧ W1.heap[g]? = w.heap[g]? := by
        cases hf : fnd l.er seq with
        | none =>
          obtain ⟨W1, hr, he, hg, _⟩ := HL.out.er.store (mt := 132) Try.underlying3 Try.underlying9 Try.underlying132 hwk (s := s) (by unfold maxLen; omega) hf (by unfold maxLen; omega)
          refine ⟨W1, .inl ⟨rfl, hr⟩, ?_, grown_mods (Mods.refl _ _) hg (.inr rfl), hg.block g HL.out.lt (fun e => HL.out.ne_map (by injection e with e; exact e.symm))⟩
          unfold put
          rw [hf, if_neg (by simp)]
          exact he
        | some t =>
          refine ⟨w, .inr ⟨rfl, rfl⟩, ?_, Mods.refl _ _, rfl⟩
          unfold put
          rw [hf, if_pos (by rfl)]
          exact HL.out.er
      obtain ⟨hcase, he1, hm1, hg1⟩ := hcase
      have HE1 := Aside0.mk he1
      have HM1 := Aside0.mk hm1
      have HG1 := Aside0.mk (hg1.trans HL.out.blk)
      have HN := Aside0.mk (put_length l.er seq s)
      have hsz1 : w.heap.size ≤ W1.heap.size := hm1.size
      clear he1 hm1 hg1
      obtain ⟨FIN, hFIN⟩ : ∃ FIN, FIN = hand ((put l.er seq s).length + 1) l.want (put l.er seq s) := ⟨_, rfl⟩
      have HFIN := Aside0.mk hFIN
      clear hFIN
      have HS0 := Aside0.mk (Kd.R_nil Kd.string 9 W1 w.heap.size (fun _ => True))
      rcases hcase with ⟨hf, hst⟩ | ⟨hf, hW⟩
      · rw [hf] at HK
        clear hf
        go_enter Try.func76, Try.ntmps76
        go_wp2_with (first
          | ((with_reducible refine gate_dst (N := 33) rfl ?_); refine Kd.event_run rfl (look_run (t := 132) rfl rfl rfl HK.out) ?_))
        clear hst
        clear c8 c9 HK
        go_loopg [9] ((put l.er seq s).length + 1) (fun kq v9 w' => ∃ (d : Nat) (x : Int) (er' : List (Int × ByteArray)) (acc : List ByteArray), Aside0 (er'.length + 1 ≤ kq ∧ x = l.want + d ∧ x ≤ 1099511627775 ∧ acc.length + er'.length ≤ 1001) ∧ Aside0 (FIN = (d + (hand kq x er').1, (hand kq x er').2.1, acc ++ (hand kq x er').2.2)) ∧ Aside0 (Kd.string.R 9 w' w.heap.size (fun _ => True) v9 acc) ∧ Aside0 (w'.heap[g]? = some (.cells (lkc { l with want := x } v m) 134 (0, 0))) ∧ Aside0 (ErAt Try.prog 3 9 w' m er') ∧ Aside0 (Mods (fun k => k = g ∨ k = m) w w'))
        case atStart => exact ⟨0, l.want, put l.er seq s, [], ⟨by have := HN.out; simp; omega⟩, ⟨by rw [HFIN.out]; simp⟩, HS0, HG1, HE1, HM1⟩
        case round =>
          clear HS0 HG1 HE1 HM1
          obtain ⟨d, x, er', acc, HX, HH, HR, HG, HE, HM⟩ := hrel
          obtain ⟨x1, x2, x3, x4⟩ := HX.out
          cases gk with
          | zero => omega
          | succ k1 =>
            have hwx : (Lit.int .i64 x).wf = true := WalkArith.wf_i64 ⟨by omega, by omega⟩
            have x5 : 1 ≤ x := by omega
            have hhand := HH.out
            clear x2
            unfold hand at hhand
            have y8 : wr.drew.cell? ⟨g, 8, none⟩ = some (.int .i64 x) := (blk_cell (blk_drew HG.out) 8).trans rfl
            have y9 : wr.drew.cell? ⟨g, 9, none⟩ = some (.map (some m)) := (blk_cell (blk_drew HG.out) 9).trans rfl
            have HED := Aside0.mk (HE.out.other (w' := wr.drew) rfl)
            have yl := HED.out.look (mt := 132) Try.underlying3 Try.underlying9 Try.underlying132 (zero9 _) hwx
            cases hf : fnd er' x with
            | none =>
              rw [hf] at yl
              simp only [hf] at hhand
              have HF := Aside0.mk hhand
              clear hhand hf
              go_wp2
              refine start_ (n := 14) (S := fun w' => w'.cell? ⟨g, 8, none⟩ = some (.int .i64 x) ∧ w'.cell? ⟨g, 9, none⟩ = some (.map (some m)) ∧ (Instr.lookup 132 (.map (some m)) (.int .i64 x) true).run Try.prog w' = .ok (.tuple #[.string ((none : Option ByteArray).getD e0), .bool (none : Option ByteArray).isSome]) w') (ds := []) #[false, false, false, false, false, false, false, false, false, false, false, false, false, false] (by kernel_rfl) rfl rfl ⟨y8, y9, yl⟩ (fun hHeld => ?_)
              refine pure_ (i := 0) (N := some 45) (v := ?_) (a' := ?_) #[true, false, false, false, false, false, false, false, false, false, false, false, false, false] rfl rfl (by kernel_rfl) (fun _ _ _ h => h) (Or.inl ⟨by rfl, ?_⟩) ?_ ?_
              rotate_left
              · intro w'; go_simp; with_reducible rfl
              rotate_left
              · simp only [Act.put, List.setIfInBounds_toArray, List.set_cons_zero, List.set_cons_succ, i64_w, i32_w]; rfl
              refine pure_ (i := 1) (N := some 46) (v := ?_) (a' := ?_) #[true, true, false, false, false, false, false, false, false, false, false, false, false, false] rfl rfl (by kernel_rfl) (fun _ _ _ h => h) (Or.inl ⟨by rfl, ?_⟩) ?_ ?_
              rotate_left
              · intro w'; go_simp; with_reducible rfl
              rotate_left
              · simp only [Act.put, List.setIfInBounds_toArray, List.set_cons_zero, List.set_cons_succ, i64_w, i32_w]; rfl
              refine pure_ (i := 2) (N := some 47) (v := ?_) (a' := ?_) #[true, true, true, false, false, false, false, false, false, false, false, false, false, false] rfl rfl (by kernel_rfl) (fun _ _ _ h => h) (Or.inl ⟨by rfl, ?_⟩) ?_ ?_
              rotate_left
              · intro w'; go_simp; with_reducible rfl
              rotate_left
              · simp only [Act.put, List.setIfInBounds_toArray, List.set_cons_zero, List.set_cons_succ, i64_w, i32_w]; rfl
              refine take_ (i := 3) (N := some 48) (v := ?_) (a' := ?_) #[true, true, true, true, false, false, false, false, false, false, false, false, false, false] rfl rfl (by kernel_rfl) (fun _ _ _ h => h) (Or.inl ⟨by rfl, ?_⟩) hHeld ?_ ?_
              rotate_left
              · rintro w' ⟨s0, s1, s2⟩; go_simp; with_reducible rfl
              rotate_left
              · simp only [Act.put, List.setIfInBounds_toArray, List.set_cons_zero, List.set_cons_succ, i64_w, i32_w]; rfl
              refine pure_ (i := 4) (N := some 49) (v := ?_) (a' := ?_) #[true, true, true, true, true, false, false, false, false, false, false, false, false, false] rfl rfl (by kernel_rfl) (fun _ _ _ h => h) (Or.inl ⟨by rfl, ?_⟩) ?_ ?_
              rotate_left
              · intro w'; go_simp; with_reducible rfl
              rotate_left
              · simp only [Act.put, List.setIfInBounds_toArray, List.set_cons_zero, List.set_cons_succ, i64_w, i32_w]; rfl
              refine pure_ (i := 5) (N := some 50) (v := ?_) (a' := ?_) #[true, true, true, true, true, true, false, false, false, false, false, false, false, false] rfl rfl (by kernel_rfl) (fun _ _ _ h => h) (Or.inl ⟨by rfl, ?_⟩) ?_ ?_
              rotate_left
              · intro w'; go_simp; with_reducible rfl
              rotate_left
              · simp only [Act.put, List.setIfInBounds_toArray, List.set_cons_zero, List.set_cons_succ, i64_w, i32_w]; rfl
              refine pure_ (i := 6) (N := some 51) (v := ?_) (a' := ?_) #[true, true, true, true, true, true, true, false, false, false, false, false, false, false] rfl rfl (by kernel_rfl) (fun _ _ _ h => h) (Or.inl ⟨by rfl, ?_⟩) ?_ ?_
              rotate_left
              · intro w'; go_simp; with_reducible rfl
              rotate_left
              · simp only [Act.put, List.setIfInBounds_toArray, List.set_cons_zero, List.set_cons_succ, i64_w, i32_w]; rfl
              refine take_ (i := 7) (N := some 52) (v := ?_) (a' := ?_) #[true, true, true, true, true, true, true, true, false, false, false, false, false, false] rfl rfl (by kernel_rfl) (fun _ _ _ h => h) (Or.inl ⟨by rfl, ?_⟩) hHeld ?_ ?_
              rotate_left
              · rintro w' ⟨s0, s1, s2⟩; go_simp; with_reducible rfl
              rotate_left
              · simp only [Act.put, List.setIfInBounds_toArray, List.set_cons_zero, List.set_cons_succ, i64_w, i32_w]; rfl
              refine take_ (i := 8) (N := some 53) (v := ?_) (a' := ?_) #[true, true, true, true, true, true, true, true, true, false, false, false, false, false] rfl rfl (by kernel_rfl) (fun _ _ _ h => h) (Or.inl ⟨by rfl, ?_⟩) hHeld ?_ ?_
              rotate_left
              · rintro w' ⟨s0, s1, s2⟩; go_simp; with_reducible rfl
              rotate_left
              · simp only [Act.put, List.setIfInBounds_toArray, List.set_cons_zero, List.set_cons_succ, i64_w, i32_w]; rfl
              refine pure_ (i := 9) (N := some 44) (v := ?_) (a' := ?_) #[true, true, true, true, true, true, true, true, true, true, false, false, false, false] rfl rfl (by kernel_rfl) (fun _ _ _ h => h) (Or.inl ⟨by rfl, ?_⟩) ?_ ?_
              rotate_left
              · intro w'; go_simp; with_reducible rfl
              rotate_left
              · simp only [Act.put, List.setIfInBounds_toArray, List.set_cons_zero, List.set_cons_succ, i64_w, i32_w]; rfl
              refine pure_ (i := 10) (N := some 54) (v := ?_) (a' := ?_) #[true, true, true, true, true, true, true, true, true, true, true, false, false, false] rfl rfl (by kernel_rfl) (fun _ _ _ h => h) (Or.inl ⟨by rfl, ?_⟩) ?_ ?_
              rotate_left
              · intro w'; go_simp; with_reducible rfl
              rotate_left
              · simp only [Act.put, List.setIfInBounds_toArray, List.set_cons_zero, List.set_cons_succ, i64_w, i32_w]; rfl
              refine pure_ (i := 11) (N := some 55) (v := ?_) (a' := ?_) #[true, true, true, true, true, true, true, true, true, true, true, true, false, false] rfl rfl (by kernel_rfl) (fun _ _ _ h => h) (Or.inl ⟨by rfl, ?_⟩) ?_ ?_
              rotate_left
              · intro w'; go_simp; with_reducible rfl
              rotate_left
              · simp only [Act.put, List.setIfInBounds_toArray, List.set_cons_zero, List.set_cons_succ, i64_w, i32_w]; rfl
              refine pure_ (i := 12) (N := some 10) (v := ?_) (a' := ?_) #[true, true, true, true, true, true, true, true, true, true, true, true, true, false] rfl rfl (by kernel_rfl) (fun _ _ _ h => h) (Or.inl ⟨by rfl, ?_⟩) ?_ ?_
              rotate_left
              · intro w'; go_simp; with_reducible rfl
              rotate_left
              · simp only [Act.put, List.setIfInBounds_toArray, List.set_cons_zero, List.set_cons_succ, i64_w, i32_w]; rfl
              refine pure_ (i := 13) (N := some 11) (v := ?_) (a' := ?_) #[true, true, true, true, true, true, true, true, true, true, true, true, true, true] rfl rfl (by kernel_rfl) (fun _ _ _ h => h) (Or.inl ⟨by rfl, ?_⟩) ?_ ?_
              rotate_left
              · intro w'; go_simp; with_reducible rfl
              rotate_left
              · simp only [Act.put, List.setIfInBounds_toArray, List.set_cons_zero, List.set_cons_succ, i64_w, i32_w]; rfl
              clear y8 y9 yl
              refine done_ (by kernel_rfl) ?_
              go_wp2
              go_ret
              have hhand := HF.out
              exact came_end HL.out HC.out HX.out.2.1 (by rw [← HFIN.out, hhand]; simp) (Kd.R_drew HR.out) (blk_drew HG.out) HED.out HM.out.drew
            | some t =>
              rw [hf] at yl
              simp only [hf] at hhand
              have y9' := y9
              by_cases hcx : 1099511627775 ≤ x
              · have d3 : decide (1099511627775 ≤ x) = true := decide_eq_true hcx
                rw [if_pos hcx] at hhand
                have HF := Aside0.mk hhand
                clear hhand hf
                go_wp2
                refine start_ (n := 14) (S := fun w' => w'.cell? ⟨g, 8, none⟩ = some (.int .i64 x) ∧ w'.cell? ⟨g, 9, none⟩ = some (.map (some m)) ∧ (Instr.lookup 132 (.map (some m)) (.int .i64 x) true).run Try.prog w' = .ok (.tuple #[.string ((some t).getD e0), .bool (some t).isSome]) w') (ds := []) #[false, false, false, false, false, false, false, false, false, false, false, false, false, false] (by kernel_rfl) rfl rfl ⟨y8, y9, yl⟩ (fun hHeld => ?_)
                refine pure_ (i := 0) (N := some 45) (v := ?_) (a' := ?_) #[true, false, false, false, false, false, false, false, false, false, false, false, false, false] rfl rfl (by kernel_rfl) (fun _ _ _ h => h) (Or.inl ⟨by rfl, ?_⟩) ?_ ?_
                rotate_left
                · intro w'; go_simp; with_reducible rfl
                rotate_left
                · simp only [Act.put, List.setIfInBounds_toArray, List.set_cons_zero, List.set_cons_succ, i64_w, i32_w]; rfl
                refine pure_ (i := 1) (N := some 46) (v := ?_) (a' := ?_) #[true, true, false, false, false, false, false, false, false, false, false, false, false, false] rfl rfl (by kernel_rfl) (fun _ _ _ h => h) (Or.inl ⟨by rfl, ?_⟩) ?_ ?_
                rotate_left
                · intro w'; go_simp; with_reducible rfl
                rotate_left
                · simp only [Act.put, List.setIfInBounds_toArray, List.set_cons_zero, List.set_cons_succ, i64_w, i32_w]; rfl
                refine pure_ (i := 2) (N := some 47) (v := ?_) (a' := ?_) #[true, true, true, false, false, false, false, false, false, false, false, false, false, false] rfl rfl (by kernel_rfl) (fun _ _ _ h => h) (Or.inl ⟨by rfl, ?_⟩) ?_ ?_
                rotate_left
                · intro w'; go_simp; with_reducible rfl
                rotate_left
                · simp only [Act.put, List.setIfInBounds_toArray, List.set_cons_zero, List.set_cons_succ, i64_w, i32_w]; rfl
                refine take_ (i := 3) (N := some 48) (v := ?_) (a' := ?_) #[true, true, true, true, false, false, false, false, false, false, false, false, false, false] rfl rfl (by kernel_rfl) (fun _ _ _ h => h) (Or.inl ⟨by rfl, ?_⟩) hHeld ?_ ?_
                rotate_left
                · rintro w' ⟨s0, s1, s2⟩; go_simp; with_reducible rfl
                rotate_left
                · simp only [Act.put, List.setIfInBounds_toArray, List.set_cons_zero, List.set_cons_succ, i64_w, i32_w]; rfl
                refine pure_ (i := 4) (N := some 49) (v := ?_) (a' := ?_) #[true, true, true, true, true, false, false, false, false, false, false, false, false, false] rfl rfl (by kernel_rfl) (fun _ _ _ h => h) (Or.inl ⟨by rfl, ?_⟩) ?_ ?_
                rotate_left
                · intro w'; go_simp; with_reducible rfl
                rotate_left
                · simp only [Act.put, List.setIfInBounds_toArray, List.set_cons_zero, List.set_cons_succ, i64_w, i32_w]; rfl
                refine pure_ (i := 5) (N := some 50) (v := ?_) (a' := ?_) #[true, true, true, true, true, true, false, false, false, false, false, false, false, false] rfl rfl (by kernel_rfl) (fun _ _ _ h => h) (Or.inl ⟨by rfl, ?_⟩) ?_ ?_
                rotate_left
                · intro w'; go_simp; with_reducible rfl
                rotate_left
                · simp only [Act.put, List.setIfInBounds_toArray, List.set_cons_zero, List.set_cons_succ, i64_w, i32_w]; rfl
                refine pure_ (i := 6) (N := some 51) (v := ?_) (a' := ?_) #[true, true, true, true, true, true, true, false, false, false, false, false, false, false] rfl rfl (by kernel_rfl) (fun _ _ _ h => h) (Or.inl ⟨by rfl, ?_⟩) ?_ ?_
                rotate_left
                · intro w'; go_simp; with_reducible rfl
                rotate_left
                · simp only [Act.put, List.setIfInBounds_toArray, List.set_cons_zero, List.set_cons_succ, i64_w, i32_w]; rfl
                refine take_ (i := 7) (N := some 52) (v := ?_) (a' := ?_) #[true, true, true, true, true, true, true, true, false, false, false, false, false, false] rfl rfl (by kernel_rfl) (fun _ _ _ h => h) (Or.inl ⟨by rfl, ?_⟩) hHeld ?_ ?_
                rotate_left
                · rintro w' ⟨s0, s1, s2⟩; go_simp; with_reducible rfl
                rotate_left
                · simp only [Act.put, List.setIfInBounds_toArray, List.set_cons_zero, List.set_cons_succ, i64_w, i32_w]; rfl
                refine take_ (i := 8) (N := some 53) (v := ?_) (a' := ?_) #[true, true, true, true, true, true, true, true, true, false, false, false, false, false] rfl rfl (by kernel_rfl) (fun _ _ _ h => h) (Or.inl ⟨by rfl, ?_⟩) hHeld ?_ ?_
                rotate_left
                · rintro w' ⟨s0, s1, s2⟩; go_simp; with_reducible rfl
                rotate_left
                · simp only [Act.put, List.setIfInBounds_toArray, List.set_cons_zero, List.set_cons_succ, i64_w, i32_w]; rfl
                refine pure_ (i := 9) (N := some 44) (v := ?_) (a' := ?_) #[true, true, true, true, true, true, true, true, true, true, false, false, false, false] rfl rfl (by kernel_rfl) (fun _ _ _ h => h) (Or.inl ⟨by rfl, ?_⟩) ?_ ?_
                rotate_left
                · intro w'; go_simp; with_reducible rfl
                rotate_left
                · simp only [Act.put, List.setIfInBounds_toArray, List.set_cons_zero, List.set_cons_succ, i64_w, i32_w]; rfl
                refine pure_ (i := 10) (N := some 54) (v := ?_) (a' := ?_) #[true, true, true, true, true, true, true, true, true, true, true, false, false, false] rfl rfl (by kernel_rfl) (fun _ _ _ h => h) (Or.inl ⟨by rfl, ?_⟩) ?_ ?_
                rotate_left
                · intro w'; go_simp; with_reducible rfl
                rotate_left
                · simp only [Act.put, List.setIfInBounds_toArray, List.set_cons_zero, List.set_cons_succ, i64_w, i32_w]; rfl
                refine pure_ (i := 11) (N := some 55) (v := ?_) (a' := ?_) #[true, true, true, true, true, true, true, true, true, true, true, true, false, false] rfl rfl (by kernel_rfl) (fun _ _ _ h => h) (Or.inl ⟨by rfl, ?_⟩) ?_ ?_
                rotate_left
                · intro w'; go_simp; with_reducible rfl
                rotate_left
                · simp only [Act.put, List.setIfInBounds_toArray, List.set_cons_zero, List.set_cons_succ, i64_w, i32_w]; rfl
                refine pure_ (i := 12) (N := some 10) (v := ?_) (a' := ?_) #[true, true, true, true, true, true, true, true, true, true, true, true, true, false] rfl rfl (by kernel_rfl) (fun _ _ _ h => h) (Or.inl ⟨by rfl, ?_⟩) ?_ ?_
                rotate_left
                · intro w'; go_simp; with_reducible rfl
                rotate_left
                · simp only [Act.put, List.setIfInBounds_toArray, List.set_cons_zero, List.set_cons_succ, i64_w, i32_w]; rfl
                refine pure_ (i := 13) (N := some 11) (v := ?_) (a' := ?_) #[true, true, true, true, true, true, true, true, true, true, true, true, true, true] rfl rfl (by kernel_rfl) (fun _ _ _ h => h) (Or.inl ⟨by rfl, ?_⟩) ?_ ?_
                rotate_left
                · intro w'; go_simp; with_reducible rfl
                rotate_left
                · simp only [Act.put, List.setIfInBounds_toArray, List.set_cons_zero, List.set_cons_succ, i64_w, i32_w]; rfl
                clear yl
                refine done_ (by kernel_rfl) ?_
                go_wp2
                go_ret
                have hhand := HF.out
                exact came_end HL.out HC.out HX.out.2.1 (by rw [← HFIN.out, hhand]; simp) (Kd.R_drew HR.out) (blk_drew HG.out) HED.out HM.out.drew
              · have d3 : decide (1099511627775 ≤ x) = false := decide_eq_false hcx
                rw [if_neg hcx] at hhand
                have HF := Aside0.mk hhand
                have hdl := del_len hf
                clear hhand hf
                go_wp2
                refine start_ (n := 14) (S := fun w' => w'.cell? ⟨g, 8, none⟩ = some (.int .i64 x) ∧ w'.cell? ⟨g, 9, none⟩ = some (.map (some m)) ∧ (Instr.lookup 132 (.map (some m)) (.int .i64 x) true).run Try.prog w' = .ok (.tuple #[.string ((some t).getD e0), .bool (some t).isSome]) w') (ds := []) #[false, false, false, false, false, false, false, false, false, false, false, false, false, false] (by kernel_rfl) rfl rfl ⟨y8, y9, yl⟩ (fun hHeld => ?_)
                refine pure_ (i := 0) (N := some 45) (v := ?_) (a' := ?_) #[true, false, false, false, false, false, false, false, false, false, false, false, false, false] rfl rfl (by kernel_rfl) (fun _ _ _ h => h) (Or.inl ⟨by rfl, ?_⟩) ?_ ?_
                rotate_left
                · intro w'; go_simp; with_reducible rfl
                rotate_left
                · simp only [Act.put, List.setIfInBounds_toArray, List.set_cons_zero, List.set_cons_succ, i64_w, i32_w]; rfl
                refine pure_ (i := 1) (N := some 46) (v := ?_) (a' := ?_) #[true, true, false, false, false, false, false, false, false, false, false, false, false, false] rfl rfl (by kernel_rfl) (fun _ _ _ h => h) (Or.inl ⟨by rfl, ?_⟩) ?_ ?_
                rotate_left
                · intro w'; go_simp; with_reducible rfl
                rotate_left
                · simp only [Act.put, List.setIfInBounds_toArray, List.set_cons_zero, List.set_cons_succ, i64_w, i32_w]; rfl
                refine pure_ (i := 2) (N := some 47) (v := ?_) (a' := ?_) #[true, true, true, false, false, false, false, false, false, false, false, false, false, false] rfl rfl (by kernel_rfl) (fun _ _ _ h => h) (Or.inl ⟨by rfl, ?_⟩) ?_ ?_
                rotate_left
                · intro w'; go_simp; with_reducible rfl
                rotate_left
                · simp only [Act.put, List.setIfInBounds_toArray, List.set_cons_zero, List.set_cons_succ, i64_w, i32_w]; rfl
                refine take_ (i := 3) (N := some 48) (v := ?_) (a' := ?_) #[true, true, true, true, false, false, false, false, false, false, false, false, false, false] rfl rfl (by kernel_rfl) (fun _ _ _ h => h) (Or.inl ⟨by rfl, ?_⟩) hHeld ?_ ?_
                rotate_left
                · rintro w' ⟨s0, s1, s2⟩; go_simp; with_reducible rfl
                rotate_left
                · simp only [Act.put, List.setIfInBounds_toArray, List.set_cons_zero, List.set_cons_succ, i64_w, i32_w]; rfl
                refine pure_ (i := 4) (N := some 49) (v := ?_) (a' := ?_) #[true, true, true, true, true, false, false, false, false, false, false, false, false, false] rfl rfl (by kernel_rfl) (fun _ _ _ h => h) (Or.inl ⟨by rfl, ?_⟩) ?_ ?_
                rotate_left
                · intro w'; go_simp; with_reducible rfl
                rotate_left
                · simp only [Act.put, List.setIfInBounds_toArray, List.set_cons_zero, List.set_cons_succ, i64_w, i32_w]; rfl
                refine pure_ (i := 5) (N := some 50) (v := ?_) (a' := ?_) #[true, true, true, true, true, true, false, false, false, false, false, false, false, false] rfl rfl (by kernel_rfl) (fun _ _ _ h => h) (Or.inl ⟨by rfl, ?_⟩) ?_ ?_
                rotate_left
                · intro w'; go_simp; with_reducible rfl
                rotate_left
                · simp only [Act.put, List.setIfInBounds_toArray, List.set_cons_zero, List.set_cons_succ, i64_w, i32_w]; rfl
                refine pure_ (i := 6) (N := some 51) (v := ?_) (a' := ?_) #[true, true, true, true, true, true, true, false, false, false, false, false, false, false] rfl rfl (by kernel_rfl) (fun _ _ _ h => h) (Or.inl ⟨by rfl, ?_⟩) ?_ ?_
                rotate_left
                · intro w'; go_simp; with_reducible rfl
                rotate_left
                · simp only [Act.put, List.setIfInBounds_toArray, List.set_cons_zero, List.set_cons_succ, i64_w, i32_w]; rfl
                refine take_ (i := 7) (N := some 52) (v := ?_) (a' := ?_) #[true, true, true, true, true, true, true, true, false, false, false, false, false, false] rfl rfl (by kernel_rfl) (fun _ _ _ h => h) (Or.inl ⟨by rfl, ?_⟩) hHeld ?_ ?_
                rotate_left
                · rintro w' ⟨s0, s1, s2⟩; go_simp; with_reducible rfl
                rotate_left
                · simp only [Act.put, List.setIfInBounds_toArray, List.set_cons_zero, List.set_cons_succ, i64_w, i32_w]; rfl
                refine take_ (i := 8) (N := some 53) (v := ?_) (a' := ?_) #[true, true, true, true, true, true, true, true, true, false, false, false, false, false] rfl rfl (by kernel_rfl) (fun _ _ _ h => h) (Or.inl ⟨by rfl, ?_⟩) hHeld ?_ ?_
                rotate_left
                · rintro w' ⟨s0, s1, s2⟩; go_simp; with_reducible rfl
                rotate_left
                · simp only [Act.put, List.setIfInBounds_toArray, List.set_cons_zero, List.set_cons_succ, i64_w, i32_w]; rfl
                refine pure_ (i := 9) (N := some 44) (v := ?_) (a' := ?_) #[true, true, true, true, true, true, true, true, true, true, false, false, false, false] rfl rfl (by kernel_rfl) (fun _ _ _ h => h) (Or.inl ⟨by rfl, ?_⟩) ?_ ?_
                rotate_left
                · intro w'; go_simp; with_reducible rfl
                rotate_left
                · simp only [Act.put, List.setIfInBounds_toArray, List.set_cons_zero, List.set_cons_succ, i64_w, i32_w]; rfl
                refine pure_ (i := 10) (N := some 54) (v := ?_) (a' := ?_) #[true, true, true, true, true, true, true, true, true, true, true, false, false, false] rfl rfl (by kernel_rfl) (fun _ _ _ h => h) (Or.inl ⟨by rfl, ?_⟩) ?_ ?_
                rotate_left
                · intro w'; go_simp; with_reducible rfl
                rotate_left
                · simp only [Act.put, List.setIfInBounds_toArray, List.set_cons_zero, List.set_cons_succ, i64_w, i32_w]; rfl
                refine pure_ (i := 11) (N := some 55) (v := ?_) (a' := ?_) #[true, true, true, true, true, true, true, true, true, true, true, true, false, false] rfl rfl (by kernel_rfl) (fun _ _ _ h => h) (Or.inl ⟨by rfl, ?_⟩) ?_ ?_
                rotate_left
                · intro w'; go_simp; with_reducible rfl
                rotate_left
                · simp only [Act.put, List.setIfInBounds_toArray, List.set_cons_zero, List.set_cons_succ, i64_w, i32_w]; rfl
                refine pure_ (i := 12) (N := some 10) (v := ?_) (a' := ?_) #[true, true, true, true, true, true, true, true, true, true, true, true, true, false] rfl rfl (by kernel_rfl) (fun _ _ _ h => h) (Or.inl ⟨by rfl, ?_⟩) ?_ ?_
                rotate_left
                · intro w'; go_simp; with_reducible rfl
                rotate_left
                · simp only [Act.put, List.setIfInBounds_toArray, List.set_cons_zero, List.set_cons_succ, i64_w, i32_w]; rfl
                refine pure_ (i := 13) (N := some 11) (v := ?_) (a' := ?_) #[true, true, true, true, true, true, true, true, true, true, true, true, true, true] rfl rfl (by kernel_rfl) (fun _ _ _ h => h) (Or.inl ⟨by rfl, ?_⟩) ?_ ?_
                rotate_left
                · intro w'; go_simp; with_reducible rfl
                rotate_left
                · simp only [Act.put, List.setIfInBounds_toArray, List.set_cons_zero, List.set_cons_succ, i64_w, i32_w]; rfl
                clear yl
                refine done_ (by kernel_rfl) ?_
                go_wp2
                have z8 : wr.drew.drew.cell? ⟨g, 8, none⟩ = some (.int .i64 x) := (blk_cell (blk_drew (blk_drew HG.out)) 8).trans rfl
                have z9 : wr.drew.drew.cell? ⟨g, 9, none⟩ = some (.map (some m)) := (blk_cell (blk_drew (blk_drew HG.out)) 9).trans rfl
                have HED2 := Aside0.mk (HE.out.other (w' := wr.drew.drew) rfl)
                have HRD := Aside0.mk (show Kd.string.R 9 wr.drew.drew w.heap.size (fun _ => True) u9 acc from Kd.R_drew (Kd.R_drew HR.out))
                have HGD := Aside0.mk (blk_drew (blk_drew HG.out))
                have HMD := Aside0.mk (HM.out.drew.drew)
                clear y8 y9 y9' HED HE HR HG HM
                refine start_ (n := 9) (S := fun w' => w'.cell? ⟨g, 8, none⟩ = some (.int .i64 x) ∧ w'.cell? ⟨g, 9, none⟩ = some (.map (some m))) (ds := [8]) #[false, false, false, false, false, false, false, false, false] (by kernel_rfl) rfl rfl ⟨z8, z9⟩ (fun hHeld => ?_)
                refine pure_ (i := 0) (N := some 66) (v := ?_) (a' := ?_) #[true, false, false, false, false, false, false, false, false] rfl rfl (by kernel_rfl) (fun _ _ _ h => h) (Or.inl ⟨by rfl, ?_⟩) ?_ ?_
                rotate_left
                · intro w'; go_simp; with_reducible rfl
                rotate_left
                · simp only [Act.put, List.setIfInBounds_toArray, List.set_cons_zero, List.set_cons_succ, i64_w, i32_w]; rfl
                refine pure_ (i := 1) (N := some 67) (v := ?_) (a' := ?_) #[true, true, false, false, false, false, false, false, false] rfl rfl (by kernel_rfl) (fun _ _ _ h => h) (Or.inl ⟨by rfl, ?_⟩) ?_ ?_
                rotate_left
                · intro w'; go_simp; with_reducible rfl
                rotate_left
                · simp only [Act.put, List.setIfInBounds_toArray, List.set_cons_zero, List.set_cons_succ, i64_w, i32_w]; rfl
                refine pure_ (i := 2) (N := some 68) (v := ?_) (a' := ?_) #[true, true, true, false, false, false, false, false, false] rfl rfl (by kernel_rfl) (fun _ _ _ h => h) (Or.inl ⟨by rfl, ?_⟩) ?_ ?_
                rotate_left
                · intro w'; go_simp; with_reducible rfl
                rotate_left
                · simp only [Act.put, List.setIfInBounds_toArray, List.set_cons_zero, List.set_cons_succ, i64_w, i32_w]; rfl
                refine take_ (i := 3) (N := some 69) (v := ?_) (a' := ?_) #[true, true, true, true, false, false, false, false, false] rfl rfl (by kernel_rfl) (fun _ _ _ h => h) (Or.inl ⟨by rfl, ?_⟩) hHeld ?_ ?_
                rotate_left
                · rintro w' ⟨s0, s1⟩; go_simp; with_reducible rfl
                rotate_left
                · simp only [Act.put, List.setIfInBounds_toArray, List.set_cons_zero, List.set_cons_succ, i64_w, i32_w]; rfl
                refine pure_ (i := 4) (N := some 70) (v := ?_) (a' := ?_) #[true, true, true, true, true, false, false, false, false] rfl rfl (by kernel_rfl) (fun _ _ _ h => h) (Or.inl ⟨by rfl, ?_⟩) ?_ ?_
                rotate_left
                · intro w'; go_simp; with_reducible rfl
                rotate_left
                · simp only [Act.put, List.setIfInBounds_toArray, List.set_cons_zero, List.set_cons_succ, i64_w, i32_w]; rfl
                refine pure_ (i := 5) (N := some 71) (v := ?_) (a' := ?_) #[true, true, true, true, true, true, false, false, false] rfl rfl (by kernel_rfl) (fun _ _ _ h => h) (Or.inl ⟨by rfl, ?_⟩) ?_ ?_
                rotate_left
                · intro w'; go_simp; with_reducible rfl
                rotate_left
                · simp only [Act.put, List.setIfInBounds_toArray, List.set_cons_zero, List.set_cons_succ, i64_w, i32_w]; rfl
                refine pure_ (i := 6) (N := some 72) (v := ?_) (a' := ?_) #[true, true, true, true, true, true, true, false, false] rfl rfl (by kernel_rfl) (fun _ _ _ h => h) (Or.inl ⟨by rfl, ?_⟩) ?_ ?_
                rotate_left
                · intro w'; go_simp; with_reducible rfl
                rotate_left
                · simp only [Act.put, List.setIfInBounds_toArray, List.set_cons_zero, List.set_cons_succ, i64_w, i32_w]; rfl
                refine take_ (i := 7) (N := some 73) (v := ?_) (a' := ?_) #[true, true, true, true, true, true, true, true, false] rfl rfl (by kernel_rfl) (fun _ _ _ h => h) (Or.inl ⟨by rfl, ?_⟩) hHeld ?_ ?_
                rotate_left
                · rintro w' ⟨s0, s1⟩; go_simp; with_reducible rfl
                rotate_left
                · simp only [Act.put, List.setIfInBounds_toArray, List.set_cons_zero, List.set_cons_succ, i64_w, i32_w]; rfl
                clear z8 z9
                generalize wr.drew.drew = W2 at *
                obtain ⟨W3, hdr, he3, hg3, hs3⟩ := HED2.out.drop (mt := 132) Try.underlying3 Try.underlying9 Try.underlying132 hwx 0
                refine last_ (i := 8) (N := none) #[true, true, true, true, true, true, true, true, true] rfl rfl (by kernel_rfl) (by decide) (fun K hK => ?_)
                refine event_step (v := .tuple #[]) (w1 := W3) (by rfl) (delete_run rfl rfl rfl hdr) ?_
                have HE3 := Aside0.mk he3
                have HM3 := Aside0.mk (grown_mods HMD.out hg3 (.inr rfl))
                have hgm : m ≠ g := HL.out.ne_map
                have HG3 := Aside0.mk ((hg3.block g (blk_lt HGD.out) (fun e => hgm (by injection e with e; exact e.symm))).trans HGD.out)
                have hmw : m < w.heap.size := HL.out.er.lt
                have HR3 := Aside0.mk (Kd.R_grown (ok := fun k => w.heap.size ≤ k) (Kd.R_mono (Kd.R_bound HRD.out) (fun k hk => hk.2.1)) hg3 (fun k hk e => by injection e with e; omega))
                clear he3 hg3 hdr hs3 HED2 HRD HGD HMD hgm
                refine hK.out _ _ ?_
                clear hK K
                refine norm_ (a' := ?_) ?_ ?_
                rotate_left
                · show Act.put _ none _ = _
                  rfl
                refine done_ (by kernel_rfl) ?_
                have hglt : g < w.heap.size := HL.out.lt
                have HR3 := Aside0.mk (Kd.R_mono HR3.out (ok' := fun _ => True) (fun _ _ => trivial))
                have hrow3 : ∀ k, u9.ownBlock = some k → w.heap.size ≤ k := fun k hk => by obtain ⟨inner, hi⟩ := Kd.R_own HR3.out; exact own_base hi k hk
                have hsw : w.heap.size ≤ W3.heap.size := HM3.out.size
                have hal : (acc.length + 1) * 16 ≤ 140737488355328 := by omega
                go_wp2_with (first
                  | ((with_reducible refine gate_dst (N := 77) rfl ?_); at_builtin; refine Kd.R_append Kd.string (w0 := W3) w.heap.size rfl (.tmp 74) (.tmp 76) 73 9 (.string ⟨#[]⟩) 16 rfl Try.underlying73 info9 rfl (by decide) (by omega) u9 acc t [.string t] (fun _ => True) (fun _ => False) rfl rfl rfl (fun _ hk => hk.elim) (fun _ _ => trivial) HR3.out (Below.refl _ _) hsw hal ?_; intro v4 W4 ho4 hb4 hg4 hat4; have HR4 := Aside0.mk ho4; have HM4 := Aside0.mk (HM3.out.grown hg4 (fun k hk => .inr (hrow3 k hk))); have HG4 := Aside0.mk ((hg4.block g (blk_lt HG3.out) (fun e => by have := hrow3 g e.symm; omega)).trans HG3.out); have HE4 := Aside0.mk (HE3.out.other (hg4.block m HE3.out.lt (fun e => by have := hrow3 m e.symm; omega))); clear ho4 hb4 hg4 hat4; have c8 : W4.cell? ⟨g, 8, none⟩ = some (.int .i64 x) := (blk_cell HG4.out 8).trans rfl; have f8 := blk_frozen HG4.out 8))
                go_roundg k1
                case measure => omega
                case rel =>
                  have hx2 := HX.out.2.1
                  have hF := HF.out
                  refine ⟨d + 1, x + 1, del er' x, acc ++ [t], ⟨by omega, by omega, by omega, ?_⟩, ⟨?_⟩, ⟨Kd.R_set HR4.out HG4.out (string_types (by decide)) 8 _⟩, ⟨blk_set HG4.out 8 _⟩, ⟨HE4.out.other (Below.heap_setCell _ _ _ _ HL.out.ne_map)⟩, ⟨HM4.out.set (.inl (.inl rfl)) _⟩⟩
                  · rw [List.length_append, List.length_singleton]; omega
                  · rw [hF]; simp only [List.append_assoc, List.cons_append, List.nil_append, Prod.mk.injEq, and_true]; omega
      · rw [hf] at HK
        clear hf
        obtain rfl : w = W1 := hW.symm
        clear hW
        go_enter Try.func76, Try.ntmps76
        go_wp2_with (first
          | ((with_reducible refine gate_dst (N := 33) rfl ?_); refine Kd.event_run rfl (look_run (t := 132) rfl rfl rfl HK.out) ?_))
        clear c8 c9 HK
        go_loopg [9] ((put l.er seq s).length + 1) (fun kq v9 w' => ∃ (d : Nat) (x : Int) (er' : List (Int × ByteArray)) (acc : List ByteArray), Aside0 (er'.length + 1 ≤ kq ∧ x = l.want + d ∧ x ≤ 1099511627775 ∧ acc.length + er'.length ≤ 1001) ∧ Aside0 (FIN = (d + (hand kq x er').1, (hand kq x er').2.1, acc ++ (hand kq x er').2.2)) ∧ Aside0 (Kd.string.R 9 w' w.heap.size (fun _ => True) v9 acc) ∧ Aside0 (w'.heap[g]? = some (.cells (lkc { l with want := x } v m) 134 (0, 0))) ∧ Aside0 (ErAt Try.prog 3 9 w' m er') ∧ Aside0 (Mods (fun k => k = g ∨ k = m) w w'))
        case atStart => exact ⟨0, l.want, put l.er seq s, [], ⟨by have := HN.out; simp; omega⟩, ⟨by rw [HFIN.out]; simp⟩, HS0, HG1, HE1, HM1⟩
        case round =>
          clear HS0 HG1 HE1 HM1
          obtain ⟨d, x, er', acc, HX, HH, HR, HG, HE, HM⟩ := hrel
          obtain ⟨x1, x2, x3, x4⟩ := HX.out
          cases gk with
          | zero => omega
          | succ k1 =>
            have hwx : (Lit.int .i64 x).wf = true := WalkArith.wf_i64 ⟨by omega, by omega⟩
            have x5 : 1 ≤ x := by omega
            have hhand := HH.out
            clear x2
            unfold hand at hhand
            have y8 : wr.drew.cell? ⟨g, 8, none⟩ = some (.int .i64 x) := (blk_cell (blk_drew HG.out) 8).trans rfl
            have y9 : wr.drew.cell? ⟨g, 9, none⟩ = some (.map (some m)) := (blk_cell (blk_drew HG.out) 9).trans rfl
            have HED := Aside0.mk (HE.out.other (w' := wr.drew) rfl)
            have yl := HED.out.look (mt := 132) Try.underlying3 Try.underlying9 Try.underlying132 (zero9 _) hwx
            cases hf : fnd er' x with
            | none =>
              rw [hf] at yl
              simp only [hf] at hhand
              have HF := Aside0.mk hhand
              clear hhand hf
              go_wp2
              refine start_ (n := 14) (S := fun w' => w'.cell? ⟨g, 8, none⟩ = some (.int .i64 x) ∧ w'.cell? ⟨g, 9, none⟩ = some (.map (some m)) ∧ (Instr.lookup 132 (.map (some m)) (.int .i64 x) true).run Try.prog w' = .ok (.tuple #[.string ((none : Option ByteArray).getD e0), .bool (none : Option ByteArray).isSome]) w') (ds := []) #[false, false, false, false, false, false, false, false, false, false, false, false, false, false] (by kernel_rfl) rfl rfl ⟨y8, y9, yl⟩ (fun hHeld => ?_)
              refine pure_ (i := 0) (N := some 45) (v := ?_) (a' := ?_) #[true, false, false, false, false, false, false, false, false, false, false, false, false, false] rfl rfl (by kernel_rfl) (fun _ _ _ h => h) (Or.inl ⟨by rfl, ?_⟩) ?_ ?_
              rotate_left
              · intro w'; go_simp; with_reducible rfl
              rotate_left
              · simp only [Act.put, List.setIfInBounds_toArray, List.set_cons_zero, List.set_cons_succ, i64_w, i32_w]; rfl
              refine pure_ (i := 1) (N := some 46) (v := ?_) (a' := ?_) #[true, true, false, false, false, false, false, false, false, false, false, false, false, false] rfl rfl (by kernel_rfl) (fun _ _ _ h => h) (Or.inl ⟨by rfl, ?_⟩) ?_ ?_
              rotate_left
              · intro w'; go_simp; with_reducible rfl
              rotate_left
              · simp only [Act.put, List.setIfInBounds_toArray, List.set_cons_zero, List.set_cons_succ, i64_w, i32_w]; rfl
              refine pure_ (i := 2) (N := some 47) (v := ?_) (a' := ?_) #[true, true, true, false, false, false, false, false, false, false, false, false, false, false] rfl rfl (by kernel_rfl) (fun _ _ _ h => h) (Or.inl ⟨by rfl, ?_⟩) ?_ ?_
              rotate_left
              · intro w'; go_simp; with_reducible rfl
              rotate_left
              · simp only [Act.put, List.setIfInBounds_toArray, List.set_cons_zero, List.set_cons_succ, i64_w, i32_w]; rfl
              refine take_ (i := 3) (N := some 48) (v := ?_) (a' := ?_) #[true, true, true, true, false, false, false, false, false, false, false, false, false, false] rfl rfl (by kernel_rfl) (fun _ _ _ h => h) (Or.inl ⟨by rfl, ?_⟩) hHeld ?_ ?_
              rotate_left
              · rintro w' ⟨s0, s1, s2⟩; go_simp; with_reducible rfl
              rotate_left
              · simp only [Act.put, List.setIfInBounds_toArray, List.set_cons_zero, List.set_cons_succ, i64_w, i32_w]; rfl
              refine pure_ (i := 4) (N := some 49) (v := ?_) (a' := ?_) #[true, true, true, true, true, false, false, false, false, false, false, false, false, false] rfl rfl (by kernel_rfl) (fun _ _ _ h => h) (Or.inl ⟨by rfl, ?_⟩) ?_ ?_
              rotate_left
              · intro w'; go_simp; with_reducible rfl
              rotate_left
              · simp only [Act.put, List.setIfInBounds_toArray, List.set_cons_zero, List.set_cons_succ, i64_w, i32_w]; rfl
              refine pure_ (i := 5) (N := some 50) (v := ?_) (a' := ?_) #[true, true, true, true, true, true, false, false, false, false, false, false, false, false] rfl rfl (by kernel_rfl) (fun _ _ _ h => h) (Or.inl ⟨by rfl, ?_⟩) ?_ ?_
              rotate_left
              · intro w'; go_simp; with_reducible rfl
              rotate_left
              · simp only [Act.put, List.setIfInBounds_toArray, List.set_cons_zero, List.set_cons_succ, i64_w, i32_w]; rfl
              refine pure_ (i := 6) (N := some 51) (v := ?_) (a' := ?_) #[true, true, true, true, true, true, true, false, false, false, false, false, false, false] rfl rfl (by kernel_rfl) (fun _ _ _ h => h) (Or.inl ⟨by rfl, ?_⟩) ?_ ?_
              rotate_left
              · intro w'; go_simp; with_reducible rfl
              rotate_left
              · simp only [Act.put, List.setIfInBounds_toArray, List.set_cons_zero, List.set_cons_succ, i64_w, i32_w]; rfl
              refine take_ (i := 7) (N := some 52) (v := ?_) (a' := ?_) #[true, true, true, true, true, true, true, true, false, false, false, false, false, false] rfl rfl (by kernel_rfl) (fun _ _ _ h => h) (Or.inl ⟨by rfl, ?_⟩) hHeld ?_ ?_
              rotate_left
              · rintro w' ⟨s0, s1, s2⟩; go_simp; with_reducible rfl
              rotate_left
              · simp only [Act.put, List.setIfInBounds_toArray, List.set_cons_zero, List.set_cons_succ, i64_w, i32_w]; rfl
              refine take_ (i := 8) (N := some 53) (v := ?_) (a' := ?_) #[true, true, true, true, true, true, true, true, true, false, false, false, false, false] rfl rfl (by kernel_rfl) (fun _ _ _ h => h) (Or.inl ⟨by rfl, ?_⟩) hHeld ?_ ?_
              rotate_left
              · rintro w' ⟨s0, s1, s2⟩; go_simp; with_reducible rfl
              rotate_left
              · simp only [Act.put, List.setIfInBounds_toArray, List.set_cons_zero, List.set_cons_succ, i64_w, i32_w]; rfl
              refine pure_ (i := 9) (N := some 44) (v := ?_) (a' := ?_) #[true, true, true, true, true, true, true, true, true, true, false, false, false, false] rfl rfl (by kernel_rfl) (fun _ _ _ h => h) (Or.inl ⟨by rfl, ?_⟩) ?_ ?_
              rotate_left
              · intro w'; go_simp; with_reducible rfl
              rotate_left
              · simp only [Act.put, List.setIfInBounds_toArray, List.set_cons_zero, List.set_cons_succ, i64_w, i32_w]; rfl
              refine pure_ (i := 10) (N := some 54) (v := ?_) (a' := ?_) #[true, true, true, true, true, true, true, true, true, true, true, false, false, false] rfl rfl (by kernel_rfl) (fun _ _ _ h => h) (Or.inl ⟨by rfl, ?_⟩) ?_ ?_
              rotate_left
              · intro w'; go_simp; with_reducible rfl
              rotate_left
              · simp only [Act.put, List.setIfInBounds_toArray, List.set_cons_zero, List.set_cons_succ, i64_w, i32_w]; rfl
              refine pure_ (i := 11) (N := some 55) (v := ?_) (a' := ?_) #[true, true, true, true, true, true, true, true, true, true, true, true, false, false] rfl rfl (by kernel_rfl) (fun _ _ _ h => h) (Or.inl ⟨by rfl, ?_⟩) ?_ ?_
              rotate_left
              · intro w'; go_simp; with_reducible rfl
              rotate_left
              · simp only [Act.put, List.setIfInBounds_toArray, List.set_cons_zero, List.set_cons_succ, i64_w, i32_w]; rfl
              refine pure_ (i := 12) (N := some 10) (v := ?_) (a' := ?_) #[true, true, true, true, true, true, true, true, true, true, true, true, true, false] rfl rfl (by kernel_rfl) (fun _ _ _ h => h) (Or.inl ⟨by rfl, ?_⟩) ?_ ?_
              rotate_left
              · intro w'; go_simp; with_reducible rfl
              rotate_left
              · simp only [Act.put, List.setIfInBounds_toArray, List.set_cons_zero, List.set_cons_succ, i64_w, i32_w]; rfl
              refine pure_ (i := 13) (N := some 11) (v := ?_) (a' := ?_) #[true, true, true, true, true, true, true, true, true, true, true, true, true, true] rfl rfl (by kernel_rfl) (fun _ _ _ h => h) (Or.inl ⟨by rfl, ?_⟩) ?_ ?_
              rotate_left
              · intro w'; go_simp; with_reducible rfl
              rotate_left
              · simp only [Act.put, List.setIfInBounds_toArray, List.set_cons_zero, List.set_cons_succ, i64_w, i32_w]; rfl
              clear y8 y9 yl
              refine done_ (by kernel_rfl) ?_
              go_wp2
              go_ret
              have hhand := HF.out
              exact came_end HL.out HC.out HX.out.2.1 (by rw [← HFIN.out, hhand]; simp) (Kd.R_drew HR.out) (blk_drew HG.out) HED.out HM.out.drew
            | some t =>
              rw [hf] at yl
              simp only [hf] at hhand
              have y9' := y9
              by_cases hcx : 1099511627775 ≤ x
              · have d3 : decide (1099511627775 ≤ x) = true := decide_eq_true hcx
                rw [if_pos hcx] at hhand
                have HF := Aside0.mk hhand
                clear hhand hf
                go_wp2
                refine start_ (n := 14) (S := fun w' => w'.cell? ⟨g, 8, none⟩ = some (.int .i64 x) ∧ w'.cell? ⟨g, 9, none⟩ = some (.map (some m)) ∧ (Instr.lookup 132 (.map (some m)) (.int .i64 x) true).run Try.prog w' = .ok (.tuple #[.string ((some t).getD e0), .bool (some t).isSome]) w') (ds := []) #[false, false, false, false, false, false, false, false, false, false, false, false, false, false] (by kernel_rfl) rfl rfl ⟨y8, y9, yl⟩ (fun hHeld => ?_)
                refine pure_ (i := 0) (N := some 45) (v := ?_) (a' := ?_) #[true, false, false, false, false, false, false, false, false, false, false, false, false, false] rfl rfl (by kernel_rfl) (fun _ _ _ h => h) (Or.inl ⟨by rfl, ?_⟩) ?_ ?_
                rotate_left
                · intro w'; go_simp; with_reducible rfl
                rotate_left
                · simp only [Act.put, List.setIfInBounds_toArray, List.set_cons_zero, List.set_cons_succ, i64_w, i32_w]; rfl
                refine pure_ (i := 1) (N := some 46) (v := ?_) (a' := ?_) #[true, true, false, false, false, false, false, false, false, false, false, false, false, false] rfl rfl (by kernel_rfl) (fun _ _ _ h => h) (Or.inl ⟨by rfl, ?_⟩) ?_ ?_
                rotate_left
                · intro w'; go_simp; with_reducible rfl
                rotate_left
                · simp only [Act.put, List.setIfInBounds_toArray, List.set_cons_zero, List.set_cons_succ, i64_w, i32_w]; rfl
                refine pure_ (i := 2) (N := some 47) (v := ?_) (a' := ?_) #[true, true, true, false, false, false, false, false, false, false, false, false, false, false] rfl rfl (by kernel_rfl) (fun _ _ _ h => h) (Or.inl ⟨by rfl, ?_⟩) ?_ ?_
                rotate_left
                · intro w'; go_simp; with_reducible rfl
                rotate_left
                · simp only [Act.put, List.setIfInBounds_toArray, List.set_cons_zero, List.set_cons_succ, i64_w, i32_w]; rfl
                refine take_ (i := 3) (N := some 48) (v := ?_) (a' := ?_) #[true, true, true, true, false, false, false, false, false, false, false, false, false, false] rfl rfl (by kernel_rfl) (fun _ _ _ h => h) (Or.inl ⟨by rfl, ?_⟩) hHeld ?_ ?_
                rotate_left
                · rintro w' ⟨s0, s1, s2⟩; go_simp; with_reducible rfl
                rotate_left
                · simp only [Act.put, List.setIfInBounds_toArray, List.set_cons_zero, List.set_cons_succ, i64_w, i32_w]; rfl
                refine pure_ (i := 4) (N := some 49) (v := ?_) (a' := ?_) #[true, true, true, true, true, false, false, false, false, false, false, false, false, false] rfl rfl (by kernel_rfl) (fun _ _ _ h => h) (Or.inl ⟨by rfl, ?_⟩) ?_ ?_
                rotate_left
                · intro w'; go_simp; with_reducible rfl
                rotate_left
                · simp only [Act.put, List.setIfInBounds_toArray, List.set_cons_zero, List.set_cons_succ, i64_w, i32_w]; rfl
                refine pure_ (i := 5) (N := some 50) (v := ?_) (a' := ?_) #[true, true, true, true, true, true, false, false, false, false, false, false, false, false] rfl rfl (by kernel_rfl) (fun _ _ _ h => h) (Or.inl ⟨by rfl, ?_⟩) ?_ ?_
                rotate_left
                · intro w'; go_simp; with_reducible rfl
                rotate_left
                · simp only [Act.put, List.setIfInBounds_toArray, List.set_cons_zero, List.set_cons_succ, i64_w, i32_w]; rfl
                refine pure_ (i := 6) (N := some 51) (v := ?_) (a' := ?_) #[true, true, true, true, true, true, true, false, false, false, false, false, false, false] rfl rfl (by kernel_rfl) (fun _ _ _ h => h) (Or.inl ⟨by rfl, ?_⟩) ?_ ?_
                rotate_left
                · intro w'; go_simp; with_reducible rfl
                rotate_left
                · simp only [Act.put, List.setIfInBounds_toArray, List.set_cons_zero, List.set_cons_succ, i64_w, i32_w]; rfl
                refine take_ (i := 7) (N := some 52) (v := ?_) (a' := ?_) #[true, true, true, true, true, true, true, true, false, false, false, false, false, false] rfl rfl (by kernel_rfl) (fun _ _ _ h => h) (Or.inl ⟨by rfl, ?_⟩) hHeld ?_ ?_
                rotate_left
                · rintro w' ⟨s0, s1, s2⟩; go_simp; with_reducible rfl
                rotate_left
                · simp only [Act.put, List.setIfInBounds_toArray, List.set_cons_zero, List.set_cons_succ, i64_w, i32_w]; rfl
                refine take_ (i := 8) (N := some 53) (v := ?_) (a' := ?_) #[true, true, true, true, true, true, true, true, true, false, false, false, false, false] rfl rfl (by kernel_rfl) (fun _ _ _ h => h) (Or.inl ⟨by rfl, ?_⟩) hHeld ?_ ?_
                rotate_left
                · rintro w' ⟨s0, s1, s2⟩; go_simp; with_reducible rfl
                rotate_left
                · simp only [Act.put, List.setIfInBounds_toArray, List.set_cons_zero, List.set_cons_succ, i64_w, i32_w]; rfl
                refine pure_ (i := 9) (N := some 44) (v := ?_) (a' := ?_) #[true, true, true, true, true, true, true, true, true, true, false, false, false, false] rfl rfl (by kernel_rfl) (fun _ _ _ h => h) (Or.inl ⟨by rfl, ?_⟩) ?_ ?_
                rotate_left
                · intro w'; go_simp; with_reducible rfl
                rotate_left
                · simp only [Act.put, List.setIfInBounds_toArray, List.set_cons_zero, List.set_cons_succ, i64_w, i32_w]; rfl
                refine pure_ (i := 10) (N := some 54) (v := ?_) (a' := ?_) #[true, true, true, true, true, true, true, true, true, true, true, false, false, false] rfl rfl (by kernel_rfl) (fun _ _ _ h => h) (Or.inl ⟨by rfl, ?_⟩) ?_ ?_
                rotate_left
                · intro w'; go_simp; with_reducible rfl
                rotate_left
                · simp only [Act.put, List.setIfInBounds_toArray, List.set_cons_zero, List.set_cons_succ, i64_w, i32_w]; rfl
                refine pure_ (i := 11) (N := some 55) (v := ?_) (a' := ?_) #[true, true, true, true, true, true, true, true, true, true, true, true, false, false] rfl rfl (by kernel_rfl) (fun _ _ _ h => h) (Or.inl ⟨by rfl, ?_⟩) ?_ ?_
                rotate_left
                · intro w'; go_simp; with_reducible rfl
                rotate_left
                · simp only [Act.put, List.setIfInBounds_toArray, List.set_cons_zero, List.set_cons_succ, i64_w, i32_w]; rfl
                refine pure_ (i := 12) (N := some 10) (v := ?_) (a' := ?_) #[true, true, true, true, true, true, true, true, true, true, true, true, true, false] rfl rfl (by kernel_rfl) (fun _ _ _ h => h) (Or.inl ⟨by rfl, ?_⟩) ?_ ?_
                rotate_left
                · intro w'; go_simp; with_reducible rfl
                rotate_left
                · simp only [Act.put, List.setIfInBounds_toArray, List.set_cons_zero, List.set_cons_succ, i64_w, i32_w]; rfl
                refine pure_ (i := 13) (N := some 11) (v := ?_) (a' := ?_) #[true, true, true, true, true, true, true, true, true, true, true, true, true, true] rfl rfl (by kernel_rfl) (fun _ _ _ h => h) (Or.inl ⟨by rfl, ?_⟩) ?_ ?_
                rotate_left
                · intro w'; go_simp; with_reducible rfl
                rotate_left
                · simp only [Act.put, List.setIfInBounds_toArray, List.set_cons_zero, List.set_cons_succ, i64_w, i32_w]; rfl
                clear yl
                refine done_ (by kernel_rfl) ?_
                go_wp2
                go_ret
                have hhand := HF.out
                exact came_end HL.out HC.out HX.out.2.1 (by rw [← HFIN.out, hhand]; simp) (Kd.R_drew HR.out) (blk_drew HG.out) HED.out HM.out.drew
              · have d3 : decide (1099511627775 ≤ x) = false := decide_eq_false hcx
                rw [if_neg hcx] at hhand
                have HF := Aside0.mk hhand
                have hdl := del_len hf
                clear hhand hf
                go_wp2
                refine start_ (n := 14) (S := fun w' => w'.cell? ⟨g, 8, none⟩ = some (.int .i64 x) ∧ w'.cell? ⟨g, 9, none⟩ = some (.map (some m)) ∧ (Instr.lookup 132 (.map (some m)) (.int .i64 x) true).run Try.prog w' = .ok (.tuple #[.string ((some t).getD e0), .bool (some t).isSome]) w') (ds := []) #[false, false, false, false, false, false, false, false, false, false, false, false, false, false] (by kernel_rfl) rfl rfl ⟨y8, y9, yl⟩ (fun hHeld => ?_)
                refine pure_ (i := 0) (N := some 45) (v := ?_) (a' := ?_) #[true, false, false, false, false, false, false, false, false, false, false, false, false, false] rfl rfl (by kernel_rfl) (fun _ _ _ h => h) (Or.inl ⟨by rfl, ?_⟩) ?_ ?_
                rotate_left
                · intro w'; go_simp; with_reducible rfl
                rotate_left
                · simp only [Act.put, List.setIfInBounds_toArray, List.set_cons_zero, List.set_cons_succ, i64_w, i32_w]; rfl
                refine pure_ (i := 1) (N := some 46) (v := ?_) (a' := ?_) #[true, true, false, false, false, false, false, false, false, false, false, false, false, false] rfl rfl (by kernel_rfl) (fun _ _ _ h => h) (Or.inl ⟨by rfl, ?_⟩) ?_ ?_
                rotate_left
                · intro w'; go_simp; with_reducible rfl
                rotate_left
                · simp only [Act.put, List.setIfInBounds_toArray, List.set_cons_zero, List.set_cons_succ, i64_w, i32_w]; rfl
                refine pure_ (i := 2) (N := some 47) (v := ?_) (a' := ?_) #[true, true, true, false, false, false, false, false, false, false, false, false, false, false] rfl rfl (by kernel_rfl) (fun _ _ _ h => h) (Or.inl ⟨by rfl, ?_⟩) ?_ ?_
                rotate_left
                · intro w'; go_simp; with_reducible rfl
                rotate_left
                · simp only [Act.put, List.setIfInBounds_toArray, List.set_cons_zero, List.set_cons_succ, i64_w, i32_w]; rfl
                refine take_ (i := 3) (N := some 48) (v := ?_) (a' := ?_) #[true, true, true, true, false, false, false, false, false, false, false, false, false, false] rfl rfl (by kernel_rfl) (fun _ _ _ h => h) (Or.inl ⟨by rfl, ?_⟩) hHeld ?_ ?_
                rotate_left
                · rintro w' ⟨s0, s1, s2⟩; go_simp; with_reducible rfl
                rotate_left
                · simp only [Act.put, List.setIfInBounds_toArray, List.set_cons_zero, List.set_cons_succ, i64_w, i32_w]; rfl
                refine pure_ (i := 4) (N := some 49) (v := ?_) (a' := ?_) #[true, true, true, true, true, false, false, false, false, false, false, false, false, false] rfl rfl (by kernel_rfl) (fun _ _ _ h => h) (Or.inl ⟨by rfl, ?_⟩) ?_ ?_
                rotate_left
                · intro w'; go_simp; with_reducible rfl
                rotate_left
                · simp only [Act.put, List.setIfInBounds_toArray, List.set_cons_zero, List.set_cons_succ, i64_w, i32_w]; rfl
                refine pure_ (i := 5) (N := some 50) (v := ?_) (a' := ?_) #[true, true, true, true, true, true, false, false, false, false, false, false, false, false] rfl rfl (by kernel_rfl) (fun _ _ _ h => h) (Or.inl ⟨by rfl, ?_⟩) ?_ ?_
                rotate_left
                · intro w'; go_simp; with_reducible rfl
                rotate_left
                · simp only [Act.put, List.setIfInBounds_toArray, List.set_cons_zero, List.set_cons_succ, i64_w, i32_w]; rfl
                refine pure_ (i := 6) (N := some 51) (v := ?_) (a' := ?_) #[true, true, true, true, true, true, true, false, false, false, false, false, false, false] rfl rfl (by kernel_rfl) (fun _ _ _ h => h) (Or.inl ⟨by rfl, ?_⟩) ?_ ?_
                rotate_left
                · intro w'; go_simp; with_reducible rfl
                rotate_left
                · simp only [Act.put, List.setIfInBounds_toArray, List.set_cons_zero, List.set_cons_succ, i64_w, i32_w]; rfl
                refine take_ (i := 7) (N := some 52) (v := ?_) (a' := ?_) #[true, true, true, true, true, true, true, true, false, false, false, false, false, false] rfl rfl (by kernel_rfl) (fun _ _ _ h => h) (Or.inl ⟨by rfl, ?_⟩) hHeld ?_ ?_
                rotate_left
                · rintro w' ⟨s0, s1, s2⟩; go_simp; with_reducible rfl
                rotate_left
                · simp only [Act.put, List.setIfInBounds_toArray, List.set_cons_zero, List.set_cons_succ, i64_w, i32_w]; rfl
                refine take_ (i := 8) (N := some 53) (v := ?_) (a' := ?_) #[true, true, true, true, true, true, true, true, true, false, false, false, false, false] rfl rfl (by kernel_rfl) (fun _ _ _ h => h) (Or.inl ⟨by rfl, ?_⟩) hHeld ?_ ?_
                rotate_left
                · rintro w' ⟨s0, s1, s2⟩; go_simp; with_reducible rfl
                rotate_left
                · simp only [Act.put, List.setIfInBounds_toArray, List.set_cons_zero, List.set_cons_succ, i64_w, i32_w]; rfl
                refine pure_ (i := 9) (N := some 44) (v := ?_) (a' := ?_) #[true, true, true, true, true, true, true, true, true, true, false, false, false, false] rfl rfl (by kernel_rfl) (fun _ _ _ h => h) (Or.inl ⟨by rfl, ?_⟩) ?_ ?_
                rotate_left
                · intro w'; go_simp; with_reducible rfl
                rotate_left
                · simp only [Act.put, List.setIfInBounds_toArray, List.set_cons_zero, List.set_cons_succ, i64_w, i32_w]; rfl
                refine pure_ (i := 10) (N := some 54) (v := ?_) (a' := ?_) #[true, true, true, true, true, true, true, true, true, true, true, false, false, false] rfl rfl (by kernel_rfl) (fun _ _ _ h => h) (Or.inl ⟨by rfl, ?_⟩) ?_ ?_
                rotate_left
                · intro w'; go_simp; with_reducible rfl
                rotate_left
                · simp only [Act.put, List.setIfInBounds_toArray, List.set_cons_zero, List.set_cons_succ, i64_w, i32_w]; rfl
                refine pure_ (i := 11) (N := some 55) (v := ?_) (a' := ?_) #[true, true, true, true, true, true, true, true, true, true, true, true, false, false] rfl rfl (by kernel_rfl) (fun _ _ _ h => h) (Or.inl ⟨by rfl, ?_⟩) ?_ ?_
                rotate_left
                · intro w'; go_simp; with_reducible rfl
                rotate_left
                · simp only [Act.put, List.setIfInBounds_toArray, List.set_cons_zero, List.set_cons_succ, i64_w, i32_w]; rfl
                refine pure_ (i := 12) (N := some 10) (v := ?_) (a' := ?_) #[true, true, true, true, true, true, true, true, true, true, true, true, true, false] rfl rfl (by kernel_rfl) (fun _ _ _ h => h) (Or.inl ⟨by rfl, ?_⟩) ?_ ?_
                rotate_left
                · intro w'; go_simp; with_reducible rfl
                rotate_left
                · simp only [Act.put, List.setIfInBounds_toArray, List.set_cons_zero, List.set_cons_succ, i64_w, i32_w]; rfl
                refine pure_ (i := 13) (N := some 11) (v := ?_) (a' := ?_) #[true, true, true, true, true, true, true, true, true, true, true, true, true, true] rfl rfl (by kernel_rfl) (fun _ _ _ h => h) (Or.inl ⟨by rfl, ?_⟩) ?_ ?_
                rotate_left
                · intro w'; go_simp; with_reducible rfl
                rotate_left
                · simp only [Act.put, List.setIfInBounds_toArray, List.set_cons_zero, List.set_cons_succ, i64_w, i32_w]; rfl
                clear yl
                refine done_ (by kernel_rfl) ?_
                go_wp2
                have z8 : wr.drew.drew.cell? ⟨g, 8, none⟩ = some (.int .i64 x) := (blk_cell (blk_drew (blk_drew HG.out)) 8).trans rfl
                have z9 : wr.drew.drew.cell? ⟨g, 9, none⟩ = some (.map (some m)) := (blk_cell (blk_drew (blk_drew HG.out)) 9).trans rfl
                have HED2 := Aside0.mk (HE.out.other (w' := wr.drew.drew) rfl)
                have HRD := Aside0.mk (show Kd.string.R 9 wr.drew.drew w.heap.size (fun _ => True) u9 acc from Kd.R_drew (Kd.R_drew HR.out))
                have HGD := Aside0.mk (blk_drew (blk_drew HG.out))
                have HMD := Aside0.mk (HM.out.drew.drew)
                clear y8 y9 y9' HED HE HR HG HM
                refine start_ (n := 9) (S := fun w' => w'.cell? ⟨g, 8, none⟩ = some (.int .i64 x) ∧ w'.cell? ⟨g, 9, none⟩ = some (.map (some m))) (ds := [8]) #[false, false, false, false, false, false, false, false, false] (by kernel_rfl) rfl rfl ⟨z8, z9⟩ (fun hHeld => ?_)
                refine pure_ (i := 0) (N := some 66) (v := ?_) (a' := ?_) #[true, false, false, false, false, false, false, false, false] rfl rfl (by kernel_rfl) (fun _ _ _ h => h) (Or.inl ⟨by rfl, ?_⟩) ?_ ?_
                rotate_left
                · intro w'; go_simp; with_reducible rfl
                rotate_left
                · simp only [Act.put, List.setIfInBounds_toArray, List.set_cons_zero, List.set_cons_succ, i64_w, i32_w]; rfl
                refine pure_ (i := 1) (N := some 67) (v := ?_) (a' := ?_) #[true, true, false, false, false, false, false, false, false] rfl rfl (by kernel_rfl) (fun _ _ _ h => h) (Or.inl ⟨by rfl, ?_⟩) ?_ ?_
                rotate_left
                · intro w'; go_simp; with_reducible rfl
                rotate_left
                · simp only [Act.put, List.setIfInBounds_toArray, List.set_cons_zero, List.set_cons_succ, i64_w, i32_w]; rfl
                refine pure_ (i := 2) (N := some 68) (v := ?_) (a' := ?_) #[true, true, true, false, false, false, false, false, false] rfl rfl (by kernel_rfl) (fun _ _ _ h => h) (Or.inl ⟨by rfl, ?_⟩) ?_ ?_
                rotate_left
                · intro w'; go_simp; with_reducible rfl
                rotate_left
                · simp only [Act.put, List.setIfInBounds_toArray, List.set_cons_zero, List.set_cons_succ, i64_w, i32_w]; rfl
                refine take_ (i := 3) (N := some 69) (v := ?_) (a' := ?_) #[true, true, true, true, false, false, false, false, false] rfl rfl (by kernel_rfl) (fun _ _ _ h => h) (Or.inl ⟨by rfl, ?_⟩) hHeld ?_ ?_
                rotate_left
                · rintro w' ⟨s0, s1⟩; go_simp; with_reducible rfl
                rotate_left
                · simp only [Act.put, List.setIfInBounds_toArray, List.set_cons_zero, List.set_cons_succ, i64_w, i32_w]; rfl
                refine pure_ (i := 4) (N := some 70) (v := ?_) (a' := ?_) #[true, true, true, true, true, false, false, false, false] rfl rfl (by kernel_rfl) (fun _ _ _ h => h) (Or.inl ⟨by rfl, ?_⟩) ?_ ?_
                rotate_left
                · intro w'; go_simp; with_reducible rfl
                rotate_left
                · simp only [Act.put, List.setIfInBounds_toArray, List.set_cons_zero, List.set_cons_succ, i64_w, i32_w]; rfl
                refine pure_ (i := 5) (N := some 71) (v := ?_) (a' := ?_) #[true, true, true, true, true, true, false, false, false] rfl rfl (by kernel_rfl) (fun _ _ _ h => h) (Or.inl ⟨by rfl, ?_⟩) ?_ ?_
                rotate_left
                · intro w'; go_simp; with_reducible rfl
                rotate_left
                · simp only [Act.put, List.setIfInBounds_toArray, List.set_cons_zero, List.set_cons_succ, i64_w, i32_w]; rfl
                refine pure_ (i := 6) (N := some 72) (v := ?_) (a' := ?_) #[true, true, true, true, true, true, true, false, false] rfl rfl (by kernel_rfl) (fun _ _ _ h => h) (Or.inl ⟨by rfl, ?_⟩) ?_ ?_
                rotate_left
                · intro w'; go_simp; with_reducible rfl
                rotate_left
                · simp only [Act.put, List.setIfInBounds_toArray, List.set_cons_zero, List.set_cons_succ, i64_w, i32_w]; rfl
                refine take_ (i := 7) (N := some 73) (v := ?_) (a' := ?_) #[true, true, true, true, true, true, true, true, false] rfl rfl (by kernel_rfl) (fun _ _ _ h => h) (Or.inl ⟨by rfl, ?_⟩) hHeld ?_ ?_
                rotate_left
                · rintro w' ⟨s0, s1⟩; go_simp; with_reducible rfl
                rotate_left
                · simp only [Act.put, List.setIfInBounds_toArray, List.set_cons_zero, List.set_cons_succ, i64_w, i32_w]; rfl
                clear z8 z9
                generalize wr.drew.drew = W2 at *
                obtain ⟨W3, hdr, he3, hg3, hs3⟩ := HED2.out.drop (mt := 132) Try.underlying3 Try.underlying9 Try.underlying132 hwx 0
                refine last_ (i := 8) (N := none) #[true, true, true, true, true, true, true, true, true] rfl rfl (by kernel_rfl) (by decide) (fun K hK => ?_)
                refine event_step (v := .tuple #[]) (w1 := W3) (by rfl) (delete_run rfl rfl rfl hdr) ?_
                have HE3 := Aside0.mk he3
                have HM3 := Aside0.mk (grown_mods HMD.out hg3 (.inr rfl))
                have hgm : m ≠ g := HL.out.ne_map
                have HG3 := Aside0.mk ((hg3.block g (blk_lt HGD.out) (fun e => hgm (by injection e with e; exact e.symm))).trans HGD.out)
                have hmw : m < w.heap.size := HL.out.er.lt
                have HR3 := Aside0.mk (Kd.R_grown (ok := fun k => w.heap.size ≤ k) (Kd.R_mono (Kd.R_bound HRD.out) (fun k hk => hk.2.1)) hg3 (fun k hk e => by injection e with e; omega))
                clear he3 hg3 hdr hs3 HED2 HRD HGD HMD hgm
                refine hK.out _ _ ?_
                clear hK K
                refine norm_ (a' := ?_) ?_ ?_
                rotate_left
                · show Act.put _ none _ = _
                  rfl
                refine done_ (by kernel_rfl) ?_
                have hglt : g < w.heap.size := HL.out.lt
                have HR3 := Aside0.mk (Kd.R_mono HR3.out (ok' := fun _ => True) (fun _ _ => trivial))
                have hrow3 : ∀ k, u9.ownBlock = some k → w.heap.size ≤ k := fun k hk => by obtain ⟨inner, hi⟩ := Kd.R_own HR3.out; exact own_base hi k hk
                have hsw : w.heap.size ≤ W3.heap.size := HM3.out.size
                have hal : (acc.length + 1) * 16 ≤ 140737488355328 := by omega
                go_wp2_with (first
                  | ((with_reducible refine gate_dst (N := 77) rfl ?_); at_builtin; refine Kd.R_append Kd.string (w0 := W3) w.heap.size rfl (.tmp 74) (.tmp 76) 73 9 (.string ⟨#[]⟩) 16 rfl Try.underlying73 info9 rfl (by decide) (by omega) u9 acc t [.string t] (fun _ => True) (fun _ => False) rfl rfl rfl (fun _ hk => hk.elim) (fun _ _ => trivial) HR3.out (Below.refl _ _) hsw hal ?_; intro v4 W4 ho4 hb4 hg4 hat4; have HR4 := Aside0.mk ho4; have HM4 := Aside0.mk (HM3.out.grown hg4 (fun k hk => .inr (hrow3 k hk))); have HG4 := Aside0.mk ((hg4.block g (blk_lt HG3.out) (fun e => by have := hrow3 g e.symm; omega)).trans HG3.out); have HE4 := Aside0.mk (HE3.out.other (hg4.block m HE3.out.lt (fun e => by have := hrow3 m e.symm; omega))); clear ho4 hb4 hg4 hat4; have c8 : W4.cell? ⟨g, 8, none⟩ = some (.int .i64 x) := (blk_cell HG4.out 8).trans rfl; have f8 := blk_frozen HG4.out 8))
                go_roundg k1
                case measure => omega
                case rel =>
                  have hx2 := HX.out.2.1
                  have hF := HF.out
                  refine ⟨d + 1, x + 1, del er' x, acc ++ [t], ⟨by omega, by omega, by omega, ?_⟩, ⟨?_⟩, ⟨Kd.R_set HR4.out HG4.out (string_types (by decide)) 8 _⟩, ⟨blk_set HG4.out 8 _⟩, ⟨HE4.out.other (Below.heap_setCell _ _ _ _ HL.out.ne_map)⟩, ⟨HM4.out.set (.inl (.inl rfl)) _⟩⟩
                  · rw [List.length_append, List.length_singleton]; omega
                  · rw [hF]; simp only [List.append_assoc, List.cons_append, List.nil_append, Prod.mk.injEq, and_true]; omega
end Go.Proofs.Ytdibaeomepallaa.LK
