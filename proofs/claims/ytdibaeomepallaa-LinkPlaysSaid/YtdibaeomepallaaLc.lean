/- What goes out of an end of a link: goOut. By hand. -/
import Derived.Test.YtdibaeomepallaaLb
namespace Go.Proofs.Ytdibaeomepallaa.LK
open Go.RowKit Go.Proofs.YtdibaeomepallaaW.PrintWords Go.Proofs.YtdibaeomepallaaW.PrintLast Go.Proofs.YtdibaeomepallaaW.PrintMore Go.Proofs.Ytdibaeomepallaa.PAll Go.Proofs.Ytdibaeomepallaa.NW
set_option linter.unusedVariables false
set_option linter.unusedSimpArgs false
set_option maxRecDepth 100000
theorem pk_M (w : World) (base : Nat) (ok : Nat → Prop) (p : Pk) : k28.M w base ok p (pk p) := k28_mkM _ _ _ p
theorem outs_succ (l : Lk) (a n : Nat) : outs l a (n + 1) = outs l a n ++ [nth l (a + n)] := by
  unfold outs
  rw [List.range'_concat, List.map_append, Nat.one_mul]
  rfl
theorem outs_len (l : Lk) (a n : Nat) : (outs l a n).length = n := by unfold outs; simp
/-- A text of a row: its cell. -/
theorem text_of {w : World} {base : Nat} {ok : Nat → Prop} {A : Option Addr} {n c : Nat} {q : List ByteArray} (h : Kd.string.R 9 w base ok (.slice A n c) q) {i : Nat} (hi : i < q.length) : ∃ ad, A = some ad ∧ w.cell? (ad.add i) = some (.string (q.getD i e0)) := by
  obtain ⟨rfl, hc, hr⟩ := Kd.R_reads' h
  obtain ⟨ad, hA, hcell⟩ := Kd.at_string hr (i : Int) (by omega) (by omega)
  refine ⟨ad, hA, ?_⟩
  rw [Int.toNat_natCast] at hcell
  rw [hcell]
  unfold rdOf
  rw [Int.toNat_natCast]
  rfl
/-- The queue's row is as it was where the link's own block alone has turned. -/
theorem LkAt.row_mods {w w' : World} {g m : Nat} {l : Lk} {v : Value} (h : LkAt w g l v m) (hm : Mods (fun k => k = g) w w') : Kd.string.R 9 w' 0 (fun _ => True) v l.q :=
  Kd.R_mono (Kd.R_step (ok := fun k => v.ownBlock = some k) ⟨fun _ hk => hk, by
    obtain ⟨_, inner, ho, hr⟩ := h.row
    exact ⟨inner, ho, hr⟩⟩ (fun k hk hlt => hm.block k hlt (fun e => h.ne_row (by rw [← e]; exact hk)))) (fun _ _ => trivial)
theorem k28_types {t : Nat} (ht : 28 ≠ t) : ∀ q, q ∈ (28 : Nat) :: k28.E → q ≠ t := by
  intro q hq
  have : q = 28 := by simpa [k28, Kd.iso, Kd.pair, Kd.int, Kd.string, Kd.scalar] using hq
  subst this
  exact ht
theorem info28p : (Try.prog.info? 28).map (fun i => (i.zero, i.size, i.bytes)) = some (some (.agg #[.int .i64 0, .int .i64 0, .int .i64 0, .int .i64 0, .int .i64 0, .int .i64 0, .string ⟨#[]⟩]), k28.sz, 64) := info28
theorem goOut_end {w wr : World} {g m : Nat} {l : Lk} {v v3 : Value} {N o : Nat} (hN : N = min 8 l.q.length - l.out) (ho : o = max l.out (min 8 l.q.length)) (hr : k28.R 28 wr w.heap.size (fun _ => True) v3 (outs l l.out (o - l.out))) (hg : wr.heap[g]? = some (.cells (lkc { l with out := o } v m) 134 (0, 0))) (hm : Mods (fun k => k = g) w wr) (n : Nat) :
    ∃ o, Ending.returned v3 = .returned o ∧ k28.R 28 (wr.drewN n) w.heap.size (fun _ => True) o (goP l) ∧ (wr.drewN n).heap[g]? = some (.cells (lkc (goL l) v m) 134 (0, 0)) ∧ Mods (fun k => k = g) w (wr.drewN n) := by
  subst ho
  refine ⟨v3, rfl, Kd.R_drewN ?_ n, hg, hm.drewN n⟩
  have e : max l.out (min 8 l.q.length) - l.out = min 8 l.q.length - l.out := by omega
  rw [e] at hr
  exact hr
theorem packet_o {w : World} {g m : Nat} {l : Lk} {v : Value} (o : Nat) (hb : w.heap[g]? = some (.cells (lkc { l with out := o } v m) 134 (0, 0))) (h0 : 0 ≤ l.want) (h1 : l.want ≤ 1099511627775) (seq : Int) (s : ByteArray) (p : Pk) (hp : p = pkt l seq s) :
    Calls Try.prog 77 #[.pointer (some ⟨g, 0, none⟩), .int .i64 seq, .string s] w fun e w' => e = .returned (.agg (pk p).toArray) ∧ Below w.heap.size w w' := by
  subst hp
  exact packet_is (l := { l with out := o }) hb h0 h1 seq s
set_option maxHeartbeats 4000000 in
theorem goOut_is {w : World} {g m : Nat} {l : Lk} {v : Value} (h : LkAt w g l v m) (hb : Bd l) :
    Calls Try.prog 74 #[.pointer (some ⟨g, 0, none⟩)] w fun e w' => ∃ o, e = .returned o ∧ k28.R 28 w' w.heap.size (fun _ => True) o (goP l) ∧ w'.heap[g]? = some (.cells (lkc (goL l) v m) 134 (0, 0)) ∧ Mods (fun k => k = g) w w' := by
  have hu28 := Try.underlying28
  obtain ⟨b1, b2, o8, oq, q64, w1, w2, _⟩ := hb
  obtain ⟨N, hN⟩ : ∃ N, N = min 8 l.q.length - l.out := ⟨_, rfl⟩
  have HN := Aside0.mk hN
  have HL := Aside0.mk h
  have hglt := h.lt
  have HM0 := Aside0.mk (Mods.refl (fun k => k = g) w)
  have HR0 := Aside0.mk (Kd.R_nil k28 28 w w.heap.size (fun _ => True))
  have HG0 := Aside0.mk h.blk
  obtain ⟨A, c, rfl, hcl, _⟩ := Kd.R_reads h.row
  clear h
  go_enter Try.func74, Try.ntmps74
  go_wp2
  go_loopg [3] N (fun kq v3 w' => ∃ o : Nat, Aside0 (l.out ≤ o ∧ o + kq = l.out + N) ∧ Aside0 (k28.R 28 w' w.heap.size (fun _ => True) v3 (outs l l.out (o - l.out))) ∧ Aside0 (w'.heap[g]? = some (.cells (lkc { l with out := o } (.slice A l.q.length c) m) 134 (0, 0))) ∧ Aside0 (Mods (fun k => k = g) w w'))
  case atStart => exact ⟨l.out, ⟨⟨Nat.le_refl _, rfl⟩⟩, ⟨by rw [Nat.sub_self]; exact HR0.out⟩, HG0, HM0⟩
  case round =>
    clear HM0 HR0 HG0
    obtain ⟨o, HO, HR, HG, HM⟩ := hrel
    obtain ⟨ho1, ho2⟩ := HO.out
    have hNo := HN.out
    have c7 := (blk_cell HG.out 7).trans (show (lkc { l with out := o } (.slice A l.q.length c) m)[7]? = some (.int .i64 o) from rfl)
    have c5 := (blk_cell HG.out 5).trans (show (lkc { l with out := o } (.slice A l.q.length c) m)[5]? = some (.slice A l.q.length c) from rfl)
    cases gk with
    | zero =>
      have hcond : ¬ (o < 8 ∧ o < l.q.length) := by omega
      have hend : o = max l.out (min 8 l.q.length) := by omega
      have HE := Aside0.mk hend
      clear hend
      by_cases h8 : o < 8
      · have d1 : decide ((o : Int) < 8) = true := decide_eq_true (by omega)
        have d2 : decide (o < l.q.length) = false := decide_eq_false (fun e => hcond ⟨h8, e⟩)
        go_wp2
        go_quiet (fail)
        go_wp2
        go_ret
        exact goOut_end HN.out HE.out HR.out HG.out HM.out _
      · have d1 : decide ((o : Int) < 8) = false := decide_eq_false (by omega)
        go_wp2
        go_quiet (fail)
        go_wp2
        go_ret
        exact goOut_end HN.out HE.out HR.out HG.out HM.out _
    | succ k1 =>
      have h8 : o < 8 := by omega
      have hq : o < l.q.length := by omega
      have d1 : decide ((o : Int) < 8) = true := decide_eq_true (by omega)
      have d2 : decide (o < l.q.length) = true := decide_eq_true hq
      go_wp2
      go_quiet (fail)
      go_wp2
      have hs1 : w.heap.size ≤ wr.heap.size := HM.out.size
      obtain ⟨W, hW⟩ : ∃ W, W = wr.drewN nq := ⟨_, rfl⟩
      rw [← hW]
      have HGW := Aside0.mk (show W.drew.heap[g]? = some (.cells (lkc { l with out := o } (.slice A l.q.length c) m) 134 (0, 0)) by rw [hW]; exact HG.out)
      have HRW := Aside0.mk (show k28.R 28 W.drew w.heap.size (fun _ => True) u3 (outs l l.out (o - l.out)) by rw [hW]; exact Kd.R_drew (Kd.R_drewN HR.out _))
      have HMW := Aside0.mk (show Mods (fun k => k = g) w W.drew by rw [hW]; exact (HM.out.drewN _).drew)
      clear hW c7 c5 HG HR HM
      have hrow := HL.out.row_mods HMW.out
      obtain ⟨s, hs⟩ : ∃ s, s = l.q.getD o e0 := ⟨_, rfl⟩
      have HS := Aside0.mk hs
      clear hs
      obtain ⟨ad, hA, xt⟩ := text_of hrow hq
      subst hA
      rw [← HS.out] at xt
      have x5 := (blk_cell HGW.out 5).trans (show (lkc { l with out := o } (.slice (some ad) l.q.length c) m)[5]? = some (.slice (some ad) l.q.length c) from rfl)
      have x6 := (blk_cell HGW.out 6).trans (show (lkc { l with out := o } (.slice (some ad) l.q.length c) m)[6]? = some (.int .i64 l.base) from rfl)
      have x7 := (blk_cell HGW.out 7).trans (show (lkc { l with out := o } (.slice (some ad) l.q.length c) m)[7]? = some (.int .i64 o) from rfl)
      have i1 : (0 : Int) ≤ (o : Int) := by omega
      have i2 : (o : Int) < (l.q.length : Int) := by omega
      refine start_ (n := 25) (S := fun w' => w'.cell? ⟨g, 5, none⟩ = some (.slice (some ad) l.q.length c) ∧ w'.cell? ⟨g, 6, none⟩ = some (.int .i64 l.base) ∧ w'.cell? ⟨g, 7, none⟩ = some (.int .i64 o) ∧ w'.cell? (ad.add o) = some (.string s)) (ds := []) #[false, false, false, false, false, false, false, false, false, false, false, false, false, false, false, false, false, false, false, false, false, false, false, false, false] (by kernel_rfl) rfl rfl ⟨x5, x6, x7, xt⟩ (fun hHeld => ?_)
      refine pure_ (i := 0) (N := some 21) (v := ?_) (a' := ?_) #[true, false, false, false, false, false, false, false, false, false, false, false, false, false, false, false, false, false, false, false, false, false, false, false, false] rfl rfl (by kernel_rfl) (fun _ _ _ h => h) (Or.inl ⟨by rfl, ?_⟩) ?_ ?_
      rotate_left
      · intro w'; go_simp; with_reducible rfl
      rotate_left
      · simp only [Act.put, List.setIfInBounds_toArray, List.set_cons_zero, List.set_cons_succ, i64_w, i32_w]; rfl
      refine pure_ (i := 1) (N := some 22) (v := ?_) (a' := ?_) #[true, true, false, false, false, false, false, false, false, false, false, false, false, false, false, false, false, false, false, false, false, false, false, false, false] rfl rfl (by kernel_rfl) (fun _ _ _ h => h) (Or.inl ⟨by rfl, ?_⟩) ?_ ?_
      rotate_left
      · intro w'; go_simp; with_reducible rfl
      rotate_left
      · simp only [Act.put, List.setIfInBounds_toArray, List.set_cons_zero, List.set_cons_succ, i64_w, i32_w]; rfl
      refine pure_ (i := 2) (N := some 23) (v := ?_) (a' := ?_) #[true, true, true, false, false, false, false, false, false, false, false, false, false, false, false, false, false, false, false, false, false, false, false, false, false] rfl rfl (by kernel_rfl) (fun _ _ _ h => h) (Or.inl ⟨by rfl, ?_⟩) ?_ ?_
      rotate_left
      · intro w'; go_simp; with_reducible rfl
      rotate_left
      · simp only [Act.put, List.setIfInBounds_toArray, List.set_cons_zero, List.set_cons_succ, i64_w, i32_w]; rfl
      refine pure_ (i := 3) (N := some 24) (v := ?_) (a' := ?_) #[true, true, true, true, false, false, false, false, false, false, false, false, false, false, false, false, false, false, false, false, false, false, false, false, false] rfl rfl (by kernel_rfl) (fun _ _ _ h => h) (Or.inl ⟨by rfl, ?_⟩) ?_ ?_
      rotate_left
      · intro w'; go_simp; with_reducible rfl
      rotate_left
      · simp only [Act.put, List.setIfInBounds_toArray, List.set_cons_zero, List.set_cons_succ, i64_w, i32_w]; rfl
      refine pure_ (i := 4) (N := some 25) (v := ?_) (a' := ?_) #[true, true, true, true, true, false, false, false, false, false, false, false, false, false, false, false, false, false, false, false, false, false, false, false, false] rfl rfl (by kernel_rfl) (fun _ _ _ h => h) (Or.inl ⟨by rfl, ?_⟩) ?_ ?_
      rotate_left
      · intro w'; go_simp; with_reducible rfl
      rotate_left
      · simp only [Act.put, List.setIfInBounds_toArray, List.set_cons_zero, List.set_cons_succ, i64_w, i32_w]; rfl
      refine take_ (i := 5) (N := some 26) (v := ?_) (a' := ?_) #[true, true, true, true, true, true, false, false, false, false, false, false, false, false, false, false, false, false, false, false, false, false, false, false, false] rfl rfl (by kernel_rfl) (fun _ _ _ h => h) (Or.inl ⟨by rfl, ?_⟩) hHeld ?_ ?_
      rotate_left
      · rintro w' ⟨s0, s1, s2, s3⟩; go_simp; with_reducible rfl
      rotate_left
      · simp only [Act.put, List.setIfInBounds_toArray, List.set_cons_zero, List.set_cons_succ, i64_w, i32_w]; rfl
      refine pure_ (i := 6) (N := some 27) (v := ?_) (a' := ?_) #[true, true, true, true, true, true, true, false, false, false, false, false, false, false, false, false, false, false, false, false, false, false, false, false, false] rfl rfl (by kernel_rfl) (fun _ _ _ h => h) (Or.inl ⟨by rfl, ?_⟩) ?_ ?_
      rotate_left
      · intro w'; go_simp; with_reducible rfl
      rotate_left
      · simp only [Act.put, List.setIfInBounds_toArray, List.set_cons_zero, List.set_cons_succ, i64_w, i32_w]; rfl
      refine pure_ (i := 7) (N := some 28) (v := ?_) (a' := ?_) #[true, true, true, true, true, true, true, true, false, false, false, false, false, false, false, false, false, false, false, false, false, false, false, false, false] rfl rfl (by kernel_rfl) (fun _ _ _ h => h) (Or.inl ⟨by rfl, ?_⟩) ?_ ?_
      rotate_left
      · intro w'; go_simp; with_reducible rfl
      rotate_left
      · simp only [Act.put, List.setIfInBounds_toArray, List.set_cons_zero, List.set_cons_succ, i64_w, i32_w]; rfl
      refine pure_ (i := 8) (N := some 29) (v := ?_) (a' := ?_) #[true, true, true, true, true, true, true, true, true, false, false, false, false, false, false, false, false, false, false, false, false, false, false, false, false] rfl rfl (by kernel_rfl) (fun _ _ _ h => h) (Or.inl ⟨by rfl, ?_⟩) ?_ ?_
      rotate_left
      · intro w'; go_simp; with_reducible rfl
      rotate_left
      · simp only [Act.put, List.setIfInBounds_toArray, List.set_cons_zero, List.set_cons_succ, i64_w, i32_w]; rfl
      refine take_ (i := 9) (N := some 30) (v := ?_) (a' := ?_) #[true, true, true, true, true, true, true, true, true, true, false, false, false, false, false, false, false, false, false, false, false, false, false, false, false] rfl rfl (by kernel_rfl) (fun _ _ _ h => h) (Or.inl ⟨by rfl, ?_⟩) hHeld ?_ ?_
      rotate_left
      · rintro w' ⟨s0, s1, s2, s3⟩; go_simp; with_reducible rfl
      rotate_left
      · simp only [Act.put, List.setIfInBounds_toArray, List.set_cons_zero, List.set_cons_succ, i64_w, i32_w]; rfl
      refine pure_ (i := 10) (N := some 31) (v := ?_) (a' := ?_) #[true, true, true, true, true, true, true, true, true, true, true, false, false, false, false, false, false, false, false, false, false, false, false, false, false] rfl rfl (by kernel_rfl) (fun _ _ _ h => h) (Or.inl ⟨by rfl, ?_⟩) ?_ ?_
      rotate_left
      · intro w'; go_simp; with_reducible rfl
      rotate_left
      · simp only [Act.put, List.setIfInBounds_toArray, List.set_cons_zero, List.set_cons_succ, i64_w, i32_w]; rfl
      refine pure_ (i := 11) (N := some 32) (v := ?_) (a' := ?_) #[true, true, true, true, true, true, true, true, true, true, true, true, false, false, false, false, false, false, false, false, false, false, false, false, false] rfl rfl (by kernel_rfl) (fun _ _ _ h => h) (Or.inl ⟨by rfl, ?_⟩) ?_ ?_
      rotate_left
      · intro w'; go_simp; with_reducible rfl
      rotate_left
      · simp only [Act.put, List.setIfInBounds_toArray, List.set_cons_zero, List.set_cons_succ, i64_w, i32_w]; rfl
      refine pure_ (i := 12) (N := some 33) (v := ?_) (a' := ?_) #[true, true, true, true, true, true, true, true, true, true, true, true, true, false, false, false, false, false, false, false, false, false, false, false, false] rfl rfl (by kernel_rfl) (fun _ _ _ h => h) (Or.inl ⟨by rfl, ?_⟩) ?_ ?_
      rotate_left
      · intro w'; go_simp; with_reducible rfl
      rotate_left
      · simp only [Act.put, List.setIfInBounds_toArray, List.set_cons_zero, List.set_cons_succ, i64_w, i32_w]; rfl
      refine pure_ (i := 13) (N := some 34) (v := ?_) (a' := ?_) #[true, true, true, true, true, true, true, true, true, true, true, true, true, true, false, false, false, false, false, false, false, false, false, false, false] rfl rfl (by kernel_rfl) (fun _ _ _ h => h) (Or.inl ⟨by rfl, ?_⟩) ?_ ?_
      rotate_left
      · intro w'; go_simp; with_reducible rfl
      rotate_left
      · simp only [Act.put, List.setIfInBounds_toArray, List.set_cons_zero, List.set_cons_succ, i64_w, i32_w]; rfl
      refine take_ (i := 14) (N := some 35) (v := ?_) (a' := ?_) #[true, true, true, true, true, true, true, true, true, true, true, true, true, true, true, false, false, false, false, false, false, false, false, false, false] rfl rfl (by kernel_rfl) (fun _ _ _ h => h) (Or.inl ⟨by rfl, ?_⟩) hHeld ?_ ?_
      rotate_left
      · rintro w' ⟨s0, s1, s2, s3⟩; go_simp; with_reducible rfl
      rotate_left
      · simp only [Act.put, List.setIfInBounds_toArray, List.set_cons_zero, List.set_cons_succ, i64_w, i32_w]; rfl
      refine pure_ (i := 15) (N := some 36) (v := ?_) (a' := ?_) #[true, true, true, true, true, true, true, true, true, true, true, true, true, true, true, true, false, false, false, false, false, false, false, false, false] rfl rfl (by kernel_rfl) (fun _ _ _ h => h) (Or.inl ⟨by rfl, ?_⟩) ?_ ?_
      rotate_left
      · intro w'; go_simp; with_reducible rfl
      rotate_left
      · simp only [Act.put, List.setIfInBounds_toArray, List.set_cons_zero, List.set_cons_succ, i64_w, i32_w]; rfl
      refine pure_ (i := 16) (N := some 37) (v := ?_) (a' := ?_) #[true, true, true, true, true, true, true, true, true, true, true, true, true, true, true, true, true, false, false, false, false, false, false, false, false] rfl rfl (by kernel_rfl) (fun _ _ _ h => h) (Or.inl ⟨by rfl, ?_⟩) ?_ ?_
      rotate_left
      · intro w'; go_simp; with_reducible rfl
      rotate_left
      · simp only [Act.put, List.setIfInBounds_toArray, List.set_cons_zero, List.set_cons_succ, i64_w, i32_w]; rfl
      refine pure_ (i := 17) (N := some 38) (v := ?_) (a' := ?_) #[true, true, true, true, true, true, true, true, true, true, true, true, true, true, true, true, true, true, false, false, false, false, false, false, false] rfl rfl (by kernel_rfl) (fun _ _ _ h => h) (Or.inl ⟨by rfl, ?_⟩) ?_ ?_
      rotate_left
      · intro w'; go_simp; with_reducible rfl
      rotate_left
      · simp only [Act.put, List.setIfInBounds_toArray, List.set_cons_zero, List.set_cons_succ, i64_w, i32_w]; rfl
      refine take_ (i := 18) (N := some 39) (v := ?_) (a' := ?_) #[true, true, true, true, true, true, true, true, true, true, true, true, true, true, true, true, true, true, true, false, false, false, false, false, false] rfl rfl (by kernel_rfl) (fun _ _ _ h => h) (Or.inl ⟨by rfl, ?_⟩) hHeld ?_ ?_
      rotate_left
      · rintro w' ⟨s0, s1, s2, s3⟩; go_simp; with_reducible rfl
      rotate_left
      · simp only [Act.put, List.setIfInBounds_toArray, List.set_cons_zero, List.set_cons_succ, i64_w, i32_w]; rfl
      refine pure_ (i := 19) (N := some 40) (v := ?_) (a' := ?_) #[true, true, true, true, true, true, true, true, true, true, true, true, true, true, true, true, true, true, true, true, false, false, false, false, false] rfl rfl (by kernel_rfl) (fun _ _ _ h => h) (Or.inl ⟨by rfl, ?_⟩) ?_ ?_
      rotate_left
      · intro w'; go_simp; with_reducible rfl
      rotate_left
      · simp only [Act.put, List.setIfInBounds_toArray, List.set_cons_zero, List.set_cons_succ, i64_w, i32_w]; rfl
      refine take_ (i := 20) (N := some 41) (v := ?_) (a' := ?_) #[true, true, true, true, true, true, true, true, true, true, true, true, true, true, true, true, true, true, true, true, true, false, false, false, false] rfl rfl (by kernel_rfl) (fun _ _ _ h => h) (Or.inl ⟨by rfl, ?_⟩) hHeld ?_ ?_
      rotate_left
      · rintro w' ⟨s0, s1, s2, s3⟩; go_simp; with_reducible rfl
      rotate_left
      · simp only [Act.put, List.setIfInBounds_toArray, List.set_cons_zero, List.set_cons_succ, i64_w, i32_w]; rfl
      clear x5 x6 x7 xt
      rw [wrapId (x := l.base + (o : Int)) (by omega) (by omega)]
      obtain ⟨p, hp⟩ : ∃ p, p = nth l o := ⟨_, rfl⟩
      have HP := Aside0.mk hp
      clear hp
      refine one_ (i := 21) (N := some 42) #[true, true, true, true, true, true, true, true, true, true, true, true, true, true, true, true, true, true, true, true, true, true, false, false, false] rfl rfl (by kernel_rfl) (by decide) (fun K hK => ?_)
      refine goes_ Try.func77 (by kernel_rfl) rfl #[.pointer (some ⟨g, 0, none⟩), .int .i64 (l.base + (o : Int)), .string s] (by rfl) rfl rfl (by first | rfl | (simp only [List.map_toArray, List.map_cons, List.map_nil]; rfl)) ?_
      refine (packet_o o HGW.out (by omega) w2 (l.base + (o : Int)) s p (by rw [HP.out, HS.out]; rfl)).mono ?_
      rintro e W2 ⟨rfl, hb2⟩
      have HG2 := Aside0.mk (keepB HGW.out hb2)
      have HR2 := Aside0.mk (Kd.R_below HRW.out hb2)
      have HM2 := Aside0.mk (HMW.out.then_below hb2)
      clear hb2 HGW HRW HMW
      have hrow := HL.out.row_mods HM2.out
      obtain ⟨ad', hA', xt⟩ := text_of hrow hq
      cases hA'
      rw [← HS.out] at xt
      have x5 : World.cell? W2 ⟨g, 5, none⟩ = some (.slice (some ad) l.q.length c) := (blk_cell HG2.out 5).trans rfl
      have x6 : World.cell? W2 ⟨g, 6, none⟩ = some (.int .i64 l.base) := (blk_cell HG2.out 6).trans rfl
      have x7 : World.cell? W2 ⟨g, 7, none⟩ = some (.int .i64 o) := (blk_cell HG2.out 7).trans rfl
      refine ⟨_, rfl, hK.out _ _ ⟨x5, x6, x7, xt⟩ (fun hHeld => ?_)⟩
      clear hK K x5 x6 x7 xt hrow
      refine norm_ (a' := ?_) ?_ ?_
      rotate_left
      · show Act.put _ (some 42) _ = _
        simp only [Act.put, List.setIfInBounds_toArray, List.set_cons_zero, List.set_cons_succ, i64_w, i32_w]
        rfl
      refine one_ (i := 22) (N := some 43) #[true, true, true, true, true, true, true, true, true, true, true, true, true, true, true, true, true, true, true, true, true, true, true, false, false] rfl rfl (by kernel_rfl) (by decide) (fun K hK => ?_)
      refine event_step (v := .slice (some ⟨W2.heap.size, 0, none⟩) 1 1) (w1 := W2.alloc (.cells (pk p).toArray 28 (0, 0))) (by rfl) (by go_simp; rfl) ?_
      have HG3 := Aside0.mk (keepB HG2.out (below_alloc (Below.refl _ _) (.cells (pk p).toArray 28 (0, 0))))
      have HM3 := Aside0.mk (HM2.out.alloc (.cells (pk p).toArray 28 (0, 0)))
      have hrow := HL.out.row_mods HM3.out
      obtain ⟨ad', hA', xt⟩ := text_of hrow hq
      cases hA'
      rw [← HS.out] at xt
      have x5 : World.cell? (W2.alloc (.cells (pk p).toArray 28 (0, 0))) ⟨g, 5, none⟩ = some (.slice (some ad) l.q.length c) := (blk_cell HG3.out 5).trans rfl
      have x6 : World.cell? (W2.alloc (.cells (pk p).toArray 28 (0, 0))) ⟨g, 6, none⟩ = some (.int .i64 l.base) := (blk_cell HG3.out 6).trans rfl
      have x7 : World.cell? (W2.alloc (.cells (pk p).toArray 28 (0, 0))) ⟨g, 7, none⟩ = some (.int .i64 o) := (blk_cell HG3.out 7).trans rfl
      refine hK.out _ _ ⟨x5, x6, x7, xt⟩ (fun hHeld => ?_)
      clear hK K x5 x6 x7 xt hrow HG3 HM3
      refine norm_ (a' := ?_) ?_ ?_
      rotate_left
      · show Act.put _ (some 43) _ = _
        simp only [Act.put, List.setIfInBounds_toArray, List.set_cons_zero, List.set_cons_succ, i64_w, i32_w]
        rfl
      refine one_ (i := 23) (N := some 44) #[true, true, true, true, true, true, true, true, true, true, true, true, true, true, true, true, true, true, true, true, true, true, true, true, false] rfl rfl (by kernel_rfl) (by decide) (fun K hK => ?_)
      refine Kd.R_append_step k28 (w0 := W2) w.heap.size (by rfl) (.tmp 21) (.tmp 43) 50 28 (.agg #[.int .i64 0, .int .i64 0, .int .i64 0, .int .i64 0, .int .i64 0, .int .i64 0, .string ⟨#[]⟩]) 64 rfl Try.underlying50 info28p rfl (by decide) (by omega) u3 (outs l l.out (o - l.out)) p (pk p) (fun _ => True) (fun _ => False) rfl rfl (pk_M _ _ _ p) (fun _ hk => hk.elim) (fun _ _ => trivial) HR2.out (Below.refl _ _) HM2.out.size (by rw [outs_len]; omega) ?_
      intro v4 W4 ho4 hb4 hg4 hat4
      have hne : ∀ k, u3.ownBlock = some k → w.heap.size ≤ k := fun k hk => by obtain ⟨inner, hi⟩ := Kd.R_own HR2.out; exact own_base hi k hk
      have HM4 := Aside0.mk (HM2.out.grown hg4 (fun k hk => .inr (hne k hk)))
      have HG4 := Aside0.mk ((hg4.block g (blk_lt HG2.out) (fun e => by have := hne g e.symm; omega)).trans HG2.out)
      have HR4 := Aside0.mk (show k28.R 28 W4 w.heap.size (fun _ => True) v4 (outs l l.out (o + 1 - l.out)) by
        rw [show o + 1 - l.out = (o - l.out) + 1 by omega, outs_succ, show l.out + (o - l.out) = o by omega, ← HP.out]
        exact ho4)
      clear ho4 hb4 hg4 hat4 hne HR2 HM2 HG2
      have hrow := HL.out.row_mods HM4.out
      obtain ⟨ad', hA', xt⟩ := text_of hrow hq
      cases hA'
      rw [← HS.out] at xt
      have x5 : World.cell? W4 ⟨g, 5, none⟩ = some (.slice (some ad) l.q.length c) := (blk_cell HG4.out 5).trans rfl
      have x6 : World.cell? W4 ⟨g, 6, none⟩ = some (.int .i64 l.base) := (blk_cell HG4.out 6).trans rfl
      have x7 : World.cell? W4 ⟨g, 7, none⟩ = some (.int .i64 o) := (blk_cell HG4.out 7).trans rfl
      refine hK.out _ _ ⟨x5, x6, x7, xt⟩ (fun hHeld => ?_)
      clear hK K x5 x6 x7 xt hrow
      refine norm_ (a' := ?_) ?_ ?_
      rotate_left
      · show Act.put _ (some 44) _ = _
        simp only [Act.put, List.setIfInBounds_toArray, List.set_cons_zero, List.set_cons_succ, i64_w, i32_w]
        rfl
      refine pure_ (i := 24) (N := some 3) (v := ?_) (a' := ?_) #[true, true, true, true, true, true, true, true, true, true, true, true, true, true, true, true, true, true, true, true, true, true, true, true, true] rfl rfl (by kernel_rfl) (fun _ _ _ h => h) (Or.inl ⟨by rfl, ?_⟩) ?_ ?_
      rotate_left
      · intro w'; go_simp; with_reducible rfl
      rotate_left
      · simp only [Act.put, List.setIfInBounds_toArray, List.set_cons_zero, List.set_cons_succ, i64_w, i32_w]; rfl
      refine done_ (by kernel_rfl) ?_
      have c7 := (blk_cell HG4.out 7).trans (show (lkc { l with out := o } (.slice (some ad) l.q.length c) m)[7]? = some (.int .i64 o) from rfl)
      have f7 := blk_frozen HG4.out 7
      go_wp2
      go_roundg k1
      case measure => omega
      case rel =>
        refine ⟨o + 1, ⟨by omega, by omega⟩, ⟨?_⟩, ⟨?_⟩, ⟨HM4.out.set (.inl rfl) _⟩⟩
        · exact Kd.R_set HR4.out HG4.out (k28_types (by decide)) 7 _
        · exact blk_set HG4.out 7 _
end Go.Proofs.Ytdibaeomepallaa.LK
