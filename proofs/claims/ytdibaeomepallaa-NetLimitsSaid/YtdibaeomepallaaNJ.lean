/- The net, by hand: Hops. -/
import Derived.Test.YtdibaeomepallaaNI
namespace Go.Proofs.Ytdibaeomepallaa.NW
open Go.RowKit Go.Proofs.YtdibaeomepallaaW.PrintWords Go.Proofs.YtdibaeomepallaaW.PrintLast Go.Proofs.YtdibaeomepallaaW.PrintMore Go.Proofs.Ytdibaeomepallaa.PAll
set_option linter.unusedVariables false
set_option linter.unusedSimpArgs false
set_option maxRecDepth 100000
/-- The hops of the first n places that have packets and are not apart. -/
def hopsTo (q : List (List Pk)) (ap : List Bool) : Nat → List S52
  | 0 => []
  | n + 1 => hopsTo q ap n ++ (if 0 < (q.getD n []).length ∧ ap.getD n false = false then [⟨((n / 16 : Nat) : Int), ((n % 16 : Nat) : Int)⟩] else [])
theorem hopsTo_len (q : List (List Pk)) (ap : List Bool) (n : Nat) : (hopsTo q ap n).length ≤ n := by
  induction n with
  | zero => simp [hopsTo]
  | succ n ih => unfold hopsTo; rw [List.length_append]; split <;> simp <;> omega
theorem hopsTo_at (q : List (List Pk)) (ap : List Bool) (a b : Nat) (hb : b < 16) (xs : List Pk) (x : Bool) (hq : q[a * 16 + b]? = some xs) (hx : ap[a * 16 + b]? = some x) :
    hopsTo q ap (a * 16 + b + 1) = hopsTo q ap (a * 16 + b) ++ (if 0 < xs.length ∧ x = false then [⟨(a : Int), (b : Int)⟩] else []) := by
  rw [hopsTo]
  rw [List.getD_eq_getElem?_getD, List.getD_eq_getElem?_getD, hq, hx]
  have h1 : (a * 16 + b) / 16 = a := by omega
  have h2 : (a * 16 + b) % 16 = b := by omega
  rw [h1, h2]
  rfl
theorem info32 : (Try.prog.info? 32).map (fun i => (i.zero, i.size, i.bytes)) = some (some (.agg #[.int .i64 0, .int .i64 0]), 2, 16) := by kernel_rfl
theorem hops_is {w : World} {F : Nat → Prop} {g : Nat} {q : List (List Pk)} {ap : List Bool} (h : NetW w F g q ap) :
    Calls Try.prog 33 #[.pointer (some ⟨g, 0, none⟩)] w fun e w' => ∃ v, e = .returned v ∧ Kd.R k52 32 w' w.heap.size (fun _ => True) v (hopsTo q ap 256) ∧ Below w.heap.size w w' := by
  obtain ⟨vs, h, hin⟩ := h
  have hu117 := Try.underlying117
  have hu115 := Try.underlying115
  have hu114 := Try.underlying114
  have hu113 := Try.underlying113
  have hu112 := Try.underlying112
  have hi113 : (Try.prog.info? 113).map (·.size) = some vs.length := by rw [h.lv]; kernel_rfl
  have hr := h.range
  have H := Aside0.mk h
  have hHl : vs.length = 256 := h.lv
  have hv : ∀ i : Nat, i < 256 → ∃ (A : Option Addr) (c : Nat) (xs : List Pk) (x : Bool), vs[i]? = some (.slice A xs.length c) ∧ q[i]? = some xs ∧ ap[i]? = some x := by
    intro i hi
    obtain ⟨xs, hq⟩ : ∃ xs, q[i]? = some xs := ⟨_, List.getElem?_eq_getElem (by rw [h.lq]; exact hi)⟩
    obtain ⟨v, hv⟩ : ∃ v, vs[i]? = some v := ⟨_, List.getElem?_eq_getElem (by rw [h.lv]; exact hi)⟩
    obtain ⟨A, c, rfl⟩ := h.slice hv hq
    exact ⟨A, c, xs, _, hv, hq, List.getElem?_eq_getElem (by rw [h.la]; exact hi)⟩
  have hone : ∀ v ∈ vs, v.oneCell' = true := by
    intro v hm
    obtain ⟨i, hi⟩ := List.getElem?_of_mem hm
    obtain ⟨A, c, xs, x, h1, _⟩ := hv i (by rw [← h.lv]; exact (List.getElem?_eq_some_iff.1 hi).1)
    rw [h1] at hi
    injection hi with hi
    subst hi
    rfl
  have HV := Aside0.mk hv
  have HONE := Aside0.mk hone
  clear h hv hone
  go_enter Try.func33, Try.ntmps33
  go_wp2_with (first | ((with_reducible refine gate_dst (N := 13) rfl ?_); refine wpList_load_mid rfl 113 (.tmp 12) rfl g 0 rfl vs _ hr hu113 rfl hi113 ?_))
  clear hr
  go_loopg [3, 14] 16 (fun kq v3 v14 w' => ∃ a : Nat, v14 = .int .i64 a ∧ Aside0 (Kd.R k52 32 w' w.heap.size (fun _ => True) v3 (hopsTo q ap (a * 16))) ∧ Aside0 (a + kq = 16) ∧ Aside0 (Below w.heap.size w w'))
  case atStart => exact ⟨0, rfl, ⟨Kd.R_nil _ _ _ _ _⟩, ⟨rfl⟩, ⟨Below.refl _ _⟩⟩
  case round =>
    obtain ⟨a, rfl, HO, HK, HB⟩ := hrel
    obtain ⟨A3, c3, rfl⟩ := Kd.R_slice HO.out
    cases gk with
    | zero =>
      have e : a = 16 := by have := HK.out; omega
      subst e
      go_wp2
      go_ret
      exact ⟨_, rfl, HO.out, HB.out⟩
    | succ k1 =>
      have ha : a < 16 := by have := HK.out; omega
      have d1 : decide ((a : Int) < 16) = true := decide_eq_true (by omega)
      obtain ⟨rl, hrl⟩ : ∃ rl, rl = (vs.drop (a * 16)).take 16 := ⟨_, rfl⟩
      have hrl' : vs.toArray.extract (a * 16) (a * 16 + 16) = rl.toArray := by rw [hrl]; simp
      have hx : rl.toArray.size = 16 := by simp [hrl, hHl]; omega
      have hj : ∀ j, j < 16 → rl[j]? = vs[a * 16 + j]? := by intro j hj; rw [hrl, List.getElem?_take, if_pos hj, List.getElem?_drop]
      have h1 : rl.toArray.all (·.oneCell') = true := by
        rw [List.all_toArray, List.all_eq_true]
        intro v hm
        rw [hrl] at hm
        exact HONE.out v (List.mem_of_mem_drop (List.mem_of_mem_take hm))
      have HJ := Aside0.mk hj
      clear hrl hj
      go_wp2_with (first | ((with_reducible refine gate_dst (N := 17) rfl ?_); refine wpList_index_rows rfl (.tmp 13) (.tmp 14) rfl rfl rfl ha ?_; rw [hrl']) | ((with_reducible refine gate_dst (N := 5) rfl ?_); refine box_event ?hg (N := 5) ?hd (cs := Array.replicate 16 (.slice none 0 0)) (t := 112) ?hr ?_; (case hd => rfl); (case hg => rfl); (case hr => go_simp; rfl); intro g5 hg5 w5 hbox hb; have HG5 := Aside0.mk hg5; clear hg5) | ((with_reducible refine gate_store (t := 112) (p := 5) rfl ?_); refine wpList_store_row rfl 112 (.tmp 5) (.tmp 17) rfl g5 _ rfl rfl 112 _ hbox (by rw [hx]; exact info_rows) (by rw [hx]; rfl) h1 ?_) | ((with_reducible refine gate_dst (N := 18) rfl ?_); refine wpList_load_row rfl 112 (.tmp 5) rfl g5 rfl 112 _ (0, 0) _ (setRow_heap _ _ _ _ _ _ hbox) hu112 rfl (by rw [hx]; exact info_rows) ?_))
      have HB5 := Aside0.mk (below_setRow (HB.out.trans (hb.mono HB.out.size)) (g := g5) (by rw [HG5.out]; exact HB.out.size) rl.toArray)
      have HO5 := Aside0.mk (Kd.R_step HO.out (w1 := w5.setRow g5 rl.toArray) (fun k _ hk => by rw [setRow_other _ _ _ _ (by have := HG5.out; omega)]; exact hb.block k hk))
      clear HB HO
      go_loopg [3, 19] 16 (fun kq v3 v19 w' => ∃ b : Nat, v19 = .int .i64 b ∧ Aside0 (Kd.R k52 32 w' w.heap.size (fun _ => True) v3 (hopsTo q ap (a * 16 + b))) ∧ Aside0 (b + kq = 16) ∧ Aside0 (Below w.heap.size w w'))
      case atStart => exact ⟨0, rfl, ⟨HO5.out⟩, ⟨rfl⟩, ⟨HB5.out⟩⟩
      case round =>
        obtain ⟨b, rfl, HO, HKb, HB⟩ := hrel
        obtain ⟨A3, c3, rfl⟩ := Kd.R_slice HO.out
        cases gk with
        | zero =>
          have e : b = 16 := by have := HKb.out; omega
          subst e
          go_wp2
          go_roundg k1
          case measure => omega
          case rel => exact ⟨a + 1, by first | rfl | simp, by rw [show (a + 1) * 16 = a * 16 + 16 from by omega]; exact HO, ⟨by have := HK.out; omega⟩, HB⟩
        | succ k2 =>
          have hb : b < 16 := by have := HKb.out; omega
          have d2 : decide ((b : Int) < 16) = true := decide_eq_true (by omega)
          obtain ⟨A, c, xs, x, hv2, hq2, hx2⟩ := HV.out (a * 16 + b) (by omega)
          have hv3 : rl.toArray[b]? = some (.slice A xs.length c) := by rw [List.getElem?_toArray, HJ.out b hb, hv2]
          have HS := Aside0.mk (hopsTo_at q ap a b hb xs x hq2 hx2)
          have hll := hopsTo_len q ap (a * 16 + b)
          clear hq2 hv2
          by_cases hp : (0 : Int) < (xs.length : Int)
          · have dp : decide ((0 : Int) < (xs.length : Int)) = true := decide_eq_true hp
            have hN := H.out.below (HB.out.mono (Nat.le_refl _))
            have cb := hN.bool hx2
            rw [← Nat.add_assoc] at cb
            have a0 : (0 : Int) ≤ (a : Int) := by omega
            have a16 : (a : Int) < 16 := by omega
            have b0 : (0 : Int) ≤ (b : Int) := by omega
            have b16 : (b : Int) < 16 := by omega
            cases x with
            | true =>
              go_wp2_with (first | ((with_reducible refine gate_dst (N := 22) rfl ?_); refine wpList_index_row rfl (.tmp 18) (.tmp 19) rfl rfl rfl hb hv3 ?_))
              go_roundg k2
              case measure => omega
              case rel => exact ⟨b + 1, by first | rfl | simp, by rw [← Nat.add_assoc, HS.out, if_neg (fun e => by cases e.2), List.append_nil]; exact HO, ⟨by have := HKb.out; omega⟩, HB⟩
            | false =>
              go_wp2_with (first | ((with_reducible refine gate_dst (N := 22) rfl ?_); refine wpList_index_row rfl (.tmp 18) (.tmp 19) rfl rfl rfl hb hv3 ?_) | ((with_reducible refine gate_builtin (b := .append) (xs := #[.tmp 37, .tmp 41]) rfl ?_); at_builtin; refine Kd.R_append k52 (w0 := w) w.heap.size rfl (.tmp 37) (.tmp 41) 61 32 (.agg #[.int .i64 0, .int .i64 0]) 16 rfl Try.underlying61 info32 rfl (by decide) (by omega) _ _ (⟨(a : Int), (b : Int)⟩ : S52) [.int .i64 (a : Int), .int .i64 (b : Int)] (fun _ => True) (fun _ => False) rfl rfl (k52_mkM _ _ _ (⟨(a : Int), (b : Int)⟩ : S52)) (fun _ hk => hk.elim) (fun _ _ => trivial) HO.out HB.out HB.out.size (by omega) ?_; intro v1 w1 h1 h2 h3 h4; have HV1 := Aside0.mk h1; have HB1 := Aside0.mk h2; clear h1 h2 h3 h4))
              go_roundg k2
              case measure => omega
              case rel => exact ⟨b + 1, by first | rfl | simp, by rw [← Nat.add_assoc, HS.out, if_pos (by first | exact ⟨by omega, rfl⟩ | exact ⟨by omega, trivial⟩)]; exact HV1, ⟨by have := HKb.out; omega⟩, HB1⟩
          · have dp : decide ((0 : Int) < (xs.length : Int)) = false := decide_eq_false hp
            go_wp2_with (first | ((with_reducible refine gate_dst (N := 22) rfl ?_); refine wpList_index_row rfl (.tmp 18) (.tmp 19) rfl rfl rfl hb hv3 ?_))
            go_roundg k2
            case measure => omega
            case rel => exact ⟨b + 1, by first | rfl | simp, by rw [← Nat.add_assoc, HS.out, if_neg (fun e => by have := e.1; omega), List.append_nil]; exact HO, ⟨by have := HKb.out; omega⟩, HB⟩
end Go.Proofs.Ytdibaeomepallaa.NW
