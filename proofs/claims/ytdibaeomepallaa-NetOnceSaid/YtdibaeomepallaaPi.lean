import Derived.Test.YtdibaeomepallaaPa
import Derived.Test.YtdibaeomepallaaPAllx2
import Derived.Test.YtdibaeomepallaaKD
import Derived.Test.YtdibaeomepallaaPAllx7
import Derived.Test.YtdibaeomepallaaNO
/- The net against the document's, plain: what each act does to both. -/
namespace Go.Proofs.Ytdibaeomepallaa.NW
open Go.RowKit Go.Proofs.YtdibaeomepallaaW.PrintWords Go.Proofs.Ytdibaeomepallaa.PAll
set_option linter.unusedVariables false
set_option linter.unusedSimpArgs false
theorem rd58_get {L : List Pk} {n : Nat} (h : n < L.length) : rd_T58 (L.map to58) (n : Int) = to58 L[n] := rd58_at (List.getElem?_eq_getElem h)
theorem woTo_is (L : List Pk) (k : Nat) : ∀ n, n ≤ L.length → woTo (L.map to58) (k : Int) n = (if k < n then (L.take n).eraseIdx k else L.take n).map to58 := by
  intro n
  induction n with
  | zero => intro _; simp [woTo]
  | succ n ih =>
    intro h
    rw [woTo, ih (by omega), rd58_get (by omega)]
    by_cases hk : k < n
    · rw [if_pos hk, if_neg (by omega), if_pos (by omega), List.take_succ_eq_append_getElem (by omega), List.eraseIdx_append_of_lt_length (by rw [List.length_take]; omega), List.map_append]
      rfl
    · by_cases he : n = k
      · subst he
        rw [if_neg (by omega), if_pos rfl, if_pos (by omega), List.append_nil, List.take_succ_eq_append_getElem (by omega), List.eraseIdx_append_of_length_le (by rw [List.length_take]; omega)]
        rw [List.length_take, Nat.min_eq_left (by omega), Nat.sub_self]
        simp
      · rw [if_neg (by omega), if_neg (by omega), if_neg (by omega), List.take_succ_eq_append_getElem (by omega), List.map_append]
        rfl
theorem woTo_all {L : List Pk} {k : Nat} (hk : k < L.length) : woTo (L.map to58) (k : Int) L.length = (L.eraseIdx k).map to58 := by
  rw [woTo_is L k L.length (Nat.le_refl _), if_pos hk, List.take_length]
theorem clTo_is (L : List Pk) (of : Int) : ∀ n, n ≤ L.length → clTo (L.map to58) of n = ((L.take n).filter (clearP of)).map to58 := by
  intro n
  induction n with
  | zero => intro _; simp [clTo]
  | succ n ih =>
    intro h
    rw [clTo, ih (by omega), rd58_get (by omega), List.take_succ_eq_append_getElem (by omega), List.filter_append, List.map_append]
    congr 1
    rw [List.filter_cons]
    unfold clearP
    rw [show (to58 L[n]).f0 = L[n].f0 from rfl, show (to58 L[n]).f1 = L[n].f1 from rfl]
    by_cases hc : L[n].f0 = of ∨ L[n].f1 = of
    · rw [if_pos hc, if_neg (by simp only [Bool.and_eq_true, decide_eq_true_eq]; exact fun e => hc.elim e.1 e.2)]
      rfl
    · rw [if_neg hc, if_pos (by simp only [Bool.and_eq_true, decide_eq_true_eq]; exact ⟨fun e => hc (.inl e), fun e => hc (.inr e)⟩)]
      rfl
theorem clTo_all (L : List Pk) (of : Int) : clTo (L.map to58) of L.length = (clearL of L).map to58 := by
  rw [clTo_is L of L.length (Nat.le_refl _), List.take_length]
  rfl
theorem rd52_get {A : List S52} {n : Nat} (h : n < A.length) : rd_T52 A (n : Int) = A[n] := rd52_at (List.getElem?_eq_getElem h)
def partP (a b : Int) (x : S52) : Bool := !(isHop x a b) && !(isHop x b a)
theorem ptTo_is (A : List S52) (a b : Int) : ∀ n, n ≤ A.length → ptTo A a b n = (A.take n).filter (partP a b) := by
  intro n
  induction n with
  | zero => intro _; simp [ptTo]
  | succ n ih =>
    intro h
    rw [ptTo, ih (by omega), rd52_get (by omega), List.take_succ_eq_append_getElem (by omega), List.filter_append]
    congr 1
    rw [List.filter_cons]
    unfold partP
    cases h1 : isHop A[n] a b <;> cases h2 : isHop A[n] b a <;> simp
theorem ptL_is (A : List S52) (a b : Int) (on : Bool) : ptL A a b on = A.filter (partP a b) ++ (if on = true then [⟨a, b⟩] else []) := by
  unfold ptL
  rw [ptTo_is A a b A.length (Nat.le_refl _), List.take_length]
  cases on <;> simp
theorem ptL_len (A : List S52) (a b : Int) (on : Bool) : (ptL A a b on).length ≤ A.length + 1 := by
  rw [ptL_is, List.length_append]
  have := List.length_filter_le (partP a b) A
  split <;> simp <;> omega
theorem cutL_is (A : List S52) (a b : Int) : cutL A a b = A.any (fun x => isHop x a b || isHop x b a) := by
  unfold cutL
  congr 1
structure ARel (ap : List Bool) (A : List S52) : Prop where
  len : ap.length = 256
  cut : ∀ a b, hopB a b = true → ap.getD (at2 a b) false = cutL A a b
theorem arel_new : ARel (List.replicate 256 false) [] := ⟨List.length_replicate, fun a b _ => by
  rw [List.getD_eq_getElem?_getD, List.getElem?_replicate]
  split <;> rfl⟩
theorem isHop_iff {x : S52} {a b : Int} : isHop x a b = true ↔ x.f0 = a ∧ x.f1 = b := by
  unfold isHop
  simp
theorem cutL_filter (A : List S52) (a b c d : Int) (h : ¬ (c = a ∧ d = b) ∧ ¬ (c = b ∧ d = a)) : cutL (A.filter (partP a b)) c d = cutL A c d := by
  rw [cutL_is, cutL_is, Bool.eq_iff_iff]
  simp only [List.any_eq_true, List.mem_filter, Bool.or_eq_true]
  constructor
  · rintro ⟨x, ⟨hx, _⟩, h2⟩
    exact ⟨x, hx, h2⟩
  · rintro ⟨x, hx, h2⟩
    refine ⟨x, ⟨hx, ?_⟩, h2⟩
    unfold partP
    simp only [isHop_iff] at h2
    cases h3 : isHop x a b with
    | true => rw [isHop_iff] at h3; omega
    | false =>
      cases h4 : isHop x b a with
      | true => rw [isHop_iff] at h4; omega
      | false => rfl
theorem cutL_filter_same (A : List S52) (a b : Int) : cutL (A.filter (partP a b)) a b = false ∧ cutL (A.filter (partP a b)) b a = false := by
  constructor
  all_goals
    rw [cutL_is, List.any_eq_false]
    intro x hx
    have h := (List.mem_filter.1 hx).2
    unfold partP at h
    simp only [Bool.and_eq_true, Bool.not_eq_true'] at h
    rw [h.1, h.2]
    decide
theorem cutL_snoc (A : List S52) (a b c d : Int) : cutL (A ++ [⟨a, b⟩]) c d = (cutL A c d || (decide (a = c ∧ b = d) || decide (a = d ∧ b = c))) := by
  unfold cutL
  rw [List.any_append]
  simp
theorem hopB_swap {a b : Int} (h : hopB a b = true) : hopB b a = true := by
  rw [hopB_iff] at *
  omega
theorem ARel.part {ap : List Bool} {A : List S52} (h : ARel ap A) {a b : Int} (hb : hopB a b = true) (on : Bool) : ARel ((ap.set (at2 a b) on).set (at2 b a) on) (ptL A a b on) := by
  have h1 := hopB_iff.1 hb
  refine ⟨by simp [h.len], fun c d hc => ?_⟩
  have h2 := hopB_iff.1 hc
  rw [ptL_is, List.getD_eq_getElem?_getD]
  have hl1 : at2 a b < 256 := at2_lt h1.1 h1.2.1
  have hl2 : at2 b a < 256 := at2_lt h1.2.1 h1.1
  obtain ⟨s1, s2⟩ := cutL_filter_same A a b
  by_cases e1 : c = b ∧ d = a
  · obtain ⟨rfl, rfl⟩ := e1
    rw [List.getElem?_set_self (by rw [List.length_set, h.len]; exact hl2)]
    cases on with
    | true => rw [if_pos rfl, cutL_snoc]; simp
    | false => rw [if_neg (by decide), List.append_nil, s2]; rfl
  · have hne1 : at2 b a ≠ at2 c d := fun e => e1 (by have := at2_inj h1.2.1 h1.1 h2.1 h2.2.1 e; omega)
    rw [List.getElem?_set_ne hne1]
    by_cases e2 : c = a ∧ d = b
    · obtain ⟨rfl, rfl⟩ := e2
      rw [List.getElem?_set_self (by rw [h.len]; exact hl1)]
      cases on with
      | true => rw [if_pos rfl, cutL_snoc]; simp
      | false => rw [if_neg (by decide), List.append_nil, s1]; rfl
    · have hne2 : at2 a b ≠ at2 c d := fun e => e2 (by have := at2_inj h1.1 h1.2.1 h2.1 h2.2.1 e; omega)
      rw [List.getElem?_set_ne hne2, ← List.getD_eq_getElem?_getD, h.cut c d hc]
      have hf := cutL_filter A a b c d ⟨e2, e1⟩
      cases on with
      | true =>
        rw [if_pos rfl, cutL_snoc, hf, decide_eq_false (by omega), decide_eq_false (by omega)]
        simp
      | false => rw [if_neg (by decide), List.append_nil, hf]
def partL (A : List S52) (a b : Int) (on : Bool) : List S52 := if hopB a b = true then ptL A a b on else A
theorem ARel.apart {ap : List Bool} {A : List S52} (h : ARel ap A) (a b : Int) (on : Bool) : ARel (apartA ap a b on) (partL A a b on) := by
  unfold apartA partL
  by_cases hb : hopB a b = true
  · rw [if_pos hb, if_pos hb]; exact h.part hb on
  · rw [if_neg hb, if_neg hb]; exact h
theorem partL_len (A : List S52) (a b : Int) (on : Bool) : (partL A a b on).length ≤ A.length + 1 := by
  unfold partL
  split
  · exact ptL_len A a b on
  · omega
theorem ARel.cutB {ap : List Bool} {A : List S52} (h : ARel ap A) {a b : Int} (hb : hopB a b = true) : cutB ap a b = cutL A a b := by
  unfold NW.cutB
  rw [hb, Bool.true_and, h.cut a b hb]
/-- The packet of a hop's place, and the list without it. -/
theorem place_of {L : List Pk} {a b i : Int} (ht : thereL L a b i = 0) : hopB a b = true ∧ ∃ n at_ : Nat, ∃ p, i = n ∧ (places L a b)[n]? = some at_ ∧ at_ < L.length ∧ L[at_]? = some p ∧ (L.filter (hopP a b))[n]? = some p := by
  unfold thereL at ht
  cases hb : hopB a b with
  | false => rw [hb] at ht; cases ht
  | true =>
    rw [hb, if_pos rfl] at ht
    split at ht
    · cases ht
    · rename_i hi
      obtain ⟨n, rfl⟩ := Int.eq_ofNat_of_zero_le (show 0 ≤ i by omega)
      have hl := places_len (hopP a b) L 0
      obtain ⟨at_, hat⟩ : ∃ at_, (placesFrom (hopP a b) 0 L)[n]? = some at_ := ⟨_, List.getElem?_eq_getElem (by rw [hl]; omega)⟩
      obtain ⟨_, h2, p, h3, _, h5, _⟩ := places_at _ L 0 n at_ hat
      rw [Nat.sub_zero] at h2 h3
      exact ⟨rfl, n, at_, p, rfl, hat, h2, h3, h5⟩
def atL (L : List Pk) (a b i : Int) : Nat := (places L a b).getD i.toNat 0
def pkL (L : List Pk) (a b i : Int) : Pk := L.getD (atL L a b i) pk0
def delL (L : List Pk) (a b i : Int) : List Pk := L.eraseIdx (atL L a b i)
def loseL (L : List Pk) (a b i : Int) : List Pk := if thereL L a b i = 0 then delL L a b i else L
theorem atL_is {L : List Pk} {a b : Int} {n at_ : Nat} (h : (places L a b)[n]? = some at_) : atL L a b n = at_ := by
  unfold atL
  rw [Int.toNat_natCast, List.getD_eq_getElem?_getD, h]
  rfl
theorem pkL_is {L : List Pk} {a b : Int} {n at_ : Nat} {p : Pk} (h : (places L a b)[n]? = some at_) (hp : L[at_]? = some p) : pkL L a b n = p := by
  unfold pkL
  rw [atL_is h, List.getD_eq_getElem?_getD, hp]
  rfl
theorem NRel.packet {q : List (List Pk)} {L : List Pk} (h : NRel q L) {a b i : Int} (ht : thereL L a b i = 0) : (NW.rowAt q a b).getD i.toNat pk0 = pkL L a b i := by
  obtain ⟨hb, n, at_, p, rfl, h1, h2, h3, h4⟩ := place_of ht
  rw [pkL_is h1 h3, h.rowAt hb, List.getD_eq_getElem?_getD, Int.toNat_natCast, h4]
  rfl
theorem NRel.delL {q : List (List Pk)} {L : List Pk} (h : NRel q L) {a b i : Int} (ht : thereL L a b i = 0) : NRel (delQ q a b i) (delL L a b i) := by
  obtain ⟨hb, n, at_, p, rfl, h1, h2, h3, h4⟩ := place_of ht
  have := (h.del hb (i := n) (by rw [Int.toNat_natCast]; exact h1)).1
  unfold NW.delL
  rw [atL_is h1]
  exact this
theorem NRel.lose {q : List (List Pk)} {L : List Pk} (h : NRel q L) (a b i : Int) : NRel (loseQ q a b i) (loseL L a b i) := by
  unfold loseQ loseL
  rw [h.there a b i]
  by_cases ht : thereL L a b i = 0
  · rw [if_pos ht, if_pos ht]; exact h.delL ht
  · rw [if_neg ht, if_neg ht]; exact h
def takeLE (L : List Pk) (A : List S52) (a b i : Int) : Int := if thereL L a b i = 0 then (if cutL A a b = true then 12 else 0) else thereL L a b i
def takeLP (L : List Pk) (A : List S52) (a b i : Int) : Pk := if takeLE L A a b i = 0 then pkL L a b i else pk0
def takeLL (L : List Pk) (A : List S52) (a b i : Int) : List Pk := if takeLE L A a b i = 0 then delL L a b i else L
theorem takeE_is {q : List (List Pk)} {L : List Pk} {ap : List Bool} {A : List S52} (h : NRel q L) (ha : ARel ap A) (a b i : Int) : takeE q ap a b i = takeLE L A a b i := by
  unfold takeE takeLE
  rw [h.there a b i]
  by_cases ht : thereL L a b i = 0
  · rw [if_pos ht, if_pos ht, ha.cutB (place_of ht).1]
  · rw [if_neg ht, if_neg ht]
theorem takeLE_there {L : List Pk} {A : List S52} {a b i : Int} (h : takeLE L A a b i = 0) : thereL L a b i = 0 := by
  unfold takeLE at h
  by_cases ht : thereL L a b i = 0
  · exact ht
  · rw [if_neg ht] at h; exact h
theorem takeP_is {q : List (List Pk)} {L : List Pk} {ap : List Bool} {A : List S52} (h : NRel q L) (ha : ARel ap A) (a b i : Int) : takeP q ap a b i = takeLP L A a b i := by
  unfold takeP takeLP
  rw [takeE_is h ha]
  by_cases ht : takeLE L A a b i = 0
  · rw [if_pos ht, if_pos ht, h.packet (takeLE_there ht)]
  · rw [if_neg ht, if_neg ht]
theorem take_rel {q : List (List Pk)} {L : List Pk} {ap : List Bool} {A : List S52} (h : NRel q L) (ha : ARel ap A) (a b i : Int) : NRel (takeQ q ap a b i) (takeLL L A a b i) := by
  unfold takeQ takeLL
  rw [takeE_is h ha]
  by_cases ht : takeLE L A a b i = 0
  · rw [if_pos ht, if_pos ht]; exact h.delL (takeLE_there ht)
  · rw [if_neg ht, if_neg ht]; exact h
def twiceLE (L : List Pk) (a b i : Int) : Int := if thereL L a b i = 0 then sendLE (pkL L a b i) L else thereL L a b i
def twiceLL (L : List Pk) (a b i : Int) : List Pk := if thereL L a b i = 0 then sendL (pkL L a b i) L else L
theorem sendE_is {q : List (List Pk)} {L : List Pk} (h : NRel q L) (p : Pk) : sendE p q = sendLE p L := h.sendE p
theorem twiceE_is {q : List (List Pk)} {L : List Pk} (h : NRel q L) (a b i : Int) : twiceE q a b i = twiceLE L a b i := by
  unfold twiceE twiceLE
  rw [h.there a b i]
  by_cases ht : thereL L a b i = 0
  · rw [if_pos ht, if_pos ht, h.packet ht, sendE_is h]
  · rw [if_neg ht, if_neg ht]
theorem twice_rel {q : List (List Pk)} {L : List Pk} (h : NRel q L) (a b i : Int) : NRel (twiceQ q a b i) (twiceLL L a b i) := by
  unfold twiceQ twiceLL
  rw [h.there a b i]
  by_cases ht : thereL L a b i = 0
  · rw [if_pos ht, if_pos ht, h.packet ht]; exact h.send _
  · rw [if_neg ht, if_neg ht]; exact h
end Go.Proofs.Ytdibaeomepallaa.NW
/- The law's act on both nets, by hand: Send. -/
namespace Go.Proofs.Ytdibaeomepallaa.NW
open Go.RowKit Go.Proofs.YtdibaeomepallaaW.PrintWords Go.Proofs.YtdibaeomepallaaW.PrintLast Go.Proofs.YtdibaeomepallaaW.PrintMore Go.Proofs.Ytdibaeomepallaa.PAll
set_option linter.unusedVariables false
set_option linter.unusedSimpArgs false
set_option maxRecDepth 100000
attribute [local go_sem high] eqA52 eqA58
theorem mods_box {w W : World} {F : Nat → Prop} {g : Nat} {o : Obj} (h : w.heap[g]? = some o) (hm : Mods F w W) (hF : ¬ F g) : W.heap[g]? = some o := (hm.block g (blk_lt h) hF).trans h
/-- What an act leaves: both nets, as they stand in memory, and that the answers were the same. -/
def DoOut (w : World) (F : Nat → Prop) (g : Nat) (q : List (List Pk)) (ap : List Bool) (L : List Pk) (A : List S52) (e : Ending) (w' : World) : Prop :=
  ∃ v0 v1, e = .returned (.tuple #[.agg #[v0, v1], .bool true]) ∧ ∃ F', NetW w' F' g q ap ∧ (∀ k, F' k → F k ∨ w.heap.size ≤ k) ∧ RF k58 w' (fun k => ¬ F' k) v0 (L.map to58) ∧ RF k52 w' (fun k => ¬ F' k) v1 A ∧ Mods F w w'
theorem boxes4 (w : World) (o1 o2 o3 o4 : Obj) : ∃ w2, w2 = (((w.alloc o1).alloc o2).alloc o3).alloc o4 ∧ Below w.heap.size w w2 ∧ w2.heap[w.heap.size]? = some o1 ∧ w2.heap[w.heap.size + 1]? = some o2 ∧ w2.heap[w.heap.size + 1 + 1]? = some o3 ∧ w2.heap[w.heap.size + 1 + 1 + 1]? = some o4 := by
  obtain ⟨w3, h3, hb, h4, h5, h6⟩ := boxes3 w o1 o2 o3
  refine ⟨w3.alloc o4, by rw [h3], below_alloc hb _, blk_alloc h4 _, blk_alloc h5 _, blk_alloc h6 _, ?_⟩
  have hn := blk_new w3 o4
  rwa [show w3.heap.size = w.heap.size + 1 + 1 + 1 from by rw [h3]; simp] at hn
/-- The net behind an act of its own, with rows of the document's beside it. -/
theorem after_net {w w4 W w' : World} {F : Nat → Prop} {g : Nat} {q' : List (List Pk)} {ap' : List Bool} {v0 v1 : Value} {xs : List S58} {A : List S52}
    (hn : NetW w' (grow F W w') g q' ap') (hm : Mods F W w') (hF : ∀ k, F k → k < w.heap.size) (hw : w.heap.size ≤ W.heap.size)
    (h0 : RF k58 W (fun k => ¬ F k) v0 xs) (h1 : RF k52 W (fun k => ¬ F k) v1 A) : NetW w' (grow F W w') g q' ap' ∧ (∀ k, grow F W w' k → F k ∨ w.heap.size ≤ k) ∧ RF k58 w' (fun k => ¬ grow F W w' k) v0 xs ∧ RF k52 w' (fun k => ¬ grow F W w' k) v1 A :=
  ⟨hn, fun k hk => hk.elim .inl (fun e => .inr (by omega)), h0.turn hm, h1.turn hm⟩
/-- The end of an act: the result is laid into its box. -/
theorem do_fin {w W w' : World} {F : Nat → Prop} {g : Nat} {q' : List (List Pk)} {ap' : List Bool} {L' : List Pk} {A' : List S52} {v0 v1 : Value} {b6 : Nat} {cs : Array Value}
    (hw : Below w.heap.size w W) (hn : NetW w' (grow (fun k => F k ∧ k < w.heap.size) W w') g q' ap') (hm : Mods (fun k => F k ∧ k < w.heap.size) W w') (h6 : w.heap.size ≤ b6) (h6W : b6 < W.heap.size)
    (h0 : RF k58 W (fun k => k ≠ b6 ∧ ¬ (F k ∧ k < w.heap.size)) v0 (L'.map to58)) (h1 : RF k52 W (fun k => k ≠ b6 ∧ ¬ (F k ∧ k < w.heap.size)) v1 A') :
    DoOut w F g q' ap' L' A' (.returned (.tuple #[.agg #[v0, v1], .bool true])) (w'.setRow b6 cs) := by
  have hs : Mods (fun k => k = b6) w' (w'.setRow b6 cs) := Mods.setRow (Mods.refl (fun k => k = b6) w') (.inl rfl) cs
  have step : ∀ k, (k ≠ b6 ∧ ¬ (F k ∧ k < w.heap.size)) ∧ k < W.heap.size → (w'.setRow b6 cs).heap[k]? = W.heap[k]? := fun k hk => (setRow_other w' b6 k cs hk.1.1).trans (hm.block k hk.2 hk.1.2)
  refine ⟨v0, v1, rfl, grow (fun k => F k ∧ k < w.heap.size) W w', hn.mods hs (fun k _ hk e => by subst e; rcases hk with hk | hk <;> omega), fun k hk => hk.elim (fun e => .inl e.1) (fun e => .inr (Nat.le_trans hw.size e.1)), ?_, ?_, ?_⟩
  · exact (h0.bound.step (fun k hk _ => step k hk)).mono (fun k hk e => e.elim hk.1.2 (fun e => by omega))
  · exact (h1.bound.step (fun k hk _ => step k hk)).mono (fun k hk e => e.elim hk.1.2 (fun e => by omega))
  · exact (Mods.after_below hw (hm.mono (fun k _ hk => hk.1))).trans hs (fun k hk e => by omega)
section
variable (p : Pk) (a b i : Int) (on : Bool) {w : World} {F : Nat → Prop} {g : Nat} {q : List (List Pk)} {ap : List Bool} {L : List Pk} {A : List S52} {A0 : Option Addr} {c0 : Nat} {A1 : Option Addr} {c1 : Nat}
set_option maxHeartbeats 2000000 in
theorem do_send (hn : NetW w F g q ap) (hr : NRel q L) (hL : L.length ≤ 400) (h0 : Kd.F k58 w (fun k => ¬ F k) A0 L.length (L.map to58)) (hc0 : L.length ≤ c0) (h1 : Kd.F k52 w (fun k => ¬ F k) A1 A.length A) (hc1 : A.length ≤ c1) :
    Calls Try.prog 22 #[.pointer (some ⟨g, 0, none⟩), .agg #[.slice A0 L.length c0, .slice A1 A.length c1], .agg #[.int .i64 0, .int .i64 p.f0, .int .i64 p.f1, .int .i64 p.f2, .int .i64 p.f3, .int .i64 p.f4, .int .i64 p.f5, .string p.f6, .int .i64 a, .int .i64 b, .int .i64 i, .bool on]] w (DoOut w F g (sendQ p q) ap (sendL p L) A) := by
  have hu28 := Try.underlying28
  have hu32 := Try.underlying32
  have hu40 := Try.underlying40
  have hu42 := Try.underlying42
  have hu52 := Try.underlying52
  have hu58 := Try.underlying58
  obtain ⟨w4, hw4, hB4, hb4, hb5, hb6, hb8⟩ := boxes4 w (.cells #[.slice A0 L.length c0, .slice A1 A.length c1] 40 (0, 0)) (.cells #[.int .i64 0, .int .i64 p.f0, .int .i64 p.f1, .int .i64 p.f2, .int .i64 p.f3, .int .i64 p.f4, .int .i64 p.f5, .string p.f6, .int .i64 a, .int .i64 b, .int .i64 i, .bool on] 42 (0, 0)) (.cells #[.slice none 0 0, .slice none 0 0] 40 (0, 0)) (.cells #[.int .i64 a, .int .i64 b] 52 (0, 0))
  have HW := Aside0.mk hw4
  have HB4 := Aside0.mk hB4
  have H4 := Aside0.mk hb4
  have H5 := Aside0.mk hb5
  have H6 := Aside0.mk hb6
  have HN := Aside0.mk hn
  have HR := Aside0.mk hr
  have H0 := Aside0.mk h0
  have H1 := Aside0.mk h1
  clear hw4 hB4 hb4 hb5 hb6 hb8 hn hr h0 h1
  go_enter Try.func22, Try.ntmps22
  go_wp2_with (first
    | ((with_reducible refine gate_dst (N := 31) rfl ?_); refine goesL_ (some 31) rfl rfl Try.func62 (by kernel_rfl) rfl #[.agg #[.slice A0 L.length c0, .slice A1 A.length c1], .agg #[.int .i64 p.f0, .int .i64 p.f1, .int .i64 p.f2, .int .i64 p.f3, .int .i64 p.f4, .int .i64 p.f5, .string p.f6]] rfl (by first | (simp only [List.map_toArray, List.map_cons, List.map_nil]; rfl) | rfl) ?_; refine (refSend_is L A0 c0 A1 c1 _ (fun k => ¬ F k ∧ k < w.heap.size) p A.length (by rw [← HW.out]; exact Kd.F_below (Kd.F_bound H0.out) HB4.out) hc0).mono ?_; rintro e w31 ⟨v0, rfl, hv, hb⟩; rw [← HW.out] at hv hb; obtain ⟨A6, c6, hv0, hRc, hRf⟩ := hv; rw [List.length_map] at hv0 hRc hRf; subst hv0; have HB := Aside0.mk hb; have HV := Aside0.mk hRf; clear hb hRf; refine ⟨_, rfl, ?_⟩))
  have hBa := below_alloc HB.out (.cells #[.slice A6 (sendL p L).length c6, .slice A1 A.length c1] 40 (0, 0))
  have HBd := Aside0.mk (below_drew1 hBa)
  have H9 := Aside0.mk (blk_drew (blk_new w31 (.cells #[.slice A6 (sendL p L).length c6, .slice A1 A.length c1] 40 (0, 0))))
  have h31 : w4.heap.size ≤ w31.heap.size := HB.out.size
  have h41 : w.heap.size + 1 + 1 < w4.heap.size := blk_lt H6.out
  clear hBa
  have x0 : (w31.alloc (.cells #[.slice A6 (sendL p L).length c6, .slice A1 A.length c1] 40 (0, 0))).drew.cell? ⟨w31.heap.size, 0, none⟩ = some (.slice A6 (sendL p L).length c6) := (blk_cell H9.out 0).trans rfl
  have x1 : (w31.alloc (.cells #[.slice A6 (sendL p L).length c6, .slice A1 A.length c1] 40 (0, 0))).drew.cell? ⟨w31.heap.size, 1, none⟩ = some (.slice A1 A.length c1) := (blk_cell H9.out 1).trans rfl
  have y1 : (w31.alloc (.cells #[.slice A6 (sendL p L).length c6, .slice A1 A.length c1] 40 (0, 0))).drew.cell? ⟨w.heap.size + 1, 1, none⟩ = some (.int .i64 p.f0) := (blk_cell (keep_box H5.out HBd.out) 1).trans rfl
  have y2 : (w31.alloc (.cells #[.slice A6 (sendL p L).length c6, .slice A1 A.length c1] 40 (0, 0))).drew.cell? ⟨w.heap.size + 1, 2, none⟩ = some (.int .i64 p.f1) := (blk_cell (keep_box H5.out HBd.out) 2).trans rfl
  have y3 : (w31.alloc (.cells #[.slice A6 (sendL p L).length c6, .slice A1 A.length c1] 40 (0, 0))).drew.cell? ⟨w.heap.size + 1, 3, none⟩ = some (.int .i64 p.f2) := (blk_cell (keep_box H5.out HBd.out) 3).trans rfl
  have y4 : (w31.alloc (.cells #[.slice A6 (sendL p L).length c6, .slice A1 A.length c1] 40 (0, 0))).drew.cell? ⟨w.heap.size + 1, 4, none⟩ = some (.int .i64 p.f3) := (blk_cell (keep_box H5.out HBd.out) 4).trans rfl
  have y5 : (w31.alloc (.cells #[.slice A6 (sendL p L).length c6, .slice A1 A.length c1] 40 (0, 0))).drew.cell? ⟨w.heap.size + 1, 5, none⟩ = some (.int .i64 p.f4) := (blk_cell (keep_box H5.out HBd.out) 5).trans rfl
  have y6 : (w31.alloc (.cells #[.slice A6 (sendL p L).length c6, .slice A1 A.length c1] 40 (0, 0))).drew.cell? ⟨w.heap.size + 1, 6, none⟩ = some (.int .i64 p.f5) := (blk_cell (keep_box H5.out HBd.out) 6).trans rfl
  have y7 : (w31.alloc (.cells #[.slice A6 (sendL p L).length c6, .slice A1 A.length c1] 40 (0, 0))).drew.cell? ⟨w.heap.size + 1, 7, none⟩ = some (.string p.f6) := (blk_cell (keep_box H5.out HBd.out) 7).trans rfl
  refine start_ (n := 9) (S := fun w' => w'.cell? ⟨w31.heap.size, 0, none⟩ = some (.slice A6 (sendL p L).length c6) ∧ w'.cell? ⟨w31.heap.size, 1, none⟩ = some (.slice A1 A.length c1) ∧ w'.cell? ⟨w.heap.size + 1, 1, none⟩ = some (.int .i64 p.f0) ∧ w'.cell? ⟨w.heap.size + 1, 2, none⟩ = some (.int .i64 p.f1) ∧ w'.cell? ⟨w.heap.size + 1, 3, none⟩ = some (.int .i64 p.f2) ∧ w'.cell? ⟨w.heap.size + 1, 4, none⟩ = some (.int .i64 p.f3) ∧ w'.cell? ⟨w.heap.size + 1, 5, none⟩ = some (.int .i64 p.f4) ∧ w'.cell? ⟨w.heap.size + 1, 6, none⟩ = some (.int .i64 p.f5) ∧ w'.cell? ⟨w.heap.size + 1, 7, none⟩ = some (.string p.f6)) (ds := [7]) #[false, false, false, false, false, false, false, false, false] (by kernel_rfl) rfl rfl ⟨x0, x1, y1, y2, y3, y4, y5, y6, y7⟩ (fun hHeld => ?_)
  refine take_ (i := 0) (N := some 34) (v := ?_) (a' := ?_) #[true, false, false, false, false, false, false, false, false] rfl rfl (by kernel_rfl) (fun _ _ _ h => h) (Or.inl ⟨by rfl, ?_⟩) hHeld ?_ ?_
  rotate_left
  · rintro w' ⟨s0, s1, s2, s3, s4, s5, s6, s7, s8⟩; go_simp; with_reducible rfl
  rotate_left
  · simp only [Act.put, List.setIfInBounds_toArray, List.set_cons_zero, List.set_cons_succ, i64_w, i32_w]; rfl
  refine pure_ (i := 1) (N := some 35) (v := ?_) (a' := ?_) #[true, true, false, false, false, false, false, false, false] rfl rfl (by kernel_rfl) (fun _ _ _ h => h) (Or.inl ⟨by rfl, ?_⟩) ?_ ?_
  rotate_left
  · intro w'; go_simp; with_reducible rfl
  rotate_left
  · simp only [Act.put, List.setIfInBounds_toArray, List.set_cons_zero, List.set_cons_succ, i64_w, i32_w]; rfl
  refine pure_ (i := 2) (N := some 36) (v := ?_) (a' := ?_) #[true, true, true, false, false, false, false, false, false] rfl rfl (by kernel_rfl) (fun _ _ _ h => h) (Or.inl ⟨by rfl, ?_⟩) ?_ ?_
  rotate_left
  · intro w'; go_simp; with_reducible rfl
  rotate_left
  · simp only [Act.put, List.setIfInBounds_toArray, List.set_cons_zero, List.set_cons_succ, i64_w, i32_w]; rfl
  refine take_ (i := 3) (N := some 37) (v := ?_) (a' := ?_) #[true, true, true, true, false, false, false, false, false] rfl rfl (by kernel_rfl) (fun _ _ _ h => h) (Or.inl ⟨by rfl, ?_⟩) hHeld ?_ ?_
  rotate_left
  · rintro w' ⟨s0, s1, s2, s3, s4, s5, s6, s7, s8⟩; go_simp; with_reducible rfl
  rotate_left
  · simp only [Act.put, List.setIfInBounds_toArray, List.set_cons_zero, List.set_cons_succ, i64_w, i32_w]; rfl
  refine pure_ (i := 5) (N := some 39) (v := ?_) (a' := ?_) #[true, true, true, true, false, true, false, false, false] rfl rfl (by kernel_rfl) (fun _ _ _ h => h) (Or.inl ⟨by rfl, ?_⟩) ?_ ?_
  rotate_left
  · intro w'; go_simp; with_reducible rfl
  rotate_left
  · simp only [Act.put, List.setIfInBounds_toArray, List.set_cons_zero, List.set_cons_succ, i64_w, i32_w]; rfl
  clear x0 x1 y1 y2 y3 y4 y5 y6 y7
  have hwD : Below w.heap.size w (w31.alloc (.cells #[.slice A6 (sendL p L).length c6, .slice A1 A.length c1] 40 (0, 0))).drew := HB4.out.trans (HBd.out.mono HB4.out.size)
  have hsz : w31.heap.size < (w31.alloc (.cells #[.slice A6 (sendL p L).length c6, .slice A1 A.length c1] 40 (0, 0))).drew.heap.size := blk_lt H9.out
  have hn0 : NetW (w31.alloc (.cells #[.slice A6 (sendL p L).length c6, .slice A1 A.length c1] 40 (0, 0))).drew (fun k => F k ∧ k < w.heap.size) g q ap := (HN.out.mono (fun k hk hF => ⟨hF, hk⟩)).below hwD
  refine one_ (i := 4) (N := some 38) #[true, true, true, true, true, true, false, false, false] rfl rfl (by kernel_rfl) (by decide) (fun K hK => ?_)
  refine goes_ Try.func17 (by kernel_rfl) rfl #[.pointer (some ⟨g, 0, none⟩), .agg #[.int .i64 p.f0, .int .i64 p.f1, .int .i64 p.f2, .int .i64 p.f3, .int .i64 p.f4, .int .i64 p.f5, .string p.f6]] (by rfl) rfl rfl (by first | rfl | (simp only [List.map_toArray, List.map_cons, List.map_nil]; rfl)) ?_
  refine (send_x p hn0 (by rw [HR.out.cnt]; omega)).mono ?_
  rintro e w38 ⟨rfl, hn38, hm38⟩
  rw [sendE_is HR.out]
  have G9 := mods_box H9.out hm38 (by rintro ⟨_, h⟩; omega)
  have G5 := mods_box (keep_box H5.out HBd.out) hm38 (by rintro ⟨_, h⟩; omega)
  have G6 := mods_box (keep_box H6.out HBd.out) hm38 (by rintro ⟨_, h⟩; omega)
  have x0 : w38.cell? ⟨w31.heap.size, 0, none⟩ = some (.slice A6 (sendL p L).length c6) := (blk_cell G9 0).trans rfl
  have x1 : w38.cell? ⟨w31.heap.size, 1, none⟩ = some (.slice A1 A.length c1) := (blk_cell G9 1).trans rfl
  have y1 : w38.cell? ⟨w.heap.size + 1, 1, none⟩ = some (.int .i64 p.f0) := (blk_cell G5 1).trans rfl
  have y2 : w38.cell? ⟨w.heap.size + 1, 2, none⟩ = some (.int .i64 p.f1) := (blk_cell G5 2).trans rfl
  have y3 : w38.cell? ⟨w.heap.size + 1, 3, none⟩ = some (.int .i64 p.f2) := (blk_cell G5 3).trans rfl
  have y4 : w38.cell? ⟨w.heap.size + 1, 4, none⟩ = some (.int .i64 p.f3) := (blk_cell G5 4).trans rfl
  have y5 : w38.cell? ⟨w.heap.size + 1, 5, none⟩ = some (.int .i64 p.f4) := (blk_cell G5 5).trans rfl
  have y6 : w38.cell? ⟨w.heap.size + 1, 6, none⟩ = some (.int .i64 p.f5) := (blk_cell G5 6).trans rfl
  have y7 : w38.cell? ⟨w.heap.size + 1, 7, none⟩ = some (.string p.f6) := (blk_cell G5 7).trans rfl
  refine ⟨_, rfl, hK.out _ _ ⟨x0, x1, y1, y2, y3, y4, y5, y6, y7⟩ (fun hHeld => ?_)⟩
  clear hK K x0 x1 y1 y2 y3 y4 y5 y6 y7
  refine norm_ (a' := ?_) ?_ ?_
  rotate_left
  · show Act.put _ (some 38) _ = _
    simp only [Act.put, List.setIfInBounds_toArray, List.set_cons_zero, List.set_cons_succ, i64_w, i32_w]
    rfl
  refine pure_ (i := 6) (N := some 40) (v := ?_) (a' := ?_) #[true, true, true, true, true, true, true, false, false] rfl rfl (by kernel_rfl) (fun _ _ _ h => h) (Or.inl ⟨by rfl, ?_⟩) ?_ ?_
  rotate_left
  · intro w'; go_simp; with_reducible rfl
  rotate_left
  · simp only [Act.put, List.setIfInBounds_toArray, List.set_cons_zero, List.set_cons_succ, i64_w, i32_w]; rfl
  refine last_ (i := 7) (N := none) #[true, true, true, true, true, true, true, true, false] rfl rfl (by kernel_rfl) (by decide) (fun K hK => ?_)
  refine storeRow_ (by rfl) 40 (.tmp 6) (.tmp 34) rfl rfl (w.heap.size + 1 + 1) #[.slice A6 (sendL p L).length c6, .slice A1 A.length c1] rfl rfl 40 _ G6 info40s rfl (by rw [List.all_toArray]; rfl) ?_
  refine hK.out _ _ ?_
  clear hK K
  refine pure_ (i := 8) (N := some 7) (v := ?_) (a' := ?_) #[true, true, true, true, true, true, true, true, true] rfl rfl (by kernel_rfl) (fun _ _ _ h => h) (Or.inl ⟨by rfl, ?_⟩) ?_ ?_
  rotate_left
  · intro w'; go_simp; with_reducible rfl
  rotate_left
  · simp only [Act.put, List.setIfInBounds_toArray, List.set_cons_zero, List.set_cons_succ, i64_w, i32_w]; rfl
  refine done_ (by kernel_rfl) ?_
  go_wp2
  refine bodyPost_ret (results_ct rfl _ _ (w.heap.size + 1 + 1) 40 #[.slice A6 (sendL p L).length c6, .slice A1 A.length c1] (0, 0) _ rfl (setRow_heap _ _ _ _ _ _ G6) hu40 rfl info40s) rfl ?_
  have hB9 : Below w31.heap.size w31 (w31.alloc (.cells #[.slice A6 (sendL p L).length c6, .slice A1 A.length c1] 40 (0, 0))).drew := below_drew1 (below_alloc (Below.refl _ _) _)
  have h4s := HB4.out.size
  have R0 : RF k58 (w31.alloc (.cells #[.slice A6 (sendL p L).length c6, .slice A1 A.length c1] 40 (0, 0))).drew (fun k => k ≠ w.heap.size + 1 + 1 ∧ ¬ (F k ∧ k < w.heap.size)) (.slice A6 (sendL p L).length c6) ((sendL p L).map to58) := by
    refine ⟨A6, c6, by rw [List.length_map], by rw [List.length_map]; exact hRc, ?_⟩
    rw [List.length_map]
    exact Kd.F_mono (Kd.F_below HV.out hB9) (fun k hk => hk.elim (fun h => ⟨by omega, fun e => h.1 e.1⟩) (fun h => ⟨by omega, fun e => by omega⟩))
  exact do_fin hwD hn38 hm38 (by omega) (by omega) R0 ⟨A1, c1, rfl, hc1, Kd.F_mono (Kd.F_below (Kd.F_bound H1.out) hwD) (fun k hk => ⟨by omega, fun e => hk.1 e.1⟩)⟩
end
end Go.Proofs.Ytdibaeomepallaa.NW
/- The document's acts of layer 12, each for all arguments. -/
namespace Go.Proofs.Ytdibaeomepallaa.NW
open Go.RowKit Go.Proofs.YtdibaeomepallaaW.PrintWords Go.Proofs.YtdibaeomepallaaW.PrintLast Go.Proofs.YtdibaeomepallaaW.PrintMore Go.Proofs.Ytdibaeomepallaa.PAll
set_option linter.unusedVariables false
set_option linter.unusedSimpArgs false
section
variable (L : List Pk) (A : List S52) (a b i : Int) (on : Bool) (A0 : Option Addr) (c0 : Nat) (A1 : Option Addr) (c1 : Nat) (w : World) (ok : Nat → Prop)
theorem rf_stay {w' : World} (hF0 : Kd.F k58 w ok A0 L.length (L.map to58)) (hc0 : L.length ≤ c0) (hb : Below w.heap.size w w') : RF k58 w' (fun k => ok k ∨ w.heap.size ≤ k) (.slice A0 L.length c0) (L.map to58) :=
  ⟨A0, c0, by rw [List.length_map], by rw [List.length_map]; exact hc0, by rw [List.length_map]; exact Kd.F_mono (Kd.F_below hF0 hb) (fun _ hk => .inl hk)⟩
theorem refLose_is (hF0 : Kd.F k58 w ok A0 L.length (L.map to58)) (hc0 : L.length ≤ c0) (hC1 : Kd.C k52 w A1 A.length A) (hc1 : A.length ≤ c1) (hL : L.length ≤ 1000) :
    Calls Try.prog 64 #[.agg #[.slice A0 L.length c0, .slice A1 A.length c1], .agg #[.int .i64 a, .int .i64 b], .int .i64 i] w fun e w' => ∃ v0, e = .returned (.tuple #[.agg #[v0, .slice A1 A.length c1], .int .i64 (thereL L a b i)]) ∧ RF k58 w' (fun k => ok k ∨ w.heap.size ≤ k) v0 ((loseL L a b i).map to58) ∧ Below w.heap.size w w' := by
  unfold loseL
  by_cases ht : thereL L a b i = 0
  · rw [if_pos ht, ht]
    obtain ⟨hb, n, at_, p, rfl, h1, h2, h3, h4⟩ := place_of ht
    refine (refLose_ok L A a b _ A0 c0 A1 c1 w ok n at_ p rfl ht h1 h3 hF0 hc0 hC1 hc1 hL).mono fun e w' ⟨v0, he, hR, hb⟩ => ⟨v0, he, ?_, hb⟩
    rw [woTo_all h2] at hR
    unfold delL
    rw [atL_is h1]
    exact (RF.of_R hR).mono (fun _ hk => .inr hk)
  · rw [if_neg ht]
    exact (refLose_no L A a b i A0 c0 A1 c1 w ok _ rfl ht hF0 hc0 hC1 hc1 hL).mono fun e w' ⟨he, hb⟩ => ⟨_, he, rf_stay L A0 c0 w ok hF0 hc0 hb, hb⟩
theorem refTwice_is (hF0 : Kd.F k58 w ok A0 L.length (L.map to58)) (hc0 : L.length ≤ c0) (hC1 : Kd.C k52 w A1 A.length A) (hc1 : A.length ≤ c1) (hL : L.length ≤ 1000) :
    Calls Try.prog 65 #[.agg #[.slice A0 L.length c0, .slice A1 A.length c1], .agg #[.int .i64 a, .int .i64 b], .int .i64 i] w fun e w' => ∃ v0, e = .returned (.tuple #[.agg #[v0, .slice A1 A.length c1], .int .i64 (twiceLE L a b i)]) ∧ RF k58 w' (fun k => ok k ∨ w.heap.size ≤ k) v0 ((twiceLL L a b i).map to58) ∧ Below w.heap.size w w' := by
  unfold twiceLL twiceLE
  by_cases ht : thereL L a b i = 0
  · rw [if_pos ht, if_pos ht]
    obtain ⟨hb, n, at_, p, rfl, h1, h2, h3, h4⟩ := place_of ht
    rw [pkL_is h1 h3]
    exact refTwice_ok L A a b _ A0 c0 A1 c1 w ok n at_ p rfl ht h1 h3 hF0 hc0 hC1 hc1 hL
  · rw [if_neg ht, if_neg ht]
    exact (refTwice_no L A a b i A0 c0 A1 c1 w ok _ rfl ht hF0 hc0 hC1 hc1 hL).mono fun e w' ⟨he, hb⟩ => ⟨_, he, rf_stay L A0 c0 w ok hF0 hc0 hb, hb⟩
theorem refTake_is (P : Pk) (hP : takeLP L A a b i = P) (hF0 : Kd.F k58 w ok A0 L.length (L.map to58)) (hc0 : L.length ≤ c0) (hC1 : Kd.C k52 w A1 A.length A) (hc1 : A.length ≤ c1) (hL : L.length ≤ 1000) (hA : A.length ≤ 1000) :
    Calls Try.prog 63 #[.agg #[.slice A0 L.length c0, .slice A1 A.length c1], .agg #[.int .i64 a, .int .i64 b], .int .i64 i] w fun e w' => ∃ v0, e = .returned (.agg #[v0, .slice A1 A.length c1, .int .i64 P.f0, .int .i64 P.f1, .int .i64 P.f2, .int .i64 P.f3, .int .i64 P.f4, .int .i64 P.f5, .string P.f6, .int .i64 (takeLE L A a b i)]) ∧ RF k58 w' (fun k => ok k ∨ w.heap.size ≤ k) v0 ((takeLL L A a b i).map to58) ∧ Below w.heap.size w w' := by
  subst hP
  by_cases ht : thereL L a b i = 0
  · obtain ⟨hb, n, at_, p, rfl, h1, h2, h3, h4⟩ := place_of ht
    cases hc : cutL A a b with
    | true =>
      have hE : takeLE L A a b n = 12 := by unfold takeLE; rw [if_pos ht, hc]; rfl
      have hE0 : ¬ takeLE L A a b n = 0 := by rw [hE]; decide
      unfold takeLP takeLL
      rw [if_neg hE0, if_neg hE0, hE]
      exact (refTake_cut L A a b _ A0 c0 A1 c1 w ht hc (Kd.F_now hF0) hc0 hC1 hc1 hL hA).mono fun e w' ⟨he, hb⟩ => ⟨_, he, rf_stay L A0 c0 w ok hF0 hc0 hb, hb⟩
    | false =>
      have hE : takeLE L A a b n = 0 := by unfold takeLE; rw [if_pos ht, hc]; rfl
      unfold takeLP takeLL
      rw [if_pos hE, if_pos hE, hE, pkL_is h1 h3]
      refine (refTake_ok L A a b _ A0 c0 A1 c1 w n at_ p rfl ht hc h1 h3 (Kd.F_now hF0) hc0 hC1 hc1 hL hA).mono fun e w' ⟨v0, he, hR, hb⟩ => ⟨v0, he, ?_, hb⟩
      rw [woTo_all h2] at hR
      unfold delL
      rw [atL_is h1]
      exact (RF.of_R hR).mono (fun _ hk => .inr hk)
  · have hE : takeLE L A a b i = thereL L a b i := by unfold takeLE; rw [if_neg ht]
    have hE0 : ¬ takeLE L A a b i = 0 := by rw [hE]; exact ht
    unfold takeLP takeLL
    rw [if_neg hE0, if_neg hE0, hE]
    exact (refTake_no L A a b i A0 c0 A1 c1 w _ rfl ht (Kd.F_now hF0) hc0 hC1 hc1 hL).mono fun e w' ⟨he, hb⟩ => ⟨_, he, rf_stay L A0 c0 w ok hF0 hc0 hb, hb⟩
theorem refPart_is (n0 : Nat) (hF1 : Kd.F k52 w ok A1 A.length A) (hc1 : A.length ≤ c1) (hA : A.length ≤ 1000) :
    Calls Try.prog 66 #[.agg #[.slice A0 n0 c0, .slice A1 A.length c1], .agg #[.int .i64 a, .int .i64 b], .bool on] w fun e w' => ∃ v1, e = .returned (.tuple #[.agg #[.slice A0 n0 c0, v1], .int .i64 (apartE a b)]) ∧ RF k52 w' (fun k => ok k ∨ w.heap.size ≤ k) v1 (partL A a b on) ∧ Below w.heap.size w w' := by
  unfold apartE partL
  cases hb : hopB a b with
  | false =>
    rw [if_neg (by decide), if_neg (by decide)]
    exact (refPart_no A a b on A0 c0 n0 A1 c1 w hb).mono fun e w' ⟨he, hb⟩ => ⟨_, he, ⟨A1, c1, rfl, hc1, Kd.F_mono (Kd.F_below hF1 hb) (fun _ hk => .inl hk)⟩, hb⟩
  | true =>
    rw [if_pos rfl, if_pos rfl]
    exact (refPart_ok A a b on A0 c0 n0 A1 c1 w hb (Kd.F_now hF1) hc1 hA).mono fun e w' ⟨v1, he, hR, hb⟩ => ⟨v1, he, (RF.of_R hR).mono (fun _ hk => .inr hk), hb⟩
theorem refClearL_is (n1 : Nat) (hF0 : Kd.F k58 w ok A0 L.length (L.map to58)) (hc0 : L.length ≤ c0) (hL : L.length ≤ 1000) :
    Calls Try.prog 67 #[.agg #[.slice A0 L.length c0, .slice A1 n1 c1], .int .i64 i] w fun e w' => ∃ v0, e = .returned (.agg #[v0, .slice A1 n1 c1]) ∧ RF k58 w' (fun k => ok k ∨ w.heap.size ≤ k) v0 ((clearL i L).map to58) ∧ Below w.heap.size w w' := by
  have key := refClear_is (L.map to58) i A0 c0 A1 n1 c1 w (by rw [List.length_map]; exact Kd.F_now hF0) (by rw [List.length_map]; exact hc0) (by rw [List.length_map]; exact hL)
  rw [List.length_map, clTo_all] at key
  exact key.mono fun e w' ⟨v0, he, hR, hb⟩ => ⟨v0, he, (RF.of_R hR).mono (fun _ hk => .inr hk), hb⟩
end
end Go.Proofs.Ytdibaeomepallaa.NW
/- The law's act on both nets, by hand: Lose, Twice, Apart, Clear. Written by a program of this session. -/
namespace Go.Proofs.Ytdibaeomepallaa.NW
open Go.RowKit Go.Proofs.YtdibaeomepallaaW.PrintWords Go.Proofs.YtdibaeomepallaaW.PrintLast Go.Proofs.YtdibaeomepallaaW.PrintMore Go.Proofs.Ytdibaeomepallaa.PAll
set_option linter.unusedVariables false
set_option linter.unusedSimpArgs false
set_option maxRecDepth 100000
attribute [local go_sem high] eqA52 eqA58
section
variable (p : Pk) (a b i : Int) (on : Bool) {w : World} {F : Nat → Prop} {g : Nat} {q : List (List Pk)} {ap : List Bool} {L : List Pk} {A : List S52} {A0 : Option Addr} {c0 : Nat} {A1 : Option Addr} {c1 : Nat}
set_option maxHeartbeats 4000000 in
theorem do_lose (hn : NetW w F g q ap) (hr : NRel q L) (ha : ARel ap A) (hL : L.length ≤ 400) (hA : A.length ≤ 1000) (h0 : Kd.F k58 w (fun k => ¬ F k) A0 L.length (L.map to58)) (hc0 : L.length ≤ c0) (h1 : Kd.F k52 w (fun k => ¬ F k) A1 A.length A) (hc1 : A.length ≤ c1) :
    Calls Try.prog 22 #[.pointer (some ⟨g, 0, none⟩), .agg #[.slice A0 L.length c0, .slice A1 A.length c1], .agg #[.int .i64 2, .int .i64 p.f0, .int .i64 p.f1, .int .i64 p.f2, .int .i64 p.f3, .int .i64 p.f4, .int .i64 p.f5, .string p.f6, .int .i64 a, .int .i64 b, .int .i64 i, .bool on]] w (DoOut w F g (loseQ q a b i) ap (loseL L a b i) A) := by
  have hu28 := Try.underlying28
  have hu32 := Try.underlying32
  have hu40 := Try.underlying40
  have hu42 := Try.underlying42
  have hu52 := Try.underlying52
  have hu58 := Try.underlying58
  obtain ⟨w4, hw4, hB4, hb4, hb5, hb6, hb8⟩ := boxes4 w (.cells #[.slice A0 L.length c0, .slice A1 A.length c1] 40 (0, 0)) (.cells #[.int .i64 2, .int .i64 p.f0, .int .i64 p.f1, .int .i64 p.f2, .int .i64 p.f3, .int .i64 p.f4, .int .i64 p.f5, .string p.f6, .int .i64 a, .int .i64 b, .int .i64 i, .bool on] 42 (0, 0)) (.cells #[.slice none 0 0, .slice none 0 0] 40 (0, 0)) (.cells #[.int .i64 a, .int .i64 b] 52 (0, 0))
  have HW := Aside0.mk hw4
  have HB4 := Aside0.mk hB4
  have H4 := Aside0.mk hb4
  have H5 := Aside0.mk hb5
  have H6 := Aside0.mk hb6
  have HN := Aside0.mk hn
  have HR := Aside0.mk hr
  have HA := Aside0.mk ha
  have H0 := Aside0.mk h0
  have H1 := Aside0.mk h1
  have hB4w : w.heap.size ≤ w4.heap.size := hB4.size
  clear hw4 hB4 hb4 hb5 hb6 hb8 hn hr ha h0 h1
  go_enter Try.func22, Try.ntmps22
  go_wp2_with (first
    | ((with_reducible refine gate_dst (N := 76) rfl ?_); refine goesL_ (some 76) rfl rfl Try.func64 (by kernel_rfl) rfl #[.agg #[.slice A0 L.length c0, .slice A1 A.length c1], .agg #[.int .i64 a, .int .i64 b], .int .i64 i] rfl (by first | (simp only [List.map_toArray, List.map_cons, List.map_nil]; rfl) | rfl) ?_; refine (refLose_is L A a b i A0 c0 A1 c1 _ (fun k => ¬ F k ∧ k < w.heap.size) (by rw [← HW.out]; exact Kd.F_below (Kd.F_bound H0.out) HB4.out) hc0 (by rw [← HW.out]; exact Kd.C_below (Kd.F_now H1.out) HB4.out) hc1 (by omega)).mono ?_; rintro e w31 ⟨v0, rfl, hv, hb⟩; rw [← HW.out] at hv hb; obtain ⟨A6, c6, hv0, hRc, hRf⟩ := hv; rw [List.length_map] at hv0 hRc hRf; subst hv0; have HB := Aside0.mk hb; have HV := Aside0.mk hRf; clear hb hRf; refine ⟨_, rfl, ?_⟩))
  have hBa := below_alloc HB.out (.cells #[.slice A6 (loseL L a b i).length c6, .slice A1 A.length c1] 40 (0, 0))
  have HBd := Aside0.mk (below_drew1 hBa)
  have H9 := Aside0.mk (blk_drew (blk_new w31 (.cells #[.slice A6 (loseL L a b i).length c6, .slice A1 A.length c1] 40 (0, 0))))
  have h31 : w4.heap.size ≤ w31.heap.size := HB.out.size
  have h41 : w.heap.size + 1 + 1 < w4.heap.size := blk_lt H6.out
  clear hBa
  have x0 : (w31.alloc (.cells #[.slice A6 (loseL L a b i).length c6, .slice A1 A.length c1] 40 (0, 0))).drew.cell? ⟨w31.heap.size, 0, none⟩ = some (.slice A6 (loseL L a b i).length c6) := (blk_cell H9.out 0).trans rfl
  have x1 : (w31.alloc (.cells #[.slice A6 (loseL L a b i).length c6, .slice A1 A.length c1] 40 (0, 0))).drew.cell? ⟨w31.heap.size, 1, none⟩ = some (.slice A1 A.length c1) := (blk_cell H9.out 1).trans rfl
  have y8 : (w31.alloc (.cells #[.slice A6 (loseL L a b i).length c6, .slice A1 A.length c1] 40 (0, 0))).drew.cell? ⟨w.heap.size + 1, 8, none⟩ = some (.int .i64 a) := (blk_cell (keep_box H5.out HBd.out) 8).trans rfl
  have y9 : (w31.alloc (.cells #[.slice A6 (loseL L a b i).length c6, .slice A1 A.length c1] 40 (0, 0))).drew.cell? ⟨w.heap.size + 1, 9, none⟩ = some (.int .i64 b) := (blk_cell (keep_box H5.out HBd.out) 9).trans rfl
  have y10 : (w31.alloc (.cells #[.slice A6 (loseL L a b i).length c6, .slice A1 A.length c1] 40 (0, 0))).drew.cell? ⟨w.heap.size + 1, 10, none⟩ = some (.int .i64 i) := (blk_cell (keep_box H5.out HBd.out) 10).trans rfl
  refine start_ (n := 11) (S := fun w' => w'.cell? ⟨w31.heap.size, 0, none⟩ = some (.slice A6 (loseL L a b i).length c6) ∧ w'.cell? ⟨w31.heap.size, 1, none⟩ = some (.slice A1 A.length c1) ∧ w'.cell? ⟨w.heap.size + 1, 8, none⟩ = some (.int .i64 a) ∧ w'.cell? ⟨w.heap.size + 1, 9, none⟩ = some (.int .i64 b) ∧ w'.cell? ⟨w.heap.size + 1, 10, none⟩ = some (.int .i64 i)) (ds := [9]) #[false, false, false, false, false, false, false, false, false, false, false] (by kernel_rfl) rfl rfl ⟨x0, x1, y8, y9, y10⟩ (fun hHeld => ?_)
  refine take_ (i := 0) (N := some 79) (v := ?_) (a' := ?_) #[true, false, false, false, false, false, false, false, false, false, false] rfl rfl (by kernel_rfl) (fun _ _ _ h => h) (Or.inl ⟨by rfl, ?_⟩) hHeld ?_ ?_
  rotate_left
  · rintro w' ⟨s0, s1, s2, s3, s4⟩; go_simp; with_reducible rfl
  rotate_left
  · simp only [Act.put, List.setIfInBounds_toArray, List.set_cons_zero, List.set_cons_succ, i64_w, i32_w]; rfl
  refine pure_ (i := 1) (N := some 80) (v := ?_) (a' := ?_) #[true, true, false, false, false, false, false, false, false, false, false] rfl rfl (by kernel_rfl) (fun _ _ _ h => h) (Or.inl ⟨by rfl, ?_⟩) ?_ ?_
  rotate_left
  · intro w'; go_simp; with_reducible rfl
  rotate_left
  · simp only [Act.put, List.setIfInBounds_toArray, List.set_cons_zero, List.set_cons_succ, i64_w, i32_w]; rfl
  refine pure_ (i := 2) (N := some 81) (v := ?_) (a' := ?_) #[true, true, true, false, false, false, false, false, false, false, false] rfl rfl (by kernel_rfl) (fun _ _ _ h => h) (Or.inl ⟨by rfl, ?_⟩) ?_ ?_
  rotate_left
  · intro w'; go_simp; with_reducible rfl
  rotate_left
  · simp only [Act.put, List.setIfInBounds_toArray, List.set_cons_zero, List.set_cons_succ, i64_w, i32_w]; rfl
  refine take_ (i := 3) (N := some 82) (v := ?_) (a' := ?_) #[true, true, true, true, false, false, false, false, false, false, false] rfl rfl (by kernel_rfl) (fun _ _ _ h => h) (Or.inl ⟨by rfl, ?_⟩) hHeld ?_ ?_
  rotate_left
  · rintro w' ⟨s0, s1, s2, s3, s4⟩; go_simp; with_reducible rfl
  rotate_left
  · simp only [Act.put, List.setIfInBounds_toArray, List.set_cons_zero, List.set_cons_succ, i64_w, i32_w]; rfl
  refine pure_ (i := 4) (N := some 83) (v := ?_) (a' := ?_) #[true, true, true, true, true, false, false, false, false, false, false] rfl rfl (by kernel_rfl) (fun _ _ _ h => h) (Or.inl ⟨by rfl, ?_⟩) ?_ ?_
  rotate_left
  · intro w'; go_simp; with_reducible rfl
  rotate_left
  · simp only [Act.put, List.setIfInBounds_toArray, List.set_cons_zero, List.set_cons_succ, i64_w, i32_w]; rfl
  refine take_ (i := 5) (N := some 84) (v := ?_) (a' := ?_) #[true, true, true, true, true, true, false, false, false, false, false] rfl rfl (by kernel_rfl) (fun _ _ _ h => h) (Or.inl ⟨by rfl, ?_⟩) hHeld ?_ ?_
  rotate_left
  · rintro w' ⟨s0, s1, s2, s3, s4⟩; go_simp; with_reducible rfl
  rotate_left
  · simp only [Act.put, List.setIfInBounds_toArray, List.set_cons_zero, List.set_cons_succ, i64_w, i32_w]; rfl
  refine pure_ (i := 7) (N := some 86) (v := ?_) (a' := ?_) #[true, true, true, true, true, true, false, true, false, false, false] rfl rfl (by kernel_rfl) (fun _ _ _ h => h) (Or.inl ⟨by rfl, ?_⟩) ?_ ?_
  rotate_left
  · intro w'; go_simp; with_reducible rfl
  rotate_left
  · simp only [Act.put, List.setIfInBounds_toArray, List.set_cons_zero, List.set_cons_succ, i64_w, i32_w]; rfl
  clear x0 x1 y8 y9 y10
  have hwD : Below w.heap.size w (w31.alloc (.cells #[.slice A6 (loseL L a b i).length c6, .slice A1 A.length c1] 40 (0, 0))).drew := HB4.out.trans (HBd.out.mono HB4.out.size)
  have hsz : w31.heap.size < (w31.alloc (.cells #[.slice A6 (loseL L a b i).length c6, .slice A1 A.length c1] 40 (0, 0))).drew.heap.size := blk_lt H9.out
  have hn0 : NetW (w31.alloc (.cells #[.slice A6 (loseL L a b i).length c6, .slice A1 A.length c1] 40 (0, 0))).drew (fun k => F k ∧ k < w.heap.size) g q ap := (HN.out.mono (fun k hk hF => ⟨hF, hk⟩)).below hwD
  refine one_ (i := 6) (N := some 85) #[true, true, true, true, true, true, true, true, false, false, false] rfl rfl (by kernel_rfl) (by decide) (fun K hK => ?_)
  refine goes_ Try.func31 (by kernel_rfl) rfl #[.pointer (some ⟨g, 0, none⟩), .agg #[.int .i64 a, .int .i64 b], .int .i64 i] (by rfl) rfl rfl (by first | rfl | (simp only [List.map_toArray, List.map_cons, List.map_nil]; rfl)) ?_
  refine (lose_is hn0 (by rw [HR.out.cnt]; omega) a b i).mono ?_
  rintro e w38 ⟨rfl, hn38, hm38⟩
  rw [HR.out.there a b i]
  have G9 := mods_box H9.out hm38 (by rintro ⟨_, h⟩; omega)
  have G4 := mods_box (keep_box H4.out HBd.out) hm38 (by rintro ⟨_, h⟩; omega)
  have G5 := mods_box (keep_box H5.out HBd.out) hm38 (by rintro ⟨_, h⟩; omega)
  have G6 := mods_box (keep_box H6.out HBd.out) hm38 (by rintro ⟨_, h⟩; omega)
  have x0 : w38.cell? ⟨w31.heap.size, 0, none⟩ = some (.slice A6 (loseL L a b i).length c6) := (blk_cell G9 0).trans rfl
  have x1 : w38.cell? ⟨w31.heap.size, 1, none⟩ = some (.slice A1 A.length c1) := (blk_cell G9 1).trans rfl
  have y8 : w38.cell? ⟨w.heap.size + 1, 8, none⟩ = some (.int .i64 a) := (blk_cell G5 8).trans rfl
  have y9 : w38.cell? ⟨w.heap.size + 1, 9, none⟩ = some (.int .i64 b) := (blk_cell G5 9).trans rfl
  have y10 : w38.cell? ⟨w.heap.size + 1, 10, none⟩ = some (.int .i64 i) := (blk_cell G5 10).trans rfl
  refine ⟨_, rfl, hK.out _ _ ⟨x0, x1, y8, y9, y10⟩ (fun hHeld => ?_)⟩
  clear hK K x0 x1 y8 y9 y10
  refine norm_ (a' := ?_) ?_ ?_
  rotate_left
  · show Act.put _ (some 85) _ = _
    simp only [Act.put, List.setIfInBounds_toArray, List.set_cons_zero, List.set_cons_succ, i64_w, i32_w]
    rfl
  refine pure_ (i := 8) (N := some 87) (v := ?_) (a' := ?_) #[true, true, true, true, true, true, true, true, true, false, false] rfl rfl (by kernel_rfl) (fun _ _ _ h => h) (Or.inl ⟨by rfl, ?_⟩) ?_ ?_
  rotate_left
  · intro w'; go_simp; with_reducible rfl
  rotate_left
  · simp only [Act.put, List.setIfInBounds_toArray, List.set_cons_zero, List.set_cons_succ, i64_w, i32_w]; rfl
  refine last_ (i := 9) (N := none) #[true, true, true, true, true, true, true, true, true, true, false] rfl rfl (by kernel_rfl) (by decide) (fun K hK => ?_)
  refine storeRow_ (by rfl) 40 (.tmp 6) (.tmp 79) rfl rfl (w.heap.size + 1 + 1) #[.slice A6 (loseL L a b i).length c6, .slice A1 A.length c1] rfl rfl 40 _ G6 info40s rfl (by rw [List.all_toArray]; rfl) ?_
  refine hK.out _ _ ?_
  clear hK K
  refine pure_ (i := 10) (N := some 7) (v := ?_) (a' := ?_) #[true, true, true, true, true, true, true, true, true, true, true] rfl rfl (by kernel_rfl) (fun _ _ _ h => h) (Or.inl ⟨by rfl, ?_⟩) ?_ ?_
  rotate_left
  · intro w'; go_simp; with_reducible rfl
  rotate_left
  · simp only [Act.put, List.setIfInBounds_toArray, List.set_cons_zero, List.set_cons_succ, i64_w, i32_w]; rfl
  refine done_ (by kernel_rfl) ?_
  go_wp2
  refine bodyPost_ret (results_ct rfl _ _ (w.heap.size + 1 + 1) 40 #[.slice A6 (loseL L a b i).length c6, .slice A1 A.length c1] (0, 0) _ rfl (setRow_heap _ _ _ _ _ _ G6) hu40 rfl info40s) rfl ?_
  have hB9 : Below w31.heap.size w31 (w31.alloc (.cells #[.slice A6 (loseL L a b i).length c6, .slice A1 A.length c1] 40 (0, 0))).drew := below_drew1 (below_alloc (Below.refl _ _) _)
  have R0 : RF k58 (w31.alloc (.cells #[.slice A6 (loseL L a b i).length c6, .slice A1 A.length c1] 40 (0, 0))).drew (fun k => k ≠ w.heap.size + 1 + 1 ∧ ¬ (F k ∧ k < w.heap.size)) (.slice A6 (loseL L a b i).length c6) ((loseL L a b i).map to58) := by
    refine ⟨A6, c6, by rw [List.length_map], by rw [List.length_map]; exact hRc, ?_⟩
    rw [List.length_map]
    exact Kd.F_mono (Kd.F_below HV.out hB9) (fun k hk => hk.elim (fun h => ⟨by omega, fun e => h.1 e.1⟩) (fun h => ⟨by omega, fun e => by omega⟩))
  exact do_fin hwD hn38 hm38 (by omega) (by omega) R0 ⟨A1, c1, rfl, hc1, Kd.F_mono (Kd.F_below (Kd.F_bound H1.out) hwD) (fun k hk => ⟨by omega, fun e => hk.1 e.1⟩)⟩
set_option maxHeartbeats 4000000 in
theorem do_twice (hn : NetW w F g q ap) (hr : NRel q L) (ha : ARel ap A) (hL : L.length ≤ 400) (hA : A.length ≤ 1000) (h0 : Kd.F k58 w (fun k => ¬ F k) A0 L.length (L.map to58)) (hc0 : L.length ≤ c0) (h1 : Kd.F k52 w (fun k => ¬ F k) A1 A.length A) (hc1 : A.length ≤ c1) :
    Calls Try.prog 22 #[.pointer (some ⟨g, 0, none⟩), .agg #[.slice A0 L.length c0, .slice A1 A.length c1], .agg #[.int .i64 3, .int .i64 p.f0, .int .i64 p.f1, .int .i64 p.f2, .int .i64 p.f3, .int .i64 p.f4, .int .i64 p.f5, .string p.f6, .int .i64 a, .int .i64 b, .int .i64 i, .bool on]] w (DoOut w F g (twiceQ q a b i) ap (twiceLL L a b i) A) := by
  have hu28 := Try.underlying28
  have hu32 := Try.underlying32
  have hu40 := Try.underlying40
  have hu42 := Try.underlying42
  have hu52 := Try.underlying52
  have hu58 := Try.underlying58
  obtain ⟨w4, hw4, hB4, hb4, hb5, hb6, hb8⟩ := boxes4 w (.cells #[.slice A0 L.length c0, .slice A1 A.length c1] 40 (0, 0)) (.cells #[.int .i64 3, .int .i64 p.f0, .int .i64 p.f1, .int .i64 p.f2, .int .i64 p.f3, .int .i64 p.f4, .int .i64 p.f5, .string p.f6, .int .i64 a, .int .i64 b, .int .i64 i, .bool on] 42 (0, 0)) (.cells #[.slice none 0 0, .slice none 0 0] 40 (0, 0)) (.cells #[.int .i64 a, .int .i64 b] 52 (0, 0))
  have HW := Aside0.mk hw4
  have HB4 := Aside0.mk hB4
  have H4 := Aside0.mk hb4
  have H5 := Aside0.mk hb5
  have H6 := Aside0.mk hb6
  have HN := Aside0.mk hn
  have HR := Aside0.mk hr
  have HA := Aside0.mk ha
  have H0 := Aside0.mk h0
  have H1 := Aside0.mk h1
  have hB4w : w.heap.size ≤ w4.heap.size := hB4.size
  clear hw4 hB4 hb4 hb5 hb6 hb8 hn hr ha h0 h1
  go_enter Try.func22, Try.ntmps22
  go_wp2_with (first
    | ((with_reducible refine gate_dst (N := 95) rfl ?_); refine goesL_ (some 95) rfl rfl Try.func65 (by kernel_rfl) rfl #[.agg #[.slice A0 L.length c0, .slice A1 A.length c1], .agg #[.int .i64 a, .int .i64 b], .int .i64 i] rfl (by first | (simp only [List.map_toArray, List.map_cons, List.map_nil]; rfl) | rfl) ?_; refine (refTwice_is L A a b i A0 c0 A1 c1 _ (fun k => ¬ F k ∧ k < w.heap.size) (by rw [← HW.out]; exact Kd.F_below (Kd.F_bound H0.out) HB4.out) hc0 (by rw [← HW.out]; exact Kd.C_below (Kd.F_now H1.out) HB4.out) hc1 (by omega)).mono ?_; rintro e w31 ⟨v0, rfl, hv, hb⟩; rw [← HW.out] at hv hb; obtain ⟨A6, c6, hv0, hRc, hRf⟩ := hv; rw [List.length_map] at hv0 hRc hRf; subst hv0; have HB := Aside0.mk hb; have HV := Aside0.mk hRf; clear hb hRf; refine ⟨_, rfl, ?_⟩))
  have hBa := below_alloc HB.out (.cells #[.slice A6 (twiceLL L a b i).length c6, .slice A1 A.length c1] 40 (0, 0))
  have HBd := Aside0.mk (below_drew1 hBa)
  have H9 := Aside0.mk (blk_drew (blk_new w31 (.cells #[.slice A6 (twiceLL L a b i).length c6, .slice A1 A.length c1] 40 (0, 0))))
  have h31 : w4.heap.size ≤ w31.heap.size := HB.out.size
  have h41 : w.heap.size + 1 + 1 < w4.heap.size := blk_lt H6.out
  clear hBa
  have x0 : (w31.alloc (.cells #[.slice A6 (twiceLL L a b i).length c6, .slice A1 A.length c1] 40 (0, 0))).drew.cell? ⟨w31.heap.size, 0, none⟩ = some (.slice A6 (twiceLL L a b i).length c6) := (blk_cell H9.out 0).trans rfl
  have x1 : (w31.alloc (.cells #[.slice A6 (twiceLL L a b i).length c6, .slice A1 A.length c1] 40 (0, 0))).drew.cell? ⟨w31.heap.size, 1, none⟩ = some (.slice A1 A.length c1) := (blk_cell H9.out 1).trans rfl
  have y8 : (w31.alloc (.cells #[.slice A6 (twiceLL L a b i).length c6, .slice A1 A.length c1] 40 (0, 0))).drew.cell? ⟨w.heap.size + 1, 8, none⟩ = some (.int .i64 a) := (blk_cell (keep_box H5.out HBd.out) 8).trans rfl
  have y9 : (w31.alloc (.cells #[.slice A6 (twiceLL L a b i).length c6, .slice A1 A.length c1] 40 (0, 0))).drew.cell? ⟨w.heap.size + 1, 9, none⟩ = some (.int .i64 b) := (blk_cell (keep_box H5.out HBd.out) 9).trans rfl
  have y10 : (w31.alloc (.cells #[.slice A6 (twiceLL L a b i).length c6, .slice A1 A.length c1] 40 (0, 0))).drew.cell? ⟨w.heap.size + 1, 10, none⟩ = some (.int .i64 i) := (blk_cell (keep_box H5.out HBd.out) 10).trans rfl
  refine start_ (n := 11) (S := fun w' => w'.cell? ⟨w31.heap.size, 0, none⟩ = some (.slice A6 (twiceLL L a b i).length c6) ∧ w'.cell? ⟨w31.heap.size, 1, none⟩ = some (.slice A1 A.length c1) ∧ w'.cell? ⟨w.heap.size + 1, 8, none⟩ = some (.int .i64 a) ∧ w'.cell? ⟨w.heap.size + 1, 9, none⟩ = some (.int .i64 b) ∧ w'.cell? ⟨w.heap.size + 1, 10, none⟩ = some (.int .i64 i)) (ds := [9]) #[false, false, false, false, false, false, false, false, false, false, false] (by kernel_rfl) rfl rfl ⟨x0, x1, y8, y9, y10⟩ (fun hHeld => ?_)
  refine take_ (i := 0) (N := some 98) (v := ?_) (a' := ?_) #[true, false, false, false, false, false, false, false, false, false, false] rfl rfl (by kernel_rfl) (fun _ _ _ h => h) (Or.inl ⟨by rfl, ?_⟩) hHeld ?_ ?_
  rotate_left
  · rintro w' ⟨s0, s1, s2, s3, s4⟩; go_simp; with_reducible rfl
  rotate_left
  · simp only [Act.put, List.setIfInBounds_toArray, List.set_cons_zero, List.set_cons_succ, i64_w, i32_w]; rfl
  refine pure_ (i := 1) (N := some 99) (v := ?_) (a' := ?_) #[true, true, false, false, false, false, false, false, false, false, false] rfl rfl (by kernel_rfl) (fun _ _ _ h => h) (Or.inl ⟨by rfl, ?_⟩) ?_ ?_
  rotate_left
  · intro w'; go_simp; with_reducible rfl
  rotate_left
  · simp only [Act.put, List.setIfInBounds_toArray, List.set_cons_zero, List.set_cons_succ, i64_w, i32_w]; rfl
  refine pure_ (i := 2) (N := some 100) (v := ?_) (a' := ?_) #[true, true, true, false, false, false, false, false, false, false, false] rfl rfl (by kernel_rfl) (fun _ _ _ h => h) (Or.inl ⟨by rfl, ?_⟩) ?_ ?_
  rotate_left
  · intro w'; go_simp; with_reducible rfl
  rotate_left
  · simp only [Act.put, List.setIfInBounds_toArray, List.set_cons_zero, List.set_cons_succ, i64_w, i32_w]; rfl
  refine take_ (i := 3) (N := some 101) (v := ?_) (a' := ?_) #[true, true, true, true, false, false, false, false, false, false, false] rfl rfl (by kernel_rfl) (fun _ _ _ h => h) (Or.inl ⟨by rfl, ?_⟩) hHeld ?_ ?_
  rotate_left
  · rintro w' ⟨s0, s1, s2, s3, s4⟩; go_simp; with_reducible rfl
  rotate_left
  · simp only [Act.put, List.setIfInBounds_toArray, List.set_cons_zero, List.set_cons_succ, i64_w, i32_w]; rfl
  refine pure_ (i := 4) (N := some 102) (v := ?_) (a' := ?_) #[true, true, true, true, true, false, false, false, false, false, false] rfl rfl (by kernel_rfl) (fun _ _ _ h => h) (Or.inl ⟨by rfl, ?_⟩) ?_ ?_
  rotate_left
  · intro w'; go_simp; with_reducible rfl
  rotate_left
  · simp only [Act.put, List.setIfInBounds_toArray, List.set_cons_zero, List.set_cons_succ, i64_w, i32_w]; rfl
  refine take_ (i := 5) (N := some 103) (v := ?_) (a' := ?_) #[true, true, true, true, true, true, false, false, false, false, false] rfl rfl (by kernel_rfl) (fun _ _ _ h => h) (Or.inl ⟨by rfl, ?_⟩) hHeld ?_ ?_
  rotate_left
  · rintro w' ⟨s0, s1, s2, s3, s4⟩; go_simp; with_reducible rfl
  rotate_left
  · simp only [Act.put, List.setIfInBounds_toArray, List.set_cons_zero, List.set_cons_succ, i64_w, i32_w]; rfl
  refine pure_ (i := 7) (N := some 105) (v := ?_) (a' := ?_) #[true, true, true, true, true, true, false, true, false, false, false] rfl rfl (by kernel_rfl) (fun _ _ _ h => h) (Or.inl ⟨by rfl, ?_⟩) ?_ ?_
  rotate_left
  · intro w'; go_simp; with_reducible rfl
  rotate_left
  · simp only [Act.put, List.setIfInBounds_toArray, List.set_cons_zero, List.set_cons_succ, i64_w, i32_w]; rfl
  clear x0 x1 y8 y9 y10
  have hwD : Below w.heap.size w (w31.alloc (.cells #[.slice A6 (twiceLL L a b i).length c6, .slice A1 A.length c1] 40 (0, 0))).drew := HB4.out.trans (HBd.out.mono HB4.out.size)
  have hsz : w31.heap.size < (w31.alloc (.cells #[.slice A6 (twiceLL L a b i).length c6, .slice A1 A.length c1] 40 (0, 0))).drew.heap.size := blk_lt H9.out
  have hn0 : NetW (w31.alloc (.cells #[.slice A6 (twiceLL L a b i).length c6, .slice A1 A.length c1] 40 (0, 0))).drew (fun k => F k ∧ k < w.heap.size) g q ap := (HN.out.mono (fun k hk hF => ⟨hF, hk⟩)).below hwD
  refine one_ (i := 6) (N := some 104) #[true, true, true, true, true, true, true, true, false, false, false] rfl rfl (by kernel_rfl) (by decide) (fun K hK => ?_)
  refine goes_ Try.func19 (by kernel_rfl) rfl #[.pointer (some ⟨g, 0, none⟩), .agg #[.int .i64 a, .int .i64 b], .int .i64 i] (by rfl) rfl rfl (by first | rfl | (simp only [List.map_toArray, List.map_cons, List.map_nil]; rfl)) ?_
  refine (twice_is hn0 (by rw [HR.out.cnt]; omega) a b i).mono ?_
  rintro e w38 ⟨rfl, hn38, hm38⟩
  rw [twiceE_is HR.out a b i]
  have G9 := mods_box H9.out hm38 (by rintro ⟨_, h⟩; omega)
  have G4 := mods_box (keep_box H4.out HBd.out) hm38 (by rintro ⟨_, h⟩; omega)
  have G5 := mods_box (keep_box H5.out HBd.out) hm38 (by rintro ⟨_, h⟩; omega)
  have G6 := mods_box (keep_box H6.out HBd.out) hm38 (by rintro ⟨_, h⟩; omega)
  have x0 : w38.cell? ⟨w31.heap.size, 0, none⟩ = some (.slice A6 (twiceLL L a b i).length c6) := (blk_cell G9 0).trans rfl
  have x1 : w38.cell? ⟨w31.heap.size, 1, none⟩ = some (.slice A1 A.length c1) := (blk_cell G9 1).trans rfl
  have y8 : w38.cell? ⟨w.heap.size + 1, 8, none⟩ = some (.int .i64 a) := (blk_cell G5 8).trans rfl
  have y9 : w38.cell? ⟨w.heap.size + 1, 9, none⟩ = some (.int .i64 b) := (blk_cell G5 9).trans rfl
  have y10 : w38.cell? ⟨w.heap.size + 1, 10, none⟩ = some (.int .i64 i) := (blk_cell G5 10).trans rfl
  refine ⟨_, rfl, hK.out _ _ ⟨x0, x1, y8, y9, y10⟩ (fun hHeld => ?_)⟩
  clear hK K x0 x1 y8 y9 y10
  refine norm_ (a' := ?_) ?_ ?_
  rotate_left
  · show Act.put _ (some 104) _ = _
    simp only [Act.put, List.setIfInBounds_toArray, List.set_cons_zero, List.set_cons_succ, i64_w, i32_w]
    rfl
  refine pure_ (i := 8) (N := some 106) (v := ?_) (a' := ?_) #[true, true, true, true, true, true, true, true, true, false, false] rfl rfl (by kernel_rfl) (fun _ _ _ h => h) (Or.inl ⟨by rfl, ?_⟩) ?_ ?_
  rotate_left
  · intro w'; go_simp; with_reducible rfl
  rotate_left
  · simp only [Act.put, List.setIfInBounds_toArray, List.set_cons_zero, List.set_cons_succ, i64_w, i32_w]; rfl
  refine last_ (i := 9) (N := none) #[true, true, true, true, true, true, true, true, true, true, false] rfl rfl (by kernel_rfl) (by decide) (fun K hK => ?_)
  refine storeRow_ (by rfl) 40 (.tmp 6) (.tmp 98) rfl rfl (w.heap.size + 1 + 1) #[.slice A6 (twiceLL L a b i).length c6, .slice A1 A.length c1] rfl rfl 40 _ G6 info40s rfl (by rw [List.all_toArray]; rfl) ?_
  refine hK.out _ _ ?_
  clear hK K
  refine pure_ (i := 10) (N := some 7) (v := ?_) (a' := ?_) #[true, true, true, true, true, true, true, true, true, true, true] rfl rfl (by kernel_rfl) (fun _ _ _ h => h) (Or.inl ⟨by rfl, ?_⟩) ?_ ?_
  rotate_left
  · intro w'; go_simp; with_reducible rfl
  rotate_left
  · simp only [Act.put, List.setIfInBounds_toArray, List.set_cons_zero, List.set_cons_succ, i64_w, i32_w]; rfl
  refine done_ (by kernel_rfl) ?_
  go_wp2
  refine bodyPost_ret (results_ct rfl _ _ (w.heap.size + 1 + 1) 40 #[.slice A6 (twiceLL L a b i).length c6, .slice A1 A.length c1] (0, 0) _ rfl (setRow_heap _ _ _ _ _ _ G6) hu40 rfl info40s) rfl ?_
  have hB9 : Below w31.heap.size w31 (w31.alloc (.cells #[.slice A6 (twiceLL L a b i).length c6, .slice A1 A.length c1] 40 (0, 0))).drew := below_drew1 (below_alloc (Below.refl _ _) _)
  have R0 : RF k58 (w31.alloc (.cells #[.slice A6 (twiceLL L a b i).length c6, .slice A1 A.length c1] 40 (0, 0))).drew (fun k => k ≠ w.heap.size + 1 + 1 ∧ ¬ (F k ∧ k < w.heap.size)) (.slice A6 (twiceLL L a b i).length c6) ((twiceLL L a b i).map to58) := by
    refine ⟨A6, c6, by rw [List.length_map], by rw [List.length_map]; exact hRc, ?_⟩
    rw [List.length_map]
    exact Kd.F_mono (Kd.F_below HV.out hB9) (fun k hk => hk.elim (fun h => ⟨by omega, fun e => h.1 e.1⟩) (fun h => ⟨by omega, fun e => by omega⟩))
  exact do_fin hwD hn38 hm38 (by omega) (by omega) R0 ⟨A1, c1, rfl, hc1, Kd.F_mono (Kd.F_below (Kd.F_bound H1.out) hwD) (fun k hk => ⟨by omega, fun e => hk.1 e.1⟩)⟩
set_option maxHeartbeats 4000000 in
theorem do_apart (hn : NetW w F g q ap) (hr : NRel q L) (ha : ARel ap A) (hL : L.length ≤ 400) (hA : A.length ≤ 1000) (h0 : Kd.F k58 w (fun k => ¬ F k) A0 L.length (L.map to58)) (hc0 : L.length ≤ c0) (h1 : Kd.F k52 w (fun k => ¬ F k) A1 A.length A) (hc1 : A.length ≤ c1) :
    Calls Try.prog 22 #[.pointer (some ⟨g, 0, none⟩), .agg #[.slice A0 L.length c0, .slice A1 A.length c1], .agg #[.int .i64 4, .int .i64 p.f0, .int .i64 p.f1, .int .i64 p.f2, .int .i64 p.f3, .int .i64 p.f4, .int .i64 p.f5, .string p.f6, .int .i64 a, .int .i64 b, .int .i64 i, .bool on]] w (DoOut w F g q (apartA ap a b on) L (partL A a b on)) := by
  have hu28 := Try.underlying28
  have hu32 := Try.underlying32
  have hu40 := Try.underlying40
  have hu42 := Try.underlying42
  have hu52 := Try.underlying52
  have hu58 := Try.underlying58
  obtain ⟨w4, hw4, hB4, hb4, hb5, hb6, hb8⟩ := boxes4 w (.cells #[.slice A0 L.length c0, .slice A1 A.length c1] 40 (0, 0)) (.cells #[.int .i64 4, .int .i64 p.f0, .int .i64 p.f1, .int .i64 p.f2, .int .i64 p.f3, .int .i64 p.f4, .int .i64 p.f5, .string p.f6, .int .i64 a, .int .i64 b, .int .i64 i, .bool on] 42 (0, 0)) (.cells #[.slice none 0 0, .slice none 0 0] 40 (0, 0)) (.cells #[.int .i64 a, .int .i64 b] 52 (0, 0))
  have HW := Aside0.mk hw4
  have HB4 := Aside0.mk hB4
  have H4 := Aside0.mk hb4
  have H5 := Aside0.mk hb5
  have H6 := Aside0.mk hb6
  have HN := Aside0.mk hn
  have HR := Aside0.mk hr
  have HA := Aside0.mk ha
  have H0 := Aside0.mk h0
  have H1 := Aside0.mk h1
  have hB4w : w.heap.size ≤ w4.heap.size := hB4.size
  clear hw4 hB4 hb4 hb5 hb6 hb8 hn hr ha h0 h1
  go_enter Try.func22, Try.ntmps22
  go_wp2_with (first
    | ((with_reducible refine gate_dst (N := 114) rfl ?_); refine goesL_ (some 114) rfl rfl Try.func66 (by kernel_rfl) rfl #[.agg #[.slice A0 L.length c0, .slice A1 A.length c1], .agg #[.int .i64 a, .int .i64 b], .bool on] rfl (by first | (simp only [List.map_toArray, List.map_cons, List.map_nil]; rfl) | rfl) ?_; refine (refPart_is A a b on A0 c0 A1 c1 _ (fun k => ¬ F k ∧ k < w.heap.size) L.length (by rw [← HW.out]; exact Kd.F_below (Kd.F_bound H1.out) HB4.out) hc1 hA).mono ?_; rintro e w31 ⟨v0, rfl, hv, hb⟩; rw [← HW.out] at hv hb; obtain ⟨A6, c6, hv0, hRc, hRf⟩ := hv; subst hv0; have HB := Aside0.mk hb; have HV := Aside0.mk hRf; clear hb hRf; refine ⟨_, rfl, ?_⟩))
  have hBa := below_alloc HB.out (.cells #[.slice A0 L.length c0, .slice A6 (partL A a b on).length c6] 40 (0, 0))
  have HBd := Aside0.mk (below_drew1 hBa)
  have H9 := Aside0.mk (blk_drew (blk_new w31 (.cells #[.slice A0 L.length c0, .slice A6 (partL A a b on).length c6] 40 (0, 0))))
  have h31 : w4.heap.size ≤ w31.heap.size := HB.out.size
  have h41 : w.heap.size + 1 + 1 < w4.heap.size := blk_lt H6.out
  clear hBa
  have x0 : (w31.alloc (.cells #[.slice A0 L.length c0, .slice A6 (partL A a b on).length c6] 40 (0, 0))).drew.cell? ⟨w31.heap.size, 0, none⟩ = some (.slice A0 L.length c0) := (blk_cell H9.out 0).trans rfl
  have x1 : (w31.alloc (.cells #[.slice A0 L.length c0, .slice A6 (partL A a b on).length c6] 40 (0, 0))).drew.cell? ⟨w31.heap.size, 1, none⟩ = some (.slice A6 (partL A a b on).length c6) := (blk_cell H9.out 1).trans rfl
  have y8 : (w31.alloc (.cells #[.slice A0 L.length c0, .slice A6 (partL A a b on).length c6] 40 (0, 0))).drew.cell? ⟨w.heap.size + 1, 8, none⟩ = some (.int .i64 a) := (blk_cell (keep_box H5.out HBd.out) 8).trans rfl
  have y9 : (w31.alloc (.cells #[.slice A0 L.length c0, .slice A6 (partL A a b on).length c6] 40 (0, 0))).drew.cell? ⟨w.heap.size + 1, 9, none⟩ = some (.int .i64 b) := (blk_cell (keep_box H5.out HBd.out) 9).trans rfl
  have y11 : (w31.alloc (.cells #[.slice A0 L.length c0, .slice A6 (partL A a b on).length c6] 40 (0, 0))).drew.cell? ⟨w.heap.size + 1, 11, none⟩ = some (.bool on) := (blk_cell (keep_box H5.out HBd.out) 11).trans rfl
  refine start_ (n := 15) (S := fun w' => w'.cell? ⟨w31.heap.size, 0, none⟩ = some (.slice A0 L.length c0) ∧ w'.cell? ⟨w31.heap.size, 1, none⟩ = some (.slice A6 (partL A a b on).length c6) ∧ w'.cell? ⟨w.heap.size + 1, 8, none⟩ = some (.int .i64 a) ∧ w'.cell? ⟨w.heap.size + 1, 9, none⟩ = some (.int .i64 b) ∧ w'.cell? ⟨w.heap.size + 1, 11, none⟩ = some (.bool on)) (ds := [13]) #[false, false, false, false, false, false, false, false, false, false, false, false, false, false, false] (by kernel_rfl) rfl rfl ⟨x0, x1, y8, y9, y11⟩ (fun hHeld => ?_)
  refine take_ (i := 0) (N := some 117) (v := ?_) (a' := ?_) #[true, false, false, false, false, false, false, false, false, false, false, false, false, false, false] rfl rfl (by kernel_rfl) (fun _ _ _ h => h) (Or.inl ⟨by rfl, ?_⟩) hHeld ?_ ?_
  rotate_left
  · rintro w' ⟨s0, s1, s2, s3, s4⟩; go_simp; with_reducible rfl
  rotate_left
  · simp only [Act.put, List.setIfInBounds_toArray, List.set_cons_zero, List.set_cons_succ, i64_w, i32_w]; rfl
  refine pure_ (i := 1) (N := some 118) (v := ?_) (a' := ?_) #[true, true, false, false, false, false, false, false, false, false, false, false, false, false, false] rfl rfl (by kernel_rfl) (fun _ _ _ h => h) (Or.inl ⟨by rfl, ?_⟩) ?_ ?_
  rotate_left
  · intro w'; go_simp; with_reducible rfl
  rotate_left
  · simp only [Act.put, List.setIfInBounds_toArray, List.set_cons_zero, List.set_cons_succ, i64_w, i32_w]; rfl
  refine pure_ (i := 2) (N := some 119) (v := ?_) (a' := ?_) #[true, true, true, false, false, false, false, false, false, false, false, false, false, false, false] rfl rfl (by kernel_rfl) (fun _ _ _ h => h) (Or.inl ⟨by rfl, ?_⟩) ?_ ?_
  rotate_left
  · intro w'; go_simp; with_reducible rfl
  rotate_left
  · simp only [Act.put, List.setIfInBounds_toArray, List.set_cons_zero, List.set_cons_succ, i64_w, i32_w]; rfl
  refine pure_ (i := 3) (N := some 120) (v := ?_) (a' := ?_) #[true, true, true, true, false, false, false, false, false, false, false, false, false, false, false] rfl rfl (by kernel_rfl) (fun _ _ _ h => h) (Or.inl ⟨by rfl, ?_⟩) ?_ ?_
  rotate_left
  · intro w'; go_simp; with_reducible rfl
  rotate_left
  · simp only [Act.put, List.setIfInBounds_toArray, List.set_cons_zero, List.set_cons_succ, i64_w, i32_w]; rfl
  refine take_ (i := 4) (N := some 121) (v := ?_) (a' := ?_) #[true, true, true, true, true, false, false, false, false, false, false, false, false, false, false] rfl rfl (by kernel_rfl) (fun _ _ _ h => h) (Or.inl ⟨by rfl, ?_⟩) hHeld ?_ ?_
  rotate_left
  · rintro w' ⟨s0, s1, s2, s3, s4⟩; go_simp; with_reducible rfl
  rotate_left
  · simp only [Act.put, List.setIfInBounds_toArray, List.set_cons_zero, List.set_cons_succ, i64_w, i32_w]; rfl
  refine pure_ (i := 5) (N := some 122) (v := ?_) (a' := ?_) #[true, true, true, true, true, true, false, false, false, false, false, false, false, false, false] rfl rfl (by kernel_rfl) (fun _ _ _ h => h) (Or.inl ⟨by rfl, ?_⟩) ?_ ?_
  rotate_left
  · intro w'; go_simp; with_reducible rfl
  rotate_left
  · simp only [Act.put, List.setIfInBounds_toArray, List.set_cons_zero, List.set_cons_succ, i64_w, i32_w]; rfl
  refine pure_ (i := 6) (N := some 123) (v := ?_) (a' := ?_) #[true, true, true, true, true, true, true, false, false, false, false, false, false, false, false] rfl rfl (by kernel_rfl) (fun _ _ _ h => h) (Or.inl ⟨by rfl, ?_⟩) ?_ ?_
  rotate_left
  · intro w'; go_simp; with_reducible rfl
  rotate_left
  · simp only [Act.put, List.setIfInBounds_toArray, List.set_cons_zero, List.set_cons_succ, i64_w, i32_w]; rfl
  refine take_ (i := 7) (N := some 124) (v := ?_) (a' := ?_) #[true, true, true, true, true, true, true, true, false, false, false, false, false, false, false] rfl rfl (by kernel_rfl) (fun _ _ _ h => h) (Or.inl ⟨by rfl, ?_⟩) hHeld ?_ ?_
  rotate_left
  · rintro w' ⟨s0, s1, s2, s3, s4⟩; go_simp; with_reducible rfl
  rotate_left
  · simp only [Act.put, List.setIfInBounds_toArray, List.set_cons_zero, List.set_cons_succ, i64_w, i32_w]; rfl
  refine pure_ (i := 8) (N := some 125) (v := ?_) (a' := ?_) #[true, true, true, true, true, true, true, true, true, false, false, false, false, false, false] rfl rfl (by kernel_rfl) (fun _ _ _ h => h) (Or.inl ⟨by rfl, ?_⟩) ?_ ?_
  rotate_left
  · intro w'; go_simp; with_reducible rfl
  rotate_left
  · simp only [Act.put, List.setIfInBounds_toArray, List.set_cons_zero, List.set_cons_succ, i64_w, i32_w]; rfl
  refine take_ (i := 9) (N := some 126) (v := ?_) (a' := ?_) #[true, true, true, true, true, true, true, true, true, true, false, false, false, false, false] rfl rfl (by kernel_rfl) (fun _ _ _ h => h) (Or.inl ⟨by rfl, ?_⟩) hHeld ?_ ?_
  rotate_left
  · rintro w' ⟨s0, s1, s2, s3, s4⟩; go_simp; with_reducible rfl
  rotate_left
  · simp only [Act.put, List.setIfInBounds_toArray, List.set_cons_zero, List.set_cons_succ, i64_w, i32_w]; rfl
  refine pure_ (i := 11) (N := some 128) (v := ?_) (a' := ?_) #[true, true, true, true, true, true, true, true, true, true, false, true, false, false, false] rfl rfl (by kernel_rfl) (fun _ _ _ h => h) (Or.inl ⟨by rfl, ?_⟩) ?_ ?_
  rotate_left
  · intro w'; go_simp; with_reducible rfl
  rotate_left
  · simp only [Act.put, List.setIfInBounds_toArray, List.set_cons_zero, List.set_cons_succ, i64_w, i32_w]; rfl
  clear x0 x1 y8 y9 y11
  have hwD : Below w.heap.size w (w31.alloc (.cells #[.slice A0 L.length c0, .slice A6 (partL A a b on).length c6] 40 (0, 0))).drew := HB4.out.trans (HBd.out.mono HB4.out.size)
  have hsz : w31.heap.size < (w31.alloc (.cells #[.slice A0 L.length c0, .slice A6 (partL A a b on).length c6] 40 (0, 0))).drew.heap.size := blk_lt H9.out
  have hn0 : NetW (w31.alloc (.cells #[.slice A0 L.length c0, .slice A6 (partL A a b on).length c6] 40 (0, 0))).drew (fun k => F k ∧ k < w.heap.size) g q ap := (HN.out.mono (fun k hk hF => ⟨hF, hk⟩)).below hwD
  refine one_ (i := 10) (N := some 127) #[true, true, true, true, true, true, true, true, true, true, true, true, false, false, false] rfl rfl (by kernel_rfl) (by decide) (fun K hK => ?_)
  refine goes_ Try.func32 (by kernel_rfl) rfl #[.pointer (some ⟨g, 0, none⟩), .int .i64 a, .int .i64 b, .bool on] (by rfl) rfl rfl (by first | rfl | (simp only [List.map_toArray, List.map_cons, List.map_nil]; rfl)) ?_
  refine (apart_is hn0 a b on).mono ?_
  rintro e w38 ⟨rfl, hn38, hm38⟩
  have G9 := mods_box H9.out hm38 (by rintro ⟨_, h⟩; omega)
  have G4 := mods_box (keep_box H4.out HBd.out) hm38 (by rintro ⟨_, h⟩; omega)
  have G5 := mods_box (keep_box H5.out HBd.out) hm38 (by rintro ⟨_, h⟩; omega)
  have G6 := mods_box (keep_box H6.out HBd.out) hm38 (by rintro ⟨_, h⟩; omega)
  have x0 : w38.cell? ⟨w31.heap.size, 0, none⟩ = some (.slice A0 L.length c0) := (blk_cell G9 0).trans rfl
  have x1 : w38.cell? ⟨w31.heap.size, 1, none⟩ = some (.slice A6 (partL A a b on).length c6) := (blk_cell G9 1).trans rfl
  have y8 : w38.cell? ⟨w.heap.size + 1, 8, none⟩ = some (.int .i64 a) := (blk_cell G5 8).trans rfl
  have y9 : w38.cell? ⟨w.heap.size + 1, 9, none⟩ = some (.int .i64 b) := (blk_cell G5 9).trans rfl
  have y11 : w38.cell? ⟨w.heap.size + 1, 11, none⟩ = some (.bool on) := (blk_cell G5 11).trans rfl
  refine ⟨_, rfl, hK.out _ _ ⟨x0, x1, y8, y9, y11⟩ (fun hHeld => ?_)⟩
  clear hK K x0 x1 y8 y9 y11
  refine norm_ (a' := ?_) ?_ ?_
  rotate_left
  · show Act.put _ (some 127) _ = _
    simp only [Act.put, List.setIfInBounds_toArray, List.set_cons_zero, List.set_cons_succ, i64_w, i32_w]
    rfl
  refine pure_ (i := 12) (N := some 129) (v := ?_) (a' := ?_) #[true, true, true, true, true, true, true, true, true, true, true, true, true, false, false] rfl rfl (by kernel_rfl) (fun _ _ _ h => h) (Or.inl ⟨by rfl, ?_⟩) ?_ ?_
  rotate_left
  · intro w'; go_simp; with_reducible rfl
  rotate_left
  · simp only [Act.put, List.setIfInBounds_toArray, List.set_cons_zero, List.set_cons_succ, i64_w, i32_w]; rfl
  refine last_ (i := 13) (N := none) #[true, true, true, true, true, true, true, true, true, true, true, true, true, true, false] rfl rfl (by kernel_rfl) (by decide) (fun K hK => ?_)
  refine storeRow_ (by rfl) 40 (.tmp 6) (.tmp 117) rfl rfl (w.heap.size + 1 + 1) #[.slice A0 L.length c0, .slice A6 (partL A a b on).length c6] rfl rfl 40 _ G6 info40s rfl (by rw [List.all_toArray]; rfl) ?_
  refine hK.out _ _ ?_
  clear hK K
  refine pure_ (i := 14) (N := some 7) (v := ?_) (a' := ?_) #[true, true, true, true, true, true, true, true, true, true, true, true, true, true, true] rfl rfl (by kernel_rfl) (fun _ _ _ h => h) (Or.inl ⟨by rfl, ?_⟩) ?_ ?_
  rotate_left
  · intro w'; go_simp; with_reducible rfl
  rotate_left
  · simp only [Act.put, List.setIfInBounds_toArray, List.set_cons_zero, List.set_cons_succ, i64_w, i32_w]; rfl
  refine done_ (by kernel_rfl) ?_
  go_wp2
  refine bodyPost_ret (results_ct rfl _ _ (w.heap.size + 1 + 1) 40 #[.slice A0 L.length c0, .slice A6 (partL A a b on).length c6] (0, 0) _ rfl (setRow_heap _ _ _ _ _ _ G6) hu40 rfl info40s) rfl ?_
  have hB9 : Below w31.heap.size w31 (w31.alloc (.cells #[.slice A0 L.length c0, .slice A6 (partL A a b on).length c6] 40 (0, 0))).drew := below_drew1 (below_alloc (Below.refl _ _) _)
  have R1 : RF k52 (w31.alloc (.cells #[.slice A0 L.length c0, .slice A6 (partL A a b on).length c6] 40 (0, 0))).drew (fun k => k ≠ w.heap.size + 1 + 1 ∧ ¬ (F k ∧ k < w.heap.size)) (.slice A6 (partL A a b on).length c6) (partL A a b on) :=
    ⟨A6, c6, rfl, hRc, Kd.F_mono (Kd.F_below HV.out hB9) (fun k hk => hk.elim (fun h => ⟨by omega, fun e => h.1 e.1⟩) (fun h => ⟨by omega, fun e => by omega⟩))⟩
  have R0 : RF k58 (w31.alloc (.cells #[.slice A0 L.length c0, .slice A6 (partL A a b on).length c6] 40 (0, 0))).drew (fun k => k ≠ w.heap.size + 1 + 1 ∧ ¬ (F k ∧ k < w.heap.size)) (.slice A0 L.length c0) (L.map to58) := by
    refine ⟨A0, c0, by rw [List.length_map], by rw [List.length_map]; exact hc0, ?_⟩
    rw [List.length_map]
    exact Kd.F_mono (Kd.F_below (Kd.F_bound H0.out) hwD) (fun k hk => ⟨by omega, fun e => hk.1 e.1⟩)
  exact do_fin hwD hn38 hm38 (by omega) (by omega) R0 R1
set_option maxHeartbeats 4000000 in
theorem do_clear (hn : NetW w F g q ap) (hr : NRel q L) (ha : ARel ap A) (hL : L.length ≤ 400) (hA : A.length ≤ 1000) (h0 : Kd.F k58 w (fun k => ¬ F k) A0 L.length (L.map to58)) (hc0 : L.length ≤ c0) (h1 : Kd.F k52 w (fun k => ¬ F k) A1 A.length A) (hc1 : A.length ≤ c1) :
    Calls Try.prog 22 #[.pointer (some ⟨g, 0, none⟩), .agg #[.slice A0 L.length c0, .slice A1 A.length c1], .agg #[.int .i64 5, .int .i64 p.f0, .int .i64 p.f1, .int .i64 p.f2, .int .i64 p.f3, .int .i64 p.f4, .int .i64 p.f5, .string p.f6, .int .i64 a, .int .i64 b, .int .i64 i, .bool on]] w (DoOut w F g (clearQ q i) ap (clearL i L) A) := by
  have hu28 := Try.underlying28
  have hu32 := Try.underlying32
  have hu40 := Try.underlying40
  have hu42 := Try.underlying42
  have hu52 := Try.underlying52
  have hu58 := Try.underlying58
  obtain ⟨w4, hw4, hB4, hb4, hb5, hb6, hb8⟩ := boxes4 w (.cells #[.slice A0 L.length c0, .slice A1 A.length c1] 40 (0, 0)) (.cells #[.int .i64 5, .int .i64 p.f0, .int .i64 p.f1, .int .i64 p.f2, .int .i64 p.f3, .int .i64 p.f4, .int .i64 p.f5, .string p.f6, .int .i64 a, .int .i64 b, .int .i64 i, .bool on] 42 (0, 0)) (.cells #[.slice none 0 0, .slice none 0 0] 40 (0, 0)) (.cells #[.int .i64 a, .int .i64 b] 52 (0, 0))
  have HW := Aside0.mk hw4
  have HB4 := Aside0.mk hB4
  have H4 := Aside0.mk hb4
  have H5 := Aside0.mk hb5
  have H6 := Aside0.mk hb6
  have HN := Aside0.mk hn
  have HR := Aside0.mk hr
  have HA := Aside0.mk ha
  have H0 := Aside0.mk h0
  have H1 := Aside0.mk h1
  have hB4w : w.heap.size ≤ w4.heap.size := hB4.size
  clear hw4 hB4 hb4 hb5 hb6 hb8 hn hr ha h0 h1
  have hcl := (HR.out.clear i).2
  have s1 : IntKind.i64.wrap ((L.length : Int) - ((clearL i L).length : Int)) = (clearK q i : Int) := by
    rw [IntWalk.i64_in _ (by omega)]
    omega
  clear hcl
  go_enter Try.func22, Try.ntmps22
  go_wp2_with (first
    | ((with_reducible refine gate_dst (N := 135) rfl ?_); refine goesL_ (some 135) rfl rfl Try.func67 (by kernel_rfl) rfl #[.agg #[.slice A0 L.length c0, .slice A1 A.length c1], .int .i64 i] rfl (by first | (simp only [List.map_toArray, List.map_cons, List.map_nil]; rfl) | rfl) ?_; refine (refClearL_is L i A0 c0 A1 c1 _ (fun k => ¬ F k ∧ k < w.heap.size) A.length (by rw [← HW.out]; exact Kd.F_below (Kd.F_bound H0.out) HB4.out) hc0 (by omega)).mono ?_; rintro e w31 ⟨v0, rfl, hv, hb⟩; rw [← HW.out] at hv hb; obtain ⟨A6, c6, hv0, hRc, hRf⟩ := hv; rw [List.length_map] at hv0 hRc hRf; subst hv0; have HB := Aside0.mk hb; have HV := Aside0.mk hRf; clear hb hRf; refine ⟨_, rfl, ?_⟩))
  have hBa := below_alloc HB.out (.cells #[.slice A6 (clearL i L).length c6, .slice A1 A.length c1] 40 (0, 0))
  have HBd := Aside0.mk (below_drew1 hBa)
  have H9 := Aside0.mk (blk_drew (blk_new w31 (.cells #[.slice A6 (clearL i L).length c6, .slice A1 A.length c1] 40 (0, 0))))
  have h31 : w4.heap.size ≤ w31.heap.size := HB.out.size
  have h41 : w.heap.size + 1 + 1 < w4.heap.size := blk_lt H6.out
  clear hBa
  have x0 : (w31.alloc (.cells #[.slice A6 (clearL i L).length c6, .slice A1 A.length c1] 40 (0, 0))).drew.cell? ⟨w31.heap.size, 0, none⟩ = some (.slice A6 (clearL i L).length c6) := (blk_cell H9.out 0).trans rfl
  have x1 : (w31.alloc (.cells #[.slice A6 (clearL i L).length c6, .slice A1 A.length c1] 40 (0, 0))).drew.cell? ⟨w31.heap.size, 1, none⟩ = some (.slice A1 A.length c1) := (blk_cell H9.out 1).trans rfl
  have y10 : (w31.alloc (.cells #[.slice A6 (clearL i L).length c6, .slice A1 A.length c1] 40 (0, 0))).drew.cell? ⟨w.heap.size + 1, 10, none⟩ = some (.int .i64 i) := (blk_cell (keep_box H5.out HBd.out) 10).trans rfl
  have z0 : (w31.alloc (.cells #[.slice A6 (clearL i L).length c6, .slice A1 A.length c1] 40 (0, 0))).drew.cell? ⟨w.heap.size, 0, none⟩ = some (.slice A0 L.length c0) := (blk_cell (keep_box H4.out HBd.out) 0).trans rfl
  have z1 : (w31.alloc (.cells #[.slice A6 (clearL i L).length c6, .slice A1 A.length c1] 40 (0, 0))).drew.cell? ⟨w.heap.size, 1, none⟩ = some (.slice A1 A.length c1) := (blk_cell (keep_box H4.out HBd.out) 1).trans rfl
  refine start_ (n := 15) (S := fun w' => w'.cell? ⟨w31.heap.size, 0, none⟩ = some (.slice A6 (clearL i L).length c6) ∧ w'.cell? ⟨w31.heap.size, 1, none⟩ = some (.slice A1 A.length c1) ∧ w'.cell? ⟨w.heap.size + 1, 10, none⟩ = some (.int .i64 i) ∧ w'.cell? ⟨w.heap.size, 0, none⟩ = some (.slice A0 L.length c0) ∧ w'.cell? ⟨w.heap.size, 1, none⟩ = some (.slice A1 A.length c1)) (ds := []) #[false, false, false, false, false, false, false, false, false, false, false, false, false, false, false] (by kernel_rfl) rfl rfl ⟨x0, x1, y10, z0, z1⟩ (fun hHeld => ?_)
  refine take_ (i := 0) (N := some 136) (v := ?_) (a' := ?_) #[true, false, false, false, false, false, false, false, false, false, false, false, false, false, false] rfl rfl (by kernel_rfl) (fun _ _ _ h => h) (Or.inl ⟨by rfl, ?_⟩) hHeld ?_ ?_
  rotate_left
  · rintro w' ⟨s0, s1, s2, s3, s4⟩; go_simp; with_reducible rfl
  rotate_left
  · simp only [Act.put, List.setIfInBounds_toArray, List.set_cons_zero, List.set_cons_succ, i64_w, i32_w]; rfl
  refine pure_ (i := 1) (N := some 137) (v := ?_) (a' := ?_) #[true, true, false, false, false, false, false, false, false, false, false, false, false, false, false] rfl rfl (by kernel_rfl) (fun _ _ _ h => h) (Or.inl ⟨by rfl, ?_⟩) ?_ ?_
  rotate_left
  · intro w'; go_simp; with_reducible rfl
  rotate_left
  · simp only [Act.put, List.setIfInBounds_toArray, List.set_cons_zero, List.set_cons_succ, i64_w, i32_w]; rfl
  refine pure_ (i := 2) (N := some 138) (v := ?_) (a' := ?_) #[true, true, true, false, false, false, false, false, false, false, false, false, false, false, false] rfl rfl (by kernel_rfl) (fun _ _ _ h => h) (Or.inl ⟨by rfl, ?_⟩) ?_ ?_
  rotate_left
  · intro w'; go_simp; with_reducible rfl
  rotate_left
  · simp only [Act.put, List.setIfInBounds_toArray, List.set_cons_zero, List.set_cons_succ, i64_w, i32_w]; rfl
  refine take_ (i := 3) (N := some 139) (v := ?_) (a' := ?_) #[true, true, true, true, false, false, false, false, false, false, false, false, false, false, false] rfl rfl (by kernel_rfl) (fun _ _ _ h => h) (Or.inl ⟨by rfl, ?_⟩) hHeld ?_ ?_
  rotate_left
  · rintro w' ⟨s0, s1, s2, s3, s4⟩; go_simp; with_reducible rfl
  rotate_left
  · simp only [Act.put, List.setIfInBounds_toArray, List.set_cons_zero, List.set_cons_succ, i64_w, i32_w]; rfl
  refine pure_ (i := 5) (N := some 141) (v := ?_) (a' := ?_) #[true, true, true, true, false, true, false, false, false, false, false, false, false, false, false] rfl rfl (by kernel_rfl) (fun _ _ _ h => h) (Or.inl ⟨by rfl, ?_⟩) ?_ ?_
  rotate_left
  · intro w'; go_simp; with_reducible rfl
  rotate_left
  · simp only [Act.put, List.setIfInBounds_toArray, List.set_cons_zero, List.set_cons_succ, i64_w, i32_w]; rfl
  refine take_ (i := 6) (N := some 142) (v := ?_) (a' := ?_) #[true, true, true, true, false, true, true, false, false, false, false, false, false, false, false] rfl rfl (by kernel_rfl) (fun _ _ _ h => h) (Or.inl ⟨by rfl, ?_⟩) hHeld ?_ ?_
  rotate_left
  · rintro w' ⟨s0, s1, s2, s3, s4⟩; go_simp; with_reducible rfl
  rotate_left
  · simp only [Act.put, List.setIfInBounds_toArray, List.set_cons_zero, List.set_cons_succ, i64_w, i32_w]; rfl
  refine pure_ (i := 7) (N := some 143) (v := ?_) (a' := ?_) #[true, true, true, true, false, true, true, true, false, false, false, false, false, false, false] rfl rfl (by kernel_rfl) (fun _ _ _ h => h) (Or.inl ⟨by rfl, ?_⟩) ?_ ?_
  rotate_left
  · intro w'; go_simp; with_reducible rfl
  rotate_left
  · simp only [Act.put, List.setIfInBounds_toArray, List.set_cons_zero, List.set_cons_succ, i64_w, i32_w]; rfl
  refine pure_ (i := 8) (N := some 144) (v := ?_) (a' := ?_) #[true, true, true, true, false, true, true, true, true, false, false, false, false, false, false] rfl rfl (by kernel_rfl) (fun _ _ _ h => h) (Or.inl ⟨by rfl, ?_⟩) ?_ ?_
  rotate_left
  · intro w'; go_simp; with_reducible rfl
  rotate_left
  · simp only [Act.put, List.setIfInBounds_toArray, List.set_cons_zero, List.set_cons_succ, i64_w, i32_w]; rfl
  refine take_ (i := 9) (N := some 145) (v := ?_) (a' := ?_) #[true, true, true, true, false, true, true, true, true, true, false, false, false, false, false] rfl rfl (by kernel_rfl) (fun _ _ _ h => h) (Or.inl ⟨by rfl, ?_⟩) hHeld ?_ ?_
  rotate_left
  · rintro w' ⟨s0, s1, s2, s3, s4⟩; go_simp; with_reducible rfl
  rotate_left
  · simp only [Act.put, List.setIfInBounds_toArray, List.set_cons_zero, List.set_cons_succ, i64_w, i32_w]; rfl
  refine pure_ (i := 10) (N := some 146) (v := ?_) (a' := ?_) #[true, true, true, true, false, true, true, true, true, true, true, false, false, false, false] rfl rfl (by kernel_rfl) (fun _ _ _ h => h) (Or.inl ⟨by rfl, ?_⟩) ?_ ?_
  rotate_left
  · intro w'; go_simp; with_reducible rfl
  rotate_left
  · simp only [Act.put, List.setIfInBounds_toArray, List.set_cons_zero, List.set_cons_succ, i64_w, i32_w]; rfl
  refine pure_ (i := 11) (N := some 147) (v := ?_) (a' := ?_) #[true, true, true, true, false, true, true, true, true, true, true, true, false, false, false] rfl rfl (by kernel_rfl) (fun _ _ _ h => h) (Or.inl ⟨by rfl, ?_⟩) ?_ ?_
  rotate_left
  · intro w'; go_simp; with_reducible rfl
  rotate_left
  · simp only [Act.put, List.setIfInBounds_toArray, List.set_cons_zero, List.set_cons_succ, i64_w, i32_w]; rfl
  clear x0 x1 y10 z0 z1
  have hwD : Below w.heap.size w (w31.alloc (.cells #[.slice A6 (clearL i L).length c6, .slice A1 A.length c1] 40 (0, 0))).drew := HB4.out.trans (HBd.out.mono HB4.out.size)
  have hsz : w31.heap.size < (w31.alloc (.cells #[.slice A6 (clearL i L).length c6, .slice A1 A.length c1] 40 (0, 0))).drew.heap.size := blk_lt H9.out
  have hn0 : NetW (w31.alloc (.cells #[.slice A6 (clearL i L).length c6, .slice A1 A.length c1] 40 (0, 0))).drew (fun k => F k ∧ k < w.heap.size) g q ap := (HN.out.mono (fun k hk hF => ⟨hF, hk⟩)).below hwD
  refine one_ (i := 4) (N := some 140) #[true, true, true, true, true, true, true, true, true, true, true, true, false, false, false] rfl rfl (by kernel_rfl) (by decide) (fun K hK => ?_)
  refine goes_ Try.func20 (by kernel_rfl) rfl #[.pointer (some ⟨g, 0, none⟩), .int .i64 i] (by rfl) rfl rfl (by first | rfl | (simp only [List.map_toArray, List.map_cons, List.map_nil]; rfl)) ?_
  refine (clear_is hn0 (by rw [HR.out.cnt]; omega) i).mono ?_
  rintro e w38 ⟨rfl, hn38, hm38⟩
  have G9 := mods_box H9.out hm38 (by rintro ⟨_, h⟩; omega)
  have G4 := mods_box (keep_box H4.out HBd.out) hm38 (by rintro ⟨_, h⟩; omega)
  have G5 := mods_box (keep_box H5.out HBd.out) hm38 (by rintro ⟨_, h⟩; omega)
  have G6 := mods_box (keep_box H6.out HBd.out) hm38 (by rintro ⟨_, h⟩; omega)
  have x0 : w38.cell? ⟨w31.heap.size, 0, none⟩ = some (.slice A6 (clearL i L).length c6) := (blk_cell G9 0).trans rfl
  have x1 : w38.cell? ⟨w31.heap.size, 1, none⟩ = some (.slice A1 A.length c1) := (blk_cell G9 1).trans rfl
  have y10 : w38.cell? ⟨w.heap.size + 1, 10, none⟩ = some (.int .i64 i) := (blk_cell G5 10).trans rfl
  have z0 : w38.cell? ⟨w.heap.size, 0, none⟩ = some (.slice A0 L.length c0) := (blk_cell G4 0).trans rfl
  have z1 : w38.cell? ⟨w.heap.size, 1, none⟩ = some (.slice A1 A.length c1) := (blk_cell G4 1).trans rfl
  refine ⟨_, rfl, hK.out _ _ ⟨x0, x1, y10, z0, z1⟩ (fun hHeld => ?_)⟩
  clear hK K x0 x1 y10 z0 z1
  refine norm_ (a' := ?_) ?_ ?_
  rotate_left
  · show Act.put _ (some 140) _ = _
    simp only [Act.put, List.setIfInBounds_toArray, List.set_cons_zero, List.set_cons_succ, i64_w, i32_w]
    rfl
  refine pure_ (i := 12) (N := some 148) (v := ?_) (a' := ?_) #[true, true, true, true, true, true, true, true, true, true, true, true, true, false, false] rfl rfl (by kernel_rfl) (fun _ _ _ h => h) (Or.inl ⟨by rfl, ?_⟩) ?_ ?_
  rotate_left
  · intro w'; go_simp; with_reducible rfl
  rotate_left
  · simp only [Act.put, List.setIfInBounds_toArray, List.set_cons_zero, List.set_cons_succ, i64_w, i32_w]; rfl
  refine one_ (i := 13) (N := none) #[true, true, true, true, true, true, true, true, true, true, true, true, true, true, false] rfl rfl (by kernel_rfl) (by decide) (fun K hK => ?_)
  refine storeRow_ (by rfl) 40 (.tmp 6) (.tmp 136) rfl rfl (w.heap.size + 1 + 1) #[.slice A6 (clearL i L).length c6, .slice A1 A.length c1] rfl rfl 40 _ G6 info40s rfl (by rw [List.all_toArray]; rfl) ?_
  have x0 : (w38.setRow (w.heap.size + 1 + 1) #[.slice A6 (clearL i L).length c6, .slice A1 A.length c1]).cell? ⟨w31.heap.size, 0, none⟩ = some (.slice A6 (clearL i L).length c6) := (blk_cell ((setRow_other _ _ _ _ (by omega)).trans G9) 0).trans rfl
  have x1 : (w38.setRow (w.heap.size + 1 + 1) #[.slice A6 (clearL i L).length c6, .slice A1 A.length c1]).cell? ⟨w31.heap.size, 1, none⟩ = some (.slice A1 A.length c1) := (blk_cell ((setRow_other _ _ _ _ (by omega)).trans G9) 1).trans rfl
  have y10 : (w38.setRow (w.heap.size + 1 + 1) #[.slice A6 (clearL i L).length c6, .slice A1 A.length c1]).cell? ⟨w.heap.size + 1, 10, none⟩ = some (.int .i64 i) := (blk_cell ((setRow_other _ _ _ _ (by omega)).trans G5) 10).trans rfl
  have z0 : (w38.setRow (w.heap.size + 1 + 1) #[.slice A6 (clearL i L).length c6, .slice A1 A.length c1]).cell? ⟨w.heap.size, 0, none⟩ = some (.slice A0 L.length c0) := (blk_cell ((setRow_other _ _ _ _ (by omega)).trans G4) 0).trans rfl
  have z1 : (w38.setRow (w.heap.size + 1 + 1) #[.slice A6 (clearL i L).length c6, .slice A1 A.length c1]).cell? ⟨w.heap.size, 1, none⟩ = some (.slice A1 A.length c1) := (blk_cell ((setRow_other _ _ _ _ (by omega)).trans G4) 1).trans rfl
  refine hK.out _ _ ⟨x0, x1, y10, z0, z1⟩ (fun hHeld => ?_)
  clear hK K
  refine pure_ (i := 14) (N := some 7) (v := ?_) (a' := ?_) #[true, true, true, true, true, true, true, true, true, true, true, true, true, true, true] rfl rfl (by kernel_rfl) (fun _ _ _ h => h) (Or.inl ⟨by rfl, ?_⟩) ?_ ?_
  rotate_left
  · intro w'; go_simp; with_reducible rfl
  rotate_left
  · simp only [Act.put, List.setIfInBounds_toArray, List.set_cons_zero, List.set_cons_succ, i64_w, i32_w]; rfl
  refine done_ (by kernel_rfl) ?_
  go_wp2
  refine bodyPost_ret (results_ct rfl _ _ (w.heap.size + 1 + 1) 40 #[.slice A6 (clearL i L).length c6, .slice A1 A.length c1] (0, 0) _ rfl (setRow_heap _ _ _ _ _ _ G6) hu40 rfl info40s) rfl ?_
  have hB9 : Below w31.heap.size w31 (w31.alloc (.cells #[.slice A6 (clearL i L).length c6, .slice A1 A.length c1] 40 (0, 0))).drew := below_drew1 (below_alloc (Below.refl _ _) _)
  have R0 : RF k58 (w31.alloc (.cells #[.slice A6 (clearL i L).length c6, .slice A1 A.length c1] 40 (0, 0))).drew (fun k => k ≠ w.heap.size + 1 + 1 ∧ ¬ (F k ∧ k < w.heap.size)) (.slice A6 (clearL i L).length c6) ((clearL i L).map to58) := by
    refine ⟨A6, c6, by rw [List.length_map], by rw [List.length_map]; exact hRc, ?_⟩
    rw [List.length_map]
    exact Kd.F_mono (Kd.F_below HV.out hB9) (fun k hk => hk.elim (fun h => ⟨by omega, fun e => h.1 e.1⟩) (fun h => ⟨by omega, fun e => by omega⟩))
  exact do_fin hwD hn38 hm38 (by omega) (by omega) R0 ⟨A1, c1, rfl, hc1, Kd.F_mono (Kd.F_below (Kd.F_bound H1.out) hwD) (fun k hk => ⟨by omega, fun e => hk.1 e.1⟩)⟩
end
end Go.Proofs.Ytdibaeomepallaa.NW
/- The law's act on both nets, by hand: Take, and what is no act. Written by a program of this session. -/
namespace Go.Proofs.Ytdibaeomepallaa.NW
open Go.RowKit Go.Proofs.YtdibaeomepallaaW.PrintWords Go.Proofs.YtdibaeomepallaaW.PrintLast Go.Proofs.YtdibaeomepallaaW.PrintMore Go.Proofs.Ytdibaeomepallaa.PAll
set_option linter.unusedVariables false
set_option linter.unusedSimpArgs false
set_option maxRecDepth 100000
attribute [local go_sem high] eqA52 eqA58
section
variable (p : Pk) (a b i : Int) (on : Bool) {w : World} {F : Nat → Prop} {g : Nat} {q : List (List Pk)} {ap : List Bool} {L : List Pk} {A : List S52} {A0 : Option Addr} {c0 : Nat} {A1 : Option Addr} {c1 : Nat}
set_option maxHeartbeats 4000000 in
theorem do_take (hn : NetW w F g q ap) (hr : NRel q L) (ha : ARel ap A) (hL : L.length ≤ 400) (hA : A.length ≤ 1000) (h0 : Kd.F k58 w (fun k => ¬ F k) A0 L.length (L.map to58)) (hc0 : L.length ≤ c0) (h1 : Kd.F k52 w (fun k => ¬ F k) A1 A.length A) (hc1 : A.length ≤ c1) :
    Calls Try.prog 22 #[.pointer (some ⟨g, 0, none⟩), .agg #[.slice A0 L.length c0, .slice A1 A.length c1], .agg #[.int .i64 1, .int .i64 p.f0, .int .i64 p.f1, .int .i64 p.f2, .int .i64 p.f3, .int .i64 p.f4, .int .i64 p.f5, .string p.f6, .int .i64 a, .int .i64 b, .int .i64 i, .bool on]] w (DoOut w F g (takeQ q ap a b i) ap (takeLL L A a b i) A) := by
  obtain ⟨P, hP⟩ : ∃ P, takeLP L A a b i = P := ⟨_, rfl⟩
  have hu28 := Try.underlying28
  have hu32 := Try.underlying32
  have hu40 := Try.underlying40
  have hu42 := Try.underlying42
  have hu52 := Try.underlying52
  have hu58 := Try.underlying58
  have hu123 := Try.underlying123
  obtain ⟨w4, hw4, hB4, hb4, hb5, hb6, hb8⟩ := boxes4 w (.cells #[.slice A0 L.length c0, .slice A1 A.length c1] 40 (0, 0)) (.cells #[.int .i64 1, .int .i64 p.f0, .int .i64 p.f1, .int .i64 p.f2, .int .i64 p.f3, .int .i64 p.f4, .int .i64 p.f5, .string p.f6, .int .i64 a, .int .i64 b, .int .i64 i, .bool on] 42 (0, 0)) (.cells #[.slice none 0 0, .slice none 0 0] 40 (0, 0)) (.cells #[.int .i64 a, .int .i64 b] 52 (0, 0))
  have HW := Aside0.mk hw4
  have HB4 := Aside0.mk hB4
  have H5 := Aside0.mk hb5
  have H6 := Aside0.mk hb6
  have HN := Aside0.mk hn
  have HR := Aside0.mk hr
  have HA := Aside0.mk ha
  have H0 := Aside0.mk h0
  have H1 := Aside0.mk h1
  have HP := Aside0.mk hP
  have hB4w : w.heap.size ≤ w4.heap.size := hB4.size
  clear hw4 hB4 hb4 hb5 hb6 hb8 hn hr ha h0 h1 hP
  go_enter Try.func22, Try.ntmps22
  go_wp2_with (first
    | ((with_reducible refine gate_dst (N := 47) rfl ?_); refine goesL_ (some 47) rfl rfl Try.func63 (by kernel_rfl) rfl #[.agg #[.slice A0 L.length c0, .slice A1 A.length c1], .agg #[.int .i64 a, .int .i64 b], .int .i64 i] rfl (by first | (simp only [List.map_toArray, List.map_cons, List.map_nil]; rfl) | rfl) ?_; refine (refTake_is L A a b i A0 c0 A1 c1 _ (fun k => ¬ F k ∧ k < w.heap.size) P HP.out (by rw [← HW.out]; exact Kd.F_below (Kd.F_bound H0.out) HB4.out) hc0 (by rw [← HW.out]; exact Kd.C_below (Kd.F_now H1.out) HB4.out) hc1 (by omega) hA).mono ?_; rintro e w47 ⟨v0, rfl, hv, hb⟩; rw [← HW.out] at hv hb; obtain ⟨A6, c6, hv0, hRc, hRf⟩ := hv; rw [List.length_map] at hv0 hRc hRf; subst hv0; have HB := Aside0.mk hb; have HV := Aside0.mk hRf; clear hb hRf; have HB11 := Aside0.mk (below_alloc HB.out (.cells #[.slice A6 (takeLL L A a b i).length c6, .slice A1 A.length c1, .int .i64 P.f0, .int .i64 P.f1, .int .i64 P.f2, .int .i64 P.f3, .int .i64 P.f4, .int .i64 P.f5, .string P.f6, .int .i64 (takeLE L A a b i)] 123 (0, 0))); have H11 := Aside0.mk (blk_new w47 (.cells #[.slice A6 (takeLL L A a b i).length c6, .slice A1 A.length c1, .int .i64 P.f0, .int .i64 P.f1, .int .i64 P.f2, .int .i64 P.f3, .int .i64 P.f4, .int .i64 P.f5, .string P.f6, .int .i64 (takeLE L A a b i)] 123 (0, 0))); have z8 : (w47.alloc (.cells #[.slice A6 (takeLL L A a b i).length c6, .slice A1 A.length c1, .int .i64 P.f0, .int .i64 P.f1, .int .i64 P.f2, .int .i64 P.f3, .int .i64 P.f4, .int .i64 P.f5, .string P.f6, .int .i64 (takeLE L A a b i)] 123 (0, 0))).cell? ⟨w.heap.size + 1, 8, none⟩ = some (.int .i64 a) := (blk_cell (keep_box H5.out HB11.out) 8).trans rfl; have z9 : (w47.alloc (.cells #[.slice A6 (takeLL L A a b i).length c6, .slice A1 A.length c1, .int .i64 P.f0, .int .i64 P.f1, .int .i64 P.f2, .int .i64 P.f3, .int .i64 P.f4, .int .i64 P.f5, .string P.f6, .int .i64 (takeLE L A a b i)] 123 (0, 0))).cell? ⟨w.heap.size + 1, 9, none⟩ = some (.int .i64 b) := (blk_cell (keep_box H5.out HB11.out) 9).trans rfl; have z10 : (w47.alloc (.cells #[.slice A6 (takeLL L A a b i).length c6, .slice A1 A.length c1, .int .i64 P.f0, .int .i64 P.f1, .int .i64 P.f2, .int .i64 P.f3, .int .i64 P.f4, .int .i64 P.f5, .string P.f6, .int .i64 (takeLE L A a b i)] 123 (0, 0))).cell? ⟨w.heap.size + 1, 10, none⟩ = some (.int .i64 i) := (blk_cell (keep_box H5.out HB11.out) 10).trans rfl; refine ⟨_, rfl, ?_⟩)
    | ((with_reducible refine gate_dst (N := 54) rfl ?_); refine goesL_ (some 54) rfl rfl Try.func24 (by kernel_rfl) rfl #[.pointer (some ⟨g, 0, none⟩), .agg #[.int .i64 a, .int .i64 b], .int .i64 i] rfl (by first | (simp only [List.map_toArray, List.map_cons, List.map_nil]; rfl) | rfl) ?_; refine (take_x (F := fun k => F k ∧ k < w.heap.size) ((HN.out.mono (fun k hk hF => ⟨hF, hk⟩)).below (HB4.out.trans (HB11.out.mono HB4.out.size))) (by rw [HR.out.cnt]; omega) a b i P (by rw [← HP.out, takeP_is HR.out HA.out])).mono ?_; rintro e w54 ⟨rfl, hn54, hm54⟩; clear z8 z9 z10; rw [takeE_is HR.out HA.out]; have HN54 := Aside0.mk hn54; have HM54 := Aside0.mk hm54; clear hn54 hm54; refine ⟨_, rfl, ?_⟩))
  have h47 : w4.heap.size ≤ w47.heap.size := HB.out.size
  have h41 : w.heap.size + 1 + 1 < w4.heap.size := blk_lt H6.out
  have h11lt : w47.heap.size < (w47.alloc (.cells #[.slice A6 (takeLL L A a b i).length c6, .slice A1 A.length c1, .int .i64 P.f0, .int .i64 P.f1, .int .i64 P.f2, .int .i64 P.f3, .int .i64 P.f4, .int .i64 P.f5, .string P.f6, .int .i64 (takeLE L A a b i)] 123 (0, 0))).heap.size := blk_lt H11.out
  have hm54s := HM54.out.size
  have G11 := mods_box H11.out HM54.out (by rintro ⟨_, h⟩; omega)
  have G6 := mods_box (keep_box H6.out HB11.out) HM54.out (by rintro ⟨_, h⟩; omega)
  have hBd : Below w54.heap.size w54 (w54.alloc (.cells #[.int .i64 P.f0, .int .i64 P.f1, .int .i64 P.f2, .int .i64 P.f3, .int .i64 P.f4, .int .i64 P.f5, .string P.f6] 28 (0, 0))).drew := below_drew1 (below_alloc (Below.refl _ _) _)
  have K11 := keep_box G11 hBd
  have K6 := keep_box G6 hBd
  have K12 := blk_drew (blk_new w54 (.cells #[.int .i64 P.f0, .int .i64 P.f1, .int .i64 P.f2, .int .i64 P.f3, .int .i64 P.f4, .int .i64 P.f5, .string P.f6] 28 (0, 0)))
  have x0 : (w54.alloc (.cells #[.int .i64 P.f0, .int .i64 P.f1, .int .i64 P.f2, .int .i64 P.f3, .int .i64 P.f4, .int .i64 P.f5, .string P.f6] 28 (0, 0))).drew.cell? ⟨w47.heap.size, 0, none⟩ = some (.slice A6 (takeLL L A a b i).length c6) := (blk_cell K11 0).trans rfl
  have x1 : (w54.alloc (.cells #[.int .i64 P.f0, .int .i64 P.f1, .int .i64 P.f2, .int .i64 P.f3, .int .i64 P.f4, .int .i64 P.f5, .string P.f6] 28 (0, 0))).drew.cell? ⟨w47.heap.size, 1, none⟩ = some (.slice A1 A.length c1) := (blk_cell K11 1).trans rfl
  have x2 : (w54.alloc (.cells #[.int .i64 P.f0, .int .i64 P.f1, .int .i64 P.f2, .int .i64 P.f3, .int .i64 P.f4, .int .i64 P.f5, .string P.f6] 28 (0, 0))).drew.cell? ⟨w47.heap.size, 2, none⟩ = some (.int .i64 P.f0) := (blk_cell K11 2).trans rfl
  have x3 : (w54.alloc (.cells #[.int .i64 P.f0, .int .i64 P.f1, .int .i64 P.f2, .int .i64 P.f3, .int .i64 P.f4, .int .i64 P.f5, .string P.f6] 28 (0, 0))).drew.cell? ⟨w47.heap.size, 3, none⟩ = some (.int .i64 P.f1) := (blk_cell K11 3).trans rfl
  have x4 : (w54.alloc (.cells #[.int .i64 P.f0, .int .i64 P.f1, .int .i64 P.f2, .int .i64 P.f3, .int .i64 P.f4, .int .i64 P.f5, .string P.f6] 28 (0, 0))).drew.cell? ⟨w47.heap.size, 4, none⟩ = some (.int .i64 P.f2) := (blk_cell K11 4).trans rfl
  have x5 : (w54.alloc (.cells #[.int .i64 P.f0, .int .i64 P.f1, .int .i64 P.f2, .int .i64 P.f3, .int .i64 P.f4, .int .i64 P.f5, .string P.f6] 28 (0, 0))).drew.cell? ⟨w47.heap.size, 5, none⟩ = some (.int .i64 P.f3) := (blk_cell K11 5).trans rfl
  have x6 : (w54.alloc (.cells #[.int .i64 P.f0, .int .i64 P.f1, .int .i64 P.f2, .int .i64 P.f3, .int .i64 P.f4, .int .i64 P.f5, .string P.f6] 28 (0, 0))).drew.cell? ⟨w47.heap.size, 6, none⟩ = some (.int .i64 P.f4) := (blk_cell K11 6).trans rfl
  have x7 : (w54.alloc (.cells #[.int .i64 P.f0, .int .i64 P.f1, .int .i64 P.f2, .int .i64 P.f3, .int .i64 P.f4, .int .i64 P.f5, .string P.f6] 28 (0, 0))).drew.cell? ⟨w47.heap.size, 7, none⟩ = some (.int .i64 P.f5) := (blk_cell K11 7).trans rfl
  have x8 : (w54.alloc (.cells #[.int .i64 P.f0, .int .i64 P.f1, .int .i64 P.f2, .int .i64 P.f3, .int .i64 P.f4, .int .i64 P.f5, .string P.f6] 28 (0, 0))).drew.cell? ⟨w47.heap.size, 8, none⟩ = some (.string P.f6) := (blk_cell K11 8).trans rfl
  have x9 : (w54.alloc (.cells #[.int .i64 P.f0, .int .i64 P.f1, .int .i64 P.f2, .int .i64 P.f3, .int .i64 P.f4, .int .i64 P.f5, .string P.f6] 28 (0, 0))).drew.cell? ⟨w47.heap.size, 9, none⟩ = some (.int .i64 (takeLE L A a b i)) := (blk_cell K11 9).trans rfl
  have y0 : (w54.alloc (.cells #[.int .i64 P.f0, .int .i64 P.f1, .int .i64 P.f2, .int .i64 P.f3, .int .i64 P.f4, .int .i64 P.f5, .string P.f6] 28 (0, 0))).drew.cell? ⟨w54.heap.size, 0, none⟩ = some (.int .i64 P.f0) := (blk_cell K12 0).trans rfl
  have y1 : (w54.alloc (.cells #[.int .i64 P.f0, .int .i64 P.f1, .int .i64 P.f2, .int .i64 P.f3, .int .i64 P.f4, .int .i64 P.f5, .string P.f6] 28 (0, 0))).drew.cell? ⟨w54.heap.size, 1, none⟩ = some (.int .i64 P.f1) := (blk_cell K12 1).trans rfl
  have y2 : (w54.alloc (.cells #[.int .i64 P.f0, .int .i64 P.f1, .int .i64 P.f2, .int .i64 P.f3, .int .i64 P.f4, .int .i64 P.f5, .string P.f6] 28 (0, 0))).drew.cell? ⟨w54.heap.size, 2, none⟩ = some (.int .i64 P.f2) := (blk_cell K12 2).trans rfl
  have y3 : (w54.alloc (.cells #[.int .i64 P.f0, .int .i64 P.f1, .int .i64 P.f2, .int .i64 P.f3, .int .i64 P.f4, .int .i64 P.f5, .string P.f6] 28 (0, 0))).drew.cell? ⟨w54.heap.size, 3, none⟩ = some (.int .i64 P.f3) := (blk_cell K12 3).trans rfl
  have y4 : (w54.alloc (.cells #[.int .i64 P.f0, .int .i64 P.f1, .int .i64 P.f2, .int .i64 P.f3, .int .i64 P.f4, .int .i64 P.f5, .string P.f6] 28 (0, 0))).drew.cell? ⟨w54.heap.size, 4, none⟩ = some (.int .i64 P.f4) := (blk_cell K12 4).trans rfl
  have y5 : (w54.alloc (.cells #[.int .i64 P.f0, .int .i64 P.f1, .int .i64 P.f2, .int .i64 P.f3, .int .i64 P.f4, .int .i64 P.f5, .string P.f6] 28 (0, 0))).drew.cell? ⟨w54.heap.size, 5, none⟩ = some (.int .i64 P.f5) := (blk_cell K12 5).trans rfl
  have y6 : (w54.alloc (.cells #[.int .i64 P.f0, .int .i64 P.f1, .int .i64 P.f2, .int .i64 P.f3, .int .i64 P.f4, .int .i64 P.f5, .string P.f6] 28 (0, 0))).drew.cell? ⟨w54.heap.size, 6, none⟩ = some (.string P.f6) := (blk_cell K12 6).trans rfl
  refine start_ (n := 14) (S := fun w' => w'.cell? ⟨w47.heap.size, 0, none⟩ = some (.slice A6 (takeLL L A a b i).length c6) ∧ w'.cell? ⟨w47.heap.size, 1, none⟩ = some (.slice A1 A.length c1) ∧ w'.cell? ⟨w47.heap.size, 2, none⟩ = some (.int .i64 P.f0) ∧ w'.cell? ⟨w47.heap.size, 3, none⟩ = some (.int .i64 P.f1) ∧ w'.cell? ⟨w47.heap.size, 4, none⟩ = some (.int .i64 P.f2) ∧ w'.cell? ⟨w47.heap.size, 5, none⟩ = some (.int .i64 P.f3) ∧ w'.cell? ⟨w47.heap.size, 6, none⟩ = some (.int .i64 P.f4) ∧ w'.cell? ⟨w47.heap.size, 7, none⟩ = some (.int .i64 P.f5) ∧ w'.cell? ⟨w47.heap.size, 8, none⟩ = some (.string P.f6) ∧ w'.cell? ⟨w47.heap.size, 9, none⟩ = some (.int .i64 (takeLE L A a b i)) ∧ w'.cell? ⟨w54.heap.size, 0, none⟩ = some (.int .i64 P.f0) ∧ w'.cell? ⟨w54.heap.size, 1, none⟩ = some (.int .i64 P.f1) ∧ w'.cell? ⟨w54.heap.size, 2, none⟩ = some (.int .i64 P.f2) ∧ w'.cell? ⟨w54.heap.size, 3, none⟩ = some (.int .i64 P.f3) ∧ w'.cell? ⟨w54.heap.size, 4, none⟩ = some (.int .i64 P.f4) ∧ w'.cell? ⟨w54.heap.size, 5, none⟩ = some (.int .i64 P.f5) ∧ w'.cell? ⟨w54.heap.size, 6, none⟩ = some (.string P.f6)) (ds := []) #[false, false, false, false, false, false, false, false, false, false, false, false, false, false] (by kernel_rfl) rfl rfl ⟨x0, x1, x2, x3, x4, x5, x6, x7, x8, x9, y0, y1, y2, y3, y4, y5, y6⟩ (fun hHeld => ?_)
  refine pure_ (i := 0) (N := some 57) (v := ?_) (a' := ?_) #[true, false, false, false, false, false, false, false, false, false, false, false, false, false] rfl rfl (by kernel_rfl) (fun _ _ _ h => h) (Or.inl ⟨by rfl, ?_⟩) ?_ ?_
  rotate_left
  · intro w'; go_simp; with_reducible rfl
  rotate_left
  · simp only [Act.put, List.setIfInBounds_toArray, List.set_cons_zero, List.set_cons_succ, i64_w, i32_w]; rfl
  refine take_ (i := 1) (N := some 58) (v := ?_) (a' := ?_) #[true, true, false, false, false, false, false, false, false, false, false, false, false, false] rfl rfl (by kernel_rfl) (fun _ _ _ h => h) (Or.inl ⟨by rfl, ?_⟩) hHeld ?_ ?_
  rotate_left
  · rintro w' ⟨s0, s1, s2, s3, s4, s5, s6, s7, s8, s9, s10, s11, s12, s13, s14, s15, s16⟩; go_simp; with_reducible rfl
  rotate_left
  · simp only [Act.put, List.setIfInBounds_toArray, List.set_cons_zero, List.set_cons_succ, i64_w, i32_w]; rfl
  refine take_ (i := 2) (N := some 59) (v := ?_) (a' := ?_) #[true, true, true, false, false, false, false, false, false, false, false, false, false, false] rfl rfl (by kernel_rfl) (fun _ _ _ h => h) (Or.inl ⟨by rfl, ?_⟩) hHeld ?_ ?_
  rotate_left
  · rintro w' ⟨s0, s1, s2, s3, s4, s5, s6, s7, s8, s9, s10, s11, s12, s13, s14, s15, s16⟩; go_simp; with_reducible rfl
  rotate_left
  · simp only [Act.put, List.setIfInBounds_toArray, List.set_cons_zero, List.set_cons_succ, i64_w, i32_w]; rfl
  refine pure_ (i := 3) (N := some 60) (v := ?_) (a' := ?_) #[true, true, true, true, false, false, false, false, false, false, false, false, false, false] rfl rfl (by kernel_rfl) (fun _ _ _ h => h) (Or.inl ⟨by rfl, ?_⟩) ?_ ?_
  rotate_left
  · intro w'; go_simp; with_reducible rfl
  rotate_left
  · simp only [Act.put, List.setIfInBounds_toArray, List.set_cons_zero, List.set_cons_succ, i64_w, i32_w]; rfl
  refine take_ (i := 4) (N := some 61) (v := ?_) (a' := ?_) #[true, true, true, true, true, false, false, false, false, false, false, false, false, false] rfl rfl (by kernel_rfl) (fun _ _ _ h => h) (Or.inl ⟨by rfl, ?_⟩) hHeld ?_ ?_
  rotate_left
  · rintro w' ⟨s0, s1, s2, s3, s4, s5, s6, s7, s8, s9, s10, s11, s12, s13, s14, s15, s16⟩; go_simp; with_reducible rfl
  rotate_left
  · simp only [Act.put, List.setIfInBounds_toArray, List.set_cons_zero, List.set_cons_succ, i64_w, i32_w]; rfl
  refine pure_ (i := 5) (N := some 62) (v := ?_) (a' := ?_) #[true, true, true, true, true, true, false, false, false, false, false, false, false, false] rfl rfl (by kernel_rfl) (fun _ _ _ h => h) (Or.inl ⟨by rfl, ?_⟩) ?_ ?_
  rotate_left
  · intro w'; go_simp; with_reducible rfl
  rotate_left
  · simp only [Act.put, List.setIfInBounds_toArray, List.set_cons_zero, List.set_cons_succ, i64_w, i32_w]; rfl
  refine pure_ (i := 6) (N := some 63) (v := ?_) (a' := ?_) #[true, true, true, true, true, true, true, false, false, false, false, false, false, false] rfl rfl (by kernel_rfl) (fun _ _ _ h => h) (Or.inl ⟨by rfl, ?_⟩) ?_ ?_
  rotate_left
  · intro w'; go_simp; with_reducible rfl
  rotate_left
  · simp only [Act.put, List.setIfInBounds_toArray, List.set_cons_zero, List.set_cons_succ, i64_w, i32_w]; rfl
  refine pure_ (i := 7) (N := some 64) (v := ?_) (a' := ?_) #[true, true, true, true, true, true, true, true, false, false, false, false, false, false] rfl rfl (by kernel_rfl) (fun _ _ _ h => h) (Or.inl ⟨by rfl, ?_⟩) ?_ ?_
  rotate_left
  · intro w'; go_simp; with_reducible rfl
  rotate_left
  · simp only [Act.put, List.setIfInBounds_toArray, List.set_cons_zero, List.set_cons_succ, i64_w, i32_w]; rfl
  refine pure_ (i := 8) (N := some 65) (v := ?_) (a' := ?_) #[true, true, true, true, true, true, true, true, true, false, false, false, false, false] rfl rfl (by kernel_rfl) (fun _ _ _ h => h) (Or.inl ⟨by rfl, ?_⟩) ?_ ?_
  rotate_left
  · intro w'; go_simp; with_reducible rfl
  rotate_left
  · simp only [Act.put, List.setIfInBounds_toArray, List.set_cons_zero, List.set_cons_succ, i64_w, i32_w]; rfl
  refine take_ (i := 9) (N := some 66) (v := ?_) (a' := ?_) #[true, true, true, true, true, true, true, true, true, true, false, false, false, false] rfl rfl (by kernel_rfl) (fun _ _ _ h => h) (Or.inl ⟨by rfl, ?_⟩) hHeld ?_ ?_
  rotate_left
  · rintro w' ⟨s0, s1, s2, s3, s4, s5, s6, s7, s8, s9, s10, s11, s12, s13, s14, s15, s16⟩; go_simp; with_reducible rfl
  rotate_left
  · simp only [Act.put, List.setIfInBounds_toArray, List.set_cons_zero, List.set_cons_succ, i64_w, i32_w]; rfl
  refine pure_ (i := 10) (N := some 67) (v := ?_) (a' := ?_) #[true, true, true, true, true, true, true, true, true, true, true, false, false, false] rfl rfl (by kernel_rfl) (fun _ _ _ h => h) (Or.inl ⟨by rfl, ?_⟩) ?_ ?_
  rotate_left
  · intro w'; go_simp; with_reducible rfl
  rotate_left
  · simp only [Act.put, List.setIfInBounds_toArray, List.set_cons_zero, List.set_cons_succ, i64_w, i32_w]; rfl
  refine pure_ (i := 11) (N := some 68) (v := ?_) (a' := ?_) #[true, true, true, true, true, true, true, true, true, true, true, true, false, false] rfl rfl (by kernel_rfl) (fun _ _ _ h => h) (Or.inl ⟨by rfl, ?_⟩) ?_ ?_
  rotate_left
  · intro w'; go_simp; with_reducible rfl
  rotate_left
  · simp only [Act.put, List.setIfInBounds_toArray, List.set_cons_zero, List.set_cons_succ, i64_w, i32_w]; rfl
  refine one_ (i := 12) (N := none) #[true, true, true, true, true, true, true, true, true, true, true, true, true, false] rfl rfl (by kernel_rfl) (by decide) (fun K hK => ?_)
  refine storeRow_ (by rfl) 40 (.tmp 6) (.tmp 58) rfl rfl (w.heap.size + 1 + 1) #[.slice A6 (takeLL L A a b i).length c6, .slice A1 A.length c1] rfl rfl 40 _ K6 info40s rfl (by rw [List.all_toArray]; rfl) ?_
  clear x0 x1 x2 x3 x4 x5 x6 x7 x8 x9 y0 y1 y2 y3 y4 y5 y6
  have x0 : ((w54.alloc (.cells #[.int .i64 P.f0, .int .i64 P.f1, .int .i64 P.f2, .int .i64 P.f3, .int .i64 P.f4, .int .i64 P.f5, .string P.f6] 28 (0, 0))).drew.setRow (w.heap.size + 1 + 1) #[.slice A6 (takeLL L A a b i).length c6, .slice A1 A.length c1]).cell? ⟨w47.heap.size, 0, none⟩ = some (.slice A6 (takeLL L A a b i).length c6) := (blk_cell ((setRow_other _ _ _ _ (by omega)).trans K11) 0).trans rfl
  have x1 : ((w54.alloc (.cells #[.int .i64 P.f0, .int .i64 P.f1, .int .i64 P.f2, .int .i64 P.f3, .int .i64 P.f4, .int .i64 P.f5, .string P.f6] 28 (0, 0))).drew.setRow (w.heap.size + 1 + 1) #[.slice A6 (takeLL L A a b i).length c6, .slice A1 A.length c1]).cell? ⟨w47.heap.size, 1, none⟩ = some (.slice A1 A.length c1) := (blk_cell ((setRow_other _ _ _ _ (by omega)).trans K11) 1).trans rfl
  have x2 : ((w54.alloc (.cells #[.int .i64 P.f0, .int .i64 P.f1, .int .i64 P.f2, .int .i64 P.f3, .int .i64 P.f4, .int .i64 P.f5, .string P.f6] 28 (0, 0))).drew.setRow (w.heap.size + 1 + 1) #[.slice A6 (takeLL L A a b i).length c6, .slice A1 A.length c1]).cell? ⟨w47.heap.size, 2, none⟩ = some (.int .i64 P.f0) := (blk_cell ((setRow_other _ _ _ _ (by omega)).trans K11) 2).trans rfl
  have x3 : ((w54.alloc (.cells #[.int .i64 P.f0, .int .i64 P.f1, .int .i64 P.f2, .int .i64 P.f3, .int .i64 P.f4, .int .i64 P.f5, .string P.f6] 28 (0, 0))).drew.setRow (w.heap.size + 1 + 1) #[.slice A6 (takeLL L A a b i).length c6, .slice A1 A.length c1]).cell? ⟨w47.heap.size, 3, none⟩ = some (.int .i64 P.f1) := (blk_cell ((setRow_other _ _ _ _ (by omega)).trans K11) 3).trans rfl
  have x4 : ((w54.alloc (.cells #[.int .i64 P.f0, .int .i64 P.f1, .int .i64 P.f2, .int .i64 P.f3, .int .i64 P.f4, .int .i64 P.f5, .string P.f6] 28 (0, 0))).drew.setRow (w.heap.size + 1 + 1) #[.slice A6 (takeLL L A a b i).length c6, .slice A1 A.length c1]).cell? ⟨w47.heap.size, 4, none⟩ = some (.int .i64 P.f2) := (blk_cell ((setRow_other _ _ _ _ (by omega)).trans K11) 4).trans rfl
  have x5 : ((w54.alloc (.cells #[.int .i64 P.f0, .int .i64 P.f1, .int .i64 P.f2, .int .i64 P.f3, .int .i64 P.f4, .int .i64 P.f5, .string P.f6] 28 (0, 0))).drew.setRow (w.heap.size + 1 + 1) #[.slice A6 (takeLL L A a b i).length c6, .slice A1 A.length c1]).cell? ⟨w47.heap.size, 5, none⟩ = some (.int .i64 P.f3) := (blk_cell ((setRow_other _ _ _ _ (by omega)).trans K11) 5).trans rfl
  have x6 : ((w54.alloc (.cells #[.int .i64 P.f0, .int .i64 P.f1, .int .i64 P.f2, .int .i64 P.f3, .int .i64 P.f4, .int .i64 P.f5, .string P.f6] 28 (0, 0))).drew.setRow (w.heap.size + 1 + 1) #[.slice A6 (takeLL L A a b i).length c6, .slice A1 A.length c1]).cell? ⟨w47.heap.size, 6, none⟩ = some (.int .i64 P.f4) := (blk_cell ((setRow_other _ _ _ _ (by omega)).trans K11) 6).trans rfl
  have x7 : ((w54.alloc (.cells #[.int .i64 P.f0, .int .i64 P.f1, .int .i64 P.f2, .int .i64 P.f3, .int .i64 P.f4, .int .i64 P.f5, .string P.f6] 28 (0, 0))).drew.setRow (w.heap.size + 1 + 1) #[.slice A6 (takeLL L A a b i).length c6, .slice A1 A.length c1]).cell? ⟨w47.heap.size, 7, none⟩ = some (.int .i64 P.f5) := (blk_cell ((setRow_other _ _ _ _ (by omega)).trans K11) 7).trans rfl
  have x8 : ((w54.alloc (.cells #[.int .i64 P.f0, .int .i64 P.f1, .int .i64 P.f2, .int .i64 P.f3, .int .i64 P.f4, .int .i64 P.f5, .string P.f6] 28 (0, 0))).drew.setRow (w.heap.size + 1 + 1) #[.slice A6 (takeLL L A a b i).length c6, .slice A1 A.length c1]).cell? ⟨w47.heap.size, 8, none⟩ = some (.string P.f6) := (blk_cell ((setRow_other _ _ _ _ (by omega)).trans K11) 8).trans rfl
  have x9 : ((w54.alloc (.cells #[.int .i64 P.f0, .int .i64 P.f1, .int .i64 P.f2, .int .i64 P.f3, .int .i64 P.f4, .int .i64 P.f5, .string P.f6] 28 (0, 0))).drew.setRow (w.heap.size + 1 + 1) #[.slice A6 (takeLL L A a b i).length c6, .slice A1 A.length c1]).cell? ⟨w47.heap.size, 9, none⟩ = some (.int .i64 (takeLE L A a b i)) := (blk_cell ((setRow_other _ _ _ _ (by omega)).trans K11) 9).trans rfl
  have y0 : ((w54.alloc (.cells #[.int .i64 P.f0, .int .i64 P.f1, .int .i64 P.f2, .int .i64 P.f3, .int .i64 P.f4, .int .i64 P.f5, .string P.f6] 28 (0, 0))).drew.setRow (w.heap.size + 1 + 1) #[.slice A6 (takeLL L A a b i).length c6, .slice A1 A.length c1]).cell? ⟨w54.heap.size, 0, none⟩ = some (.int .i64 P.f0) := (blk_cell ((setRow_other _ _ _ _ (by omega)).trans K12) 0).trans rfl
  have y1 : ((w54.alloc (.cells #[.int .i64 P.f0, .int .i64 P.f1, .int .i64 P.f2, .int .i64 P.f3, .int .i64 P.f4, .int .i64 P.f5, .string P.f6] 28 (0, 0))).drew.setRow (w.heap.size + 1 + 1) #[.slice A6 (takeLL L A a b i).length c6, .slice A1 A.length c1]).cell? ⟨w54.heap.size, 1, none⟩ = some (.int .i64 P.f1) := (blk_cell ((setRow_other _ _ _ _ (by omega)).trans K12) 1).trans rfl
  have y2 : ((w54.alloc (.cells #[.int .i64 P.f0, .int .i64 P.f1, .int .i64 P.f2, .int .i64 P.f3, .int .i64 P.f4, .int .i64 P.f5, .string P.f6] 28 (0, 0))).drew.setRow (w.heap.size + 1 + 1) #[.slice A6 (takeLL L A a b i).length c6, .slice A1 A.length c1]).cell? ⟨w54.heap.size, 2, none⟩ = some (.int .i64 P.f2) := (blk_cell ((setRow_other _ _ _ _ (by omega)).trans K12) 2).trans rfl
  have y3 : ((w54.alloc (.cells #[.int .i64 P.f0, .int .i64 P.f1, .int .i64 P.f2, .int .i64 P.f3, .int .i64 P.f4, .int .i64 P.f5, .string P.f6] 28 (0, 0))).drew.setRow (w.heap.size + 1 + 1) #[.slice A6 (takeLL L A a b i).length c6, .slice A1 A.length c1]).cell? ⟨w54.heap.size, 3, none⟩ = some (.int .i64 P.f3) := (blk_cell ((setRow_other _ _ _ _ (by omega)).trans K12) 3).trans rfl
  have y4 : ((w54.alloc (.cells #[.int .i64 P.f0, .int .i64 P.f1, .int .i64 P.f2, .int .i64 P.f3, .int .i64 P.f4, .int .i64 P.f5, .string P.f6] 28 (0, 0))).drew.setRow (w.heap.size + 1 + 1) #[.slice A6 (takeLL L A a b i).length c6, .slice A1 A.length c1]).cell? ⟨w54.heap.size, 4, none⟩ = some (.int .i64 P.f4) := (blk_cell ((setRow_other _ _ _ _ (by omega)).trans K12) 4).trans rfl
  have y5 : ((w54.alloc (.cells #[.int .i64 P.f0, .int .i64 P.f1, .int .i64 P.f2, .int .i64 P.f3, .int .i64 P.f4, .int .i64 P.f5, .string P.f6] 28 (0, 0))).drew.setRow (w.heap.size + 1 + 1) #[.slice A6 (takeLL L A a b i).length c6, .slice A1 A.length c1]).cell? ⟨w54.heap.size, 5, none⟩ = some (.int .i64 P.f5) := (blk_cell ((setRow_other _ _ _ _ (by omega)).trans K12) 5).trans rfl
  have y6 : ((w54.alloc (.cells #[.int .i64 P.f0, .int .i64 P.f1, .int .i64 P.f2, .int .i64 P.f3, .int .i64 P.f4, .int .i64 P.f5, .string P.f6] 28 (0, 0))).drew.setRow (w.heap.size + 1 + 1) #[.slice A6 (takeLL L A a b i).length c6, .slice A1 A.length c1]).cell? ⟨w54.heap.size, 6, none⟩ = some (.string P.f6) := (blk_cell ((setRow_other _ _ _ _ (by omega)).trans K12) 6).trans rfl
  refine hK.out _ _ ⟨x0, x1, x2, x3, x4, x5, x6, x7, x8, x9, y0, y1, y2, y3, y4, y5, y6⟩ (fun hHeld => ?_)
  clear hK K x0 x1 x2 x3 x4 x5 x6 x7 x8 x9 y0 y1 y2 y3 y4 y5 y6
  refine pure_ (i := 13) (N := some 7) (v := ?_) (a' := ?_) #[true, true, true, true, true, true, true, true, true, true, true, true, true, true] rfl rfl (by kernel_rfl) (fun _ _ _ h => h) (Or.inl ⟨by rfl, ?_⟩) ?_ ?_
  rotate_left
  · intro w'; go_simp; with_reducible rfl
  rotate_left
  · simp only [Act.put, List.setIfInBounds_toArray, List.set_cons_zero, List.set_cons_succ, i64_w, i32_w]; rfl
  refine done_ (by kernel_rfl) ?_
  go_wp2
  refine bodyPost_ret (results_ct rfl _ _ (w.heap.size + 1 + 1) 40 #[.slice A6 (takeLL L A a b i).length c6, .slice A1 A.length c1] (0, 0) _ rfl (setRow_heap _ _ _ _ _ _ K6) hu40 rfl info40s) rfl ?_
  have hw1 : Below w.heap.size w (w47.alloc (.cells #[.slice A6 (takeLL L A a b i).length c6, .slice A1 A.length c1, .int .i64 P.f0, .int .i64 P.f1, .int .i64 P.f2, .int .i64 P.f3, .int .i64 P.f4, .int .i64 P.f5, .string P.f6, .int .i64 (takeLE L A a b i)] 123 (0, 0))) := HB4.out.trans (HB11.out.mono HB4.out.size)
  have R0 : RF k58 (w47.alloc (.cells #[.slice A6 (takeLL L A a b i).length c6, .slice A1 A.length c1, .int .i64 P.f0, .int .i64 P.f1, .int .i64 P.f2, .int .i64 P.f3, .int .i64 P.f4, .int .i64 P.f5, .string P.f6, .int .i64 (takeLE L A a b i)] 123 (0, 0))) (fun k => k ≠ w.heap.size + 1 + 1 ∧ ¬ (F k ∧ k < w.heap.size)) (.slice A6 (takeLL L A a b i).length c6) ((takeLL L A a b i).map to58) := by
    refine ⟨A6, c6, by rw [List.length_map], by rw [List.length_map]; exact hRc, ?_⟩
    rw [List.length_map]
    exact Kd.F_mono (Kd.F_alloc HV.out _) (fun k hk => hk.elim (fun h => ⟨by omega, fun e => h.1 e.1⟩) (fun h => ⟨by omega, fun e => by omega⟩))
  have hgr : NetW (w54.alloc (.cells #[.int .i64 P.f0, .int .i64 P.f1, .int .i64 P.f2, .int .i64 P.f3, .int .i64 P.f4, .int .i64 P.f5, .string P.f6] 28 (0, 0))).drew (grow (fun k => F k ∧ k < w.heap.size) (w47.alloc (.cells #[.slice A6 (takeLL L A a b i).length c6, .slice A1 A.length c1, .int .i64 P.f0, .int .i64 P.f1, .int .i64 P.f2, .int .i64 P.f3, .int .i64 P.f4, .int .i64 P.f5, .string P.f6, .int .i64 (takeLE L A a b i)] 123 (0, 0))) (w54.alloc (.cells #[.int .i64 P.f0, .int .i64 P.f1, .int .i64 P.f2, .int .i64 P.f3, .int .i64 P.f4, .int .i64 P.f5, .string P.f6] 28 (0, 0))).drew) g (takeQ q ap a b i) ap := (HN54.out.below hBd).mono (fun k _ hk => grow_mono hBd.size hk)
  exact do_fin hw1 hgr (HM54.out.then_below hBd) (by omega) (by omega) R0 ⟨A1, c1, rfl, hc1, Kd.F_mono (Kd.F_below (Kd.F_bound H1.out) hw1) (fun k hk => ⟨by omega, fun e => hk.1 e.1⟩)⟩
set_option maxHeartbeats 4000000 in
theorem do_else (kd : Int) (hk : kd < 0 ∨ 5 < kd) (hn : NetW w F g q ap) (h0 : Kd.F k58 w (fun k => ¬ F k) A0 L.length (L.map to58)) (hc0 : L.length ≤ c0) (h1 : Kd.F k52 w (fun k => ¬ F k) A1 A.length A) (hc1 : A.length ≤ c1) :
    Calls Try.prog 22 #[.pointer (some ⟨g, 0, none⟩), .agg #[.slice A0 L.length c0, .slice A1 A.length c1], .agg #[.int .i64 kd, .int .i64 p.f0, .int .i64 p.f1, .int .i64 p.f2, .int .i64 p.f3, .int .i64 p.f4, .int .i64 p.f5, .string p.f6, .int .i64 a, .int .i64 b, .int .i64 i, .bool on]] w (DoOut w F g q ap L A) := by
  have hu28 := Try.underlying28
  have hu32 := Try.underlying32
  have hu40 := Try.underlying40
  have hu42 := Try.underlying42
  have hu52 := Try.underlying52
  have hu58 := Try.underlying58
  have d0 : (kd == 0) = false := beq_eq_false_iff_ne.mpr (by omega)
  have d1 : (kd == 1) = false := beq_eq_false_iff_ne.mpr (by omega)
  have d2 : (kd == 2) = false := beq_eq_false_iff_ne.mpr (by omega)
  have d3 : (kd == 3) = false := beq_eq_false_iff_ne.mpr (by omega)
  have d4 : (kd == 4) = false := beq_eq_false_iff_ne.mpr (by omega)
  have d5 : (kd == 5) = false := beq_eq_false_iff_ne.mpr (by omega)
  obtain ⟨w4, hw4, hB4, hb4, hb5, hb6, hb8⟩ := boxes4 w (.cells #[.slice A0 L.length c0, .slice A1 A.length c1] 40 (0, 0)) (.cells #[.int .i64 kd, .int .i64 p.f0, .int .i64 p.f1, .int .i64 p.f2, .int .i64 p.f3, .int .i64 p.f4, .int .i64 p.f5, .string p.f6, .int .i64 a, .int .i64 b, .int .i64 i, .bool on] 42 (0, 0)) (.cells #[.slice A0 L.length c0, .slice A1 A.length c1] 40 (0, 0)) (.cells #[.int .i64 a, .int .i64 b] 52 (0, 0))
  have HW := Aside0.mk hw4
  have HB4 := Aside0.mk hB4
  have H6 := Aside0.mk hb6
  have HN := Aside0.mk hn
  have H0 := Aside0.mk h0
  have H1 := Aside0.mk h1
  have HK := Aside0.mk hk
  clear hw4 hB4 hb4 hb5 hb6 hb8 hn h0 h1 hk
  go_enter Try.func22, Try.ntmps22
  go_wp2
  rw [← HW.out]
  refine bodyPost_ret (results_ct rfl _ _ (w.heap.size + 1 + 1) 40 #[.slice A0 L.length c0, .slice A1 A.length c1] (0, 0) _ rfl H6.out hu40 rfl info40s) rfl ?_
  have hbs := HB4.out.size
  refine ⟨_, _, rfl, fun k => F k ∧ k < w.heap.size, (HN.out.mono (fun k hk hF => ⟨hF, hk⟩)).below HB4.out, fun k hk => .inl hk.1, ?_, ⟨A1, c1, rfl, hc1, Kd.F_mono (Kd.F_below H1.out HB4.out) (fun k hk e => hk e.1)⟩, Mods.of_below HB4.out⟩
  refine ⟨A0, c0, by rw [List.length_map], by rw [List.length_map]; exact hc0, ?_⟩
  rw [List.length_map]
  exact Kd.F_mono (Kd.F_below H0.out HB4.out) (fun k hk e => hk e.1)
end
end Go.Proofs.Ytdibaeomepallaa.NW
/- The hops of both nets, plain; what an act does, for all kinds. -/
namespace Go.Proofs.Ytdibaeomepallaa.NW
open Go.RowKit Go.Proofs.YtdibaeomepallaaW.PrintWords Go.Proofs.Ytdibaeomepallaa.PAll
set_option linter.unusedVariables false
set_option linter.unusedSimpArgs false
theorem hopsRow_len (L : List Pk) (A : List S52) (a : Int) (n : Nat) : (hopsRow L A a n).length ≤ n := by
  induction n with
  | zero => simp [hopsRow]
  | succ n ih => unfold hopsRow; rw [List.length_append]; split <;> simp <;> omega
theorem hopsL_len (L : List Pk) (A : List S52) (n : Nat) : (hopsL L A n).length ≤ 15 * n := by
  induction n with
  | zero => simp [hopsL]
  | succ n ih =>
    unfold hopsL
    rw [List.length_append]
    have := hopsRow_len L A ((n : Int) + 1) 15
    omega
theorem wrapI {x : Int} (h : 0 ≤ x) (h2 : x ≤ 1000) : wrap64 (x + 1) = x + 1 := by unfold wrap64; omega
theorem hops_l1 (L : List Pk) (A : List S52) (hL : L.length ≤ 1000) (hA : A.length ≤ 1000) (K : Nat) (hK : 1001 ≤ K) (pre : List S52) (hp : pre.length ≤ 1000) (a : Int) (ha : 0 ≤ a) (ha2 : a ≤ 1000) : ∀ m n : Nat, n + m = 15 →
    caduceusref12_Net_Hops.l1 (K + m + 1) (pre ++ hopsRow L A a n) a ((n : Int) + 1) (L.map to58) A = caduceusref12_Net_Hops.l0 K (pre ++ hopsRow L A a 15) (wrap64 (a + 1)) (L.map to58) A := by
  intro m
  induction m with
  | zero =>
    intro n hn
    obtain rfl : n = 15 := by omega
    rw [caduceusref12_Net_Hops.l1, if_neg (by omega)]
  | succ m ih =>
    intro n hn
    have hrow := hopsRow_len L A a n
    rw [caduceusref12_Net_Hops.l1, if_pos (by omega), places_f L A a _ hL _ (by omega)]
    simp only [Option.bind_some, List.length_map]
    have hpl : (places L a ((n : Int) + 1)).length = (L.filter (hopP a ((n : Int) + 1))).length := places_len _ L 0
    have hih := ih (n + 1) (by omega)
    rw [show K + (m + 1) = K + m + 1 from by omega]
    rw [hpl, wrapI (by omega) (by omega)]
    rw [show (((n + 1 : Nat) : Int) + 1) = (n : Int) + 1 + 1 from by omega] at hih
    rw [hopsRow] at hih
    by_cases h1 : 0 < (L.filter (hopP a ((n : Int) + 1))).length
    · rw [if_pos (by omega), cut_f _ A a _ hA _ (by omega)]
      simp only [Option.bind_some]
      cases hc : cutL A a ((n : Int) + 1) with
      | true =>
        rw [if_pos rfl]
        rw [hc, if_neg (fun e => by cases e.2), List.append_nil] at hih
        exact hih
      | false =>
        rw [if_neg (by decide), if_pos (by rw [List.length_append]; omega)]
        rw [hc, if_pos ⟨h1, rfl⟩, ← List.append_assoc] at hih
        exact hih
    · rw [if_neg (by omega)]
      rw [if_neg (fun e => h1 e.1), List.append_nil] at hih
      exact hih
theorem hops_l0 (L : List Pk) (A : List S52) (hL : L.length ≤ 1000) (hA : A.length ≤ 1000) (K : Nat) (hK : 1001 ≤ K) : ∀ m n : Nat, n + m = 15 →
    caduceusref12_Net_Hops.l0 (K + 17 * m + 1) (hopsL L A n) ((n : Int) + 1) (L.map to58) A = some (hopsL L A 15) := by
  intro m
  induction m with
  | zero =>
    intro n hn
    obtain rfl : n = 15 := by omega
    rw [caduceusref12_Net_Hops.l0, if_neg (by omega)]
  | succ m ih =>
    intro n hn
    have hll := hopsL_len L A n
    rw [caduceusref12_Net_Hops.l0, if_pos (by omega)]
    have h1 := hops_l1 L A hL hA (K + 17 * m + 1) (by omega) (hopsL L A n) (by omega) ((n : Int) + 1) (by omega) (by omega) 15 0 (by omega)
    rw [show K + 17 * (m + 1) = K + 17 * m + 1 + 15 + 1 from by omega]
    rw [hopsRow, List.append_nil] at h1
    rw [show (((0 : Nat) : Int) + 1) = 1 from rfl] at h1
    rw [h1, wrapI (by omega) (by omega)]
    have := ih (n + 1) (by omega)
    rw [hopsL] at this
    exact this
theorem hops_f (L : List Pk) (A : List S52) (hL : L.length ≤ 1000) (hA : A.length ≤ 1000) : caduceusref12_Net_Hops.f 1257 (L.map to58) A = some (hopsL L A 15) := by
  unfold caduceusref12_Net_Hops.f
  exact hops_l0 L A hL hA 1001 (Nat.le_refl _) 15 0 rfl
/-- The hops of the net are the document's. -/
theorem hops_row {q : List (List Pk)} {L : List Pk} {ap : List Bool} {A : List S52} (h : NRel q L) (ha : ARel ap A) (a : Nat) (h1 : 1 ≤ a) (h15 : a ≤ 15) (pre : List S52) (hp : hopsTo q ap (a * 16) = pre) : ∀ b, b ≤ 15 → hopsTo q ap (a * 16 + b + 1) = pre ++ hopsRow L A a b := by
  intro b
  induction b with
  | zero =>
    intro _
    obtain ⟨x, hx⟩ : ∃ x, ap[a * 16 + 0]? = some x := ⟨_, List.getElem?_eq_getElem (by rw [ha.len]; omega)⟩
    rw [hopsTo_at q ap a 0 (by omega) _ x (h.row (a * 16 + 0) (by omega)) hx, Nat.add_zero, hp, hopsRow]
    have : L.filter (ofP (a * 16)) = [] := by
      rw [List.filter_eq_nil_iff]
      intro p hp
      obtain ⟨g1, g2, g3⟩ := okP_parts (h.ok p hp)
      unfold ofP
      simp only [beq_iff_eq]
      unfold at2
      omega
    rw [this, if_neg (by simp)]
  | succ b ih =>
    intro hb
    have ih := ih (by omega)
    obtain ⟨x, hx⟩ : ∃ x, ap[a * 16 + (b + 1)]? = some x := ⟨_, List.getElem?_eq_getElem (by rw [ha.len]; omega)⟩
    rw [hopsTo_at q ap a (b + 1) (by omega) _ x (h.row (a * 16 + (b + 1)) (by omega)) hx, ← Nat.add_assoc, ih, hopsRow, List.append_assoc]
    congr 2
    have hat : a * 16 + b + 1 = at2 (a : Int) ((b : Int) + 1) := by unfold at2; omega
    have hf : L.filter (ofP (a * 16 + b + 1)) = L.filter (hopP a ((b : Int) + 1)) := by rw [hat, filter_hop h.ok (by omega) (by omega)]
    rw [hf]
    by_cases hne : (a : Int) = (b : Int) + 1
    · have : L.filter (hopP a ((b : Int) + 1)) = [] := by
        rw [List.filter_eq_nil_iff]
        intro p hp
        obtain ⟨g1, g2, g3⟩ := okP_parts (h.ok p hp)
        unfold hopP
        simp only [Bool.and_eq_true, decide_eq_true_eq]
        omega
      rw [this, if_neg (by simp), if_neg (by simp)]
    · have hB : hopB a ((b : Int) + 1) = true := by rw [hopB_iff]; omega
      have hc := ha.cut _ _ hB
      rw [← hat, List.getD_eq_getElem?_getD, show a * 16 + b + 1 = a * 16 + (b + 1) from by omega, hx] at hc
      have hxx : x = cutL A a ((b : Int) + 1) := hc
      rw [hxx]
      rfl
theorem hops_zero {q : List (List Pk)} {L : List Pk} {ap : List Bool} {A : List S52} (h : NRel q L) (ha : ARel ap A) : ∀ b, b ≤ 16 → hopsTo q ap b = [] := by
  intro b
  induction b with
  | zero => intro _; rfl
  | succ b ih =>
    intro hb
    have ih := ih (by omega)
    rw [hopsTo, ih, h.getD (by omega)]
    have : L.filter (ofP b) = [] := by
      rw [List.filter_eq_nil_iff]
      intro p hp
      obtain ⟨g1, g2, g3⟩ := okP_parts (h.ok p hp)
      unfold ofP
      simp only [beq_iff_eq]
      unfold at2
      omega
    rw [this, if_neg (by simp)]
    rfl
theorem hops_all {q : List (List Pk)} {L : List Pk} {ap : List Bool} {A : List S52} (h : NRel q L) (ha : ARel ap A) : ∀ a, a ≤ 15 → hopsTo q ap ((a + 1) * 16) = hopsL L A a := by
  intro a
  induction a with
  | zero => intro _; exact hops_zero h ha 16 (Nat.le_refl _)
  | succ a ih =>
    intro hb
    have ih := ih (by omega)
    have := hops_row h ha (a + 1) (by omega) hb _ ih 15 (Nat.le_refl _)
    rw [show (a + 1 + 1) * 16 = (a + 1) * 16 + 15 + 1 from by omega, this, hopsL]
    rfl
theorem hops_same {q : List (List Pk)} {L : List Pk} {ap : List Bool} {A : List S52} (h : NRel q L) (ha : ARel ap A) : hopsTo q ap 256 = hopsL L A 15 := hops_all h ha 15 (Nat.le_refl _)
/-! The acts, by kind. -/
def actQ (x : S42) (q : List (List Pk)) (ap : List Bool) : List (List Pk) :=
  if x.f0 = 0 then sendQ x.f1 q else if x.f0 = 1 then takeQ q ap x.f2.f0 x.f2.f1 x.f3 else if x.f0 = 2 then loseQ q x.f2.f0 x.f2.f1 x.f3 else if x.f0 = 3 then twiceQ q x.f2.f0 x.f2.f1 x.f3 else if x.f0 = 5 then clearQ q x.f3 else q
def actA (x : S42) (ap : List Bool) : List Bool := if x.f0 = 4 then apartA ap x.f2.f0 x.f2.f1 x.f4 else ap
def actL (x : S42) (L : List Pk) (A : List S52) : List Pk :=
  if x.f0 = 0 then sendL x.f1 L else if x.f0 = 1 then takeLL L A x.f2.f0 x.f2.f1 x.f3 else if x.f0 = 2 then loseL L x.f2.f0 x.f2.f1 x.f3 else if x.f0 = 3 then twiceLL L x.f2.f0 x.f2.f1 x.f3 else if x.f0 = 5 then clearL x.f3 L else L
def actC (x : S42) (A : List S52) : List S52 := if x.f0 = 4 then partL A x.f2.f0 x.f2.f1 x.f4 else A
theorem delL_le (L : List Pk) (a b i : Int) : (delL L a b i).length ≤ L.length := by
  unfold delL
  rw [List.length_eraseIdx]
  split <;> omega
theorem act_rel {x : S42} {q : List (List Pk)} {L : List Pk} {ap : List Bool} {A : List S52} (h : NRel q L) (ha : ARel ap A) (hL : L.length ≤ 400) : NRel (actQ x q ap) (actL x L A) ∧ ARel (actA x ap) (actC x A) ∧ (actL x L A).length ≤ 400 ∧ (actC x A).length ≤ A.length + 1 := by
  refine ⟨?_, ?_, ?_, ?_⟩
  · unfold actQ actL
    repeat' split
    · exact h.send _
    · exact take_rel h ha _ _ _
    · exact h.lose _ _ _
    · exact twice_rel h _ _ _
    · exact (h.clear _).1
    · exact h
  · unfold actA actC
    split
    · exact ha.apart _ _ _
    · exact ha
  · unfold actL
    repeat' split
    · exact sendL_le hL
    · unfold takeLL; split
      · exact Nat.le_trans (delL_le _ _ _ _) hL
      · exact hL
    · unfold loseL; split
      · exact Nat.le_trans (delL_le _ _ _ _) hL
      · exact hL
    · unfold twiceLL; split
      · exact sendL_le hL
      · exact hL
    · exact Nat.le_trans (List.length_filter_le _ _) hL
    · exact hL
  · unfold actC
    split
    · exact partL_len _ _ _ _
    · omega
theorem do_is (x : S42) {w : World} {F : Nat → Prop} {g : Nat} {q : List (List Pk)} {ap : List Bool} {L : List Pk} {A : List S52} {A0 : Option Addr} {c0 : Nat} {A1 : Option Addr} {c1 : Nat}
    (hn : NetW w F g q ap) (hr : NRel q L) (ha : ARel ap A) (hL : L.length ≤ 400) (hA : A.length ≤ 1000) (h0 : Kd.F k58 w (fun k => ¬ F k) A0 L.length (L.map to58)) (hc0 : L.length ≤ c0) (h1 : Kd.F k52 w (fun k => ¬ F k) A1 A.length A) (hc1 : A.length ≤ c1) :
    Calls Try.prog 22 #[.pointer (some ⟨g, 0, none⟩), .agg #[.slice A0 L.length c0, .slice A1 A.length c1], .agg #[.int .i64 x.f0, .int .i64 x.f1.f0, .int .i64 x.f1.f1, .int .i64 x.f1.f2, .int .i64 x.f1.f3, .int .i64 x.f1.f4, .int .i64 x.f1.f5, .string x.f1.f6, .int .i64 x.f2.f0, .int .i64 x.f2.f1, .int .i64 x.f3, .bool x.f4]] w (DoOut w F g (actQ x q ap) (actA x ap) (actL x L A) (actC x A)) := by
  obtain ⟨kd, p, ⟨a, b⟩, i, on⟩ := x
  unfold actQ actA actL actC
  dsimp only
  by_cases e0 : kd = 0
  · subst e0
    exact do_send p a b i on hn hr hL h0 hc0 h1 hc1
  by_cases e1 : kd = 1
  · subst e1
    exact do_take p a b i on hn hr ha hL hA h0 hc0 h1 hc1
  by_cases e2 : kd = 2
  · subst e2
    exact do_lose p a b i on hn hr ha hL hA h0 hc0 h1 hc1
  by_cases e3 : kd = 3
  · subst e3
    exact do_twice p a b i on hn hr ha hL hA h0 hc0 h1 hc1
  by_cases e4 : kd = 4
  · subst e4
    exact do_apart p a b i on hn hr ha hL hA h0 hc0 h1 hc1
  by_cases e5 : kd = 5
  · subst e5
    exact do_clear p a b i on hn hr ha hL hA h0 hc0 h1 hc1
  rw [if_neg e0, if_neg e1, if_neg e2, if_neg e3, if_neg e5, if_neg e4, if_neg e0, if_neg e1, if_neg e2, if_neg e3, if_neg e5, if_neg e4]
  exact do_else p a b i on kd (by omega) hn h0 hc0 h1 hc1
end Go.Proofs.Ytdibaeomepallaa.NW
/- The law's look at both nets (same), by hand. -/
namespace Go.Proofs.Ytdibaeomepallaa.NW
open Go.RowKit Go.Proofs.YtdibaeomepallaaW.PrintWords Go.Proofs.YtdibaeomepallaaW.PrintLast Go.Proofs.YtdibaeomepallaaW.PrintMore Go.Proofs.Ytdibaeomepallaa.PAll
set_option linter.unusedVariables false
set_option linter.unusedSimpArgs false
set_option maxRecDepth 100000
attribute [local go_sem high] eqA52 eqA58
section
variable {w : World} {F ok : Nat → Prop} {g : Nat} {q : List (List Pk)} {ap : List Bool} {L : List Pk} {A : List S52} {A0 : Option Addr} {c0 : Nat} {A1 : Option Addr} {c1 : Nat}
set_option maxHeartbeats 2000000 in
theorem same_is (hn : NetW w F g q ap) (hr : NRel q L) (ha : ARel ap A) (hL : L.length ≤ 400) (hA : A.length ≤ 1000) (h0 : Kd.F k58 w ok A0 L.length (L.map to58)) (hc0 : L.length ≤ c0) (h1 : Kd.F k52 w ok A1 A.length A) (hc1 : A.length ≤ c1) :
    Calls Try.prog 23 #[.pointer (some ⟨g, 0, none⟩), .agg #[.slice A0 L.length c0, .slice A1 A.length c1]] w fun e w' => e = .returned (.bool true) ∧ Below w.heap.size w w' := by
  have hu32 := Try.underlying32
  have hu40 := Try.underlying40
  have hu52 := Try.underlying52
  obtain ⟨w0, hw0⟩ : ∃ w0, w0 = w.alloc (.cells #[.slice A0 L.length c0, .slice A1 A.length c1] 40 (0, 0)) := ⟨_, rfl⟩
  have hB0 : Below w.heap.size w w0 := by rw [hw0]; exact below_alloc (Below.refl _ _) _
  have hb0 : w0.heap[w.heap.size]? = some (.cells #[.slice A0 L.length c0, .slice A1 A.length c1] 40 (0, 0)) := by rw [hw0]; exact blk_new w _
  have hB1 := below_drew1 hB0
  have hb3 := blk_drew hb0
  have HB1 := Aside0.mk hB1
  have H3 := Aside0.mk hb3
  have hf := hops_f L A (by omega) hA
  have hs := hops_same hr ha
  obtain ⟨HP, hHP⟩ : ∃ HP, HP = hopsL L A 15 := ⟨_, rfl⟩
  have hPl : HP.length ≤ 1000 := by rw [hHP]; have := hopsL_len L A 15; omega
  rw [← hHP] at hf hs
  clear hHP
  have HF := Aside0.mk hf
  have HS := Aside0.mk hs
  clear hf hs
  have HN := Aside0.mk hn
  have HR := Aside0.mk hr
  have HA := Aside0.mk ha
  have H0 := Aside0.mk h0
  have H1 := Aside0.mk h1
  clear hn hr ha h0 h1 hb3 hB1 hB0 hb0
  go_enter Try.func23, Try.ntmps23
  go_wp2
  rw [← hw0]
  clear hw0
  have x0 : w0.drew.cell? ⟨w.heap.size, 0, none⟩ = some (.slice A0 L.length c0) := (blk_cell H3.out 0).trans rfl
  have x1 : w0.drew.cell? ⟨w.heap.size, 1, none⟩ = some (.slice A1 A.length c1) := (blk_cell H3.out 1).trans rfl
  refine start_ (n := 6) (S := fun w' => w'.cell? ⟨w.heap.size, 0, none⟩ = some (.slice A0 L.length c0) ∧ w'.cell? ⟨w.heap.size, 1, none⟩ = some (.slice A1 A.length c1)) (ds := []) #[false, false, false, false, false, false] (by kernel_rfl) rfl rfl ⟨x0, x1⟩ (fun hHeld => ?_)
  refine pure_ (i := 0) (N := some 8) (v := ?_) (a' := ?_) #[true, false, false, false, false, false] rfl rfl (by kernel_rfl) (fun _ _ _ h => h) (Or.inl ⟨by rfl, ?_⟩) ?_ ?_
  rotate_left
  · intro w'; go_simp; with_reducible rfl
  rotate_left
  · simp only [Act.put, List.setIfInBounds_toArray, List.set_cons_zero, List.set_cons_succ, i64_w, i32_w]; rfl
  refine take_ (i := 2) (N := some 10) (v := ?_) (a' := ?_) #[true, false, true, false, false, false] rfl rfl (by kernel_rfl) (fun _ _ _ h => h) (Or.inl ⟨by rfl, ?_⟩) hHeld ?_ ?_
  rotate_left
  · rintro w' ⟨s0, s1⟩; go_simp; with_reducible rfl
  rotate_left
  · simp only [Act.put, List.setIfInBounds_toArray, List.set_cons_zero, List.set_cons_succ, i64_w, i32_w]; rfl
  refine one_ (i := 1) (N := some 9) #[true, true, true, false, false, false] rfl rfl (by kernel_rfl) (by decide) (fun K hK => ?_)
  refine goes_ Try.func33 (by kernel_rfl) rfl #[.pointer (some ⟨g, 0, none⟩)] (by rfl) rfl rfl (by first | rfl | (simp only [List.map_toArray, List.map_cons, List.map_nil]; rfl)) ?_
  refine (hops_is (HN.out.below HB1.out)).mono ?_
  rintro e w9 ⟨v9, rfl, hv9, hb9⟩
  rw [HS.out] at hv9
  obtain ⟨A9, c9, rfl⟩ := Kd.R_slice hv9
  have HV9 := Aside0.mk hv9
  have HB9 := Aside0.mk hb9
  clear hv9 hb9 x0 x1
  have x0 : w9.cell? ⟨w.heap.size, 0, none⟩ = some (.slice A0 L.length c0) := (blk_cell (keep_box H3.out HB9.out) 0).trans rfl
  have x1 : w9.cell? ⟨w.heap.size, 1, none⟩ = some (.slice A1 A.length c1) := (blk_cell (keep_box H3.out HB9.out) 1).trans rfl
  refine ⟨_, rfl, hK.out _ _ ⟨x0, x1⟩ (fun hHeld => ?_)⟩
  clear hK K
  refine norm_ (a' := ?_) ?_ ?_
  rotate_left
  · show Act.put _ (some 9) _ = _
    simp only [Act.put, List.setIfInBounds_toArray, List.set_cons_zero, List.set_cons_succ, i64_w, i32_w]
    rfl
  refine one_ (i := 3) (N := some 11) #[true, true, true, true, false, false] rfl rfl (by kernel_rfl) (by decide) (fun K hK => ?_)
  refine goes_ Try.func68 (by kernel_rfl) rfl #[.agg #[.slice A0 L.length c0, .slice A1 A.length c1]] (by rfl) rfl rfl (by first | rfl | (simp only [List.map_toArray, List.map_cons, List.map_nil]; rfl)) ?_
  have hc := caduceusref12_Net_Hops.calls 1257 A0 c0 (L.map to58) A1 c1 A _ w9 (by rw [List.length_map]; exact Kd.C_below (Kd.C_below (Kd.F_now H0.out) HB1.out) HB9.out) (by rw [List.length_map]; exact hc0) (Kd.C_below (Kd.C_below (Kd.F_now H1.out) HB1.out) HB9.out) hc1 HF.out
  rw [List.length_map] at hc
  refine hc.mono ?_
  rintro e w11 ⟨v11, rfl, hv11, hb11⟩
  obtain ⟨A11, c11, rfl⟩ := Kd.R_slice hv11
  have HV11 := Aside0.mk hv11
  have HB11 := Aside0.mk hb11
  clear hv11 hb11 x0 x1 hc
  have HX := Aside0.mk (keep_box (keep_box H3.out HB9.out) HB11.out)
  have x0 : w11.cell? ⟨w.heap.size, 0, none⟩ = some (.slice A0 L.length c0) := (blk_cell HX.out 0).trans rfl
  have x1 : w11.cell? ⟨w.heap.size, 1, none⟩ = some (.slice A1 A.length c1) := (blk_cell HX.out 1).trans rfl
  refine ⟨_, rfl, hK.out _ _ ⟨x0, x1⟩ (fun hHeld => ?_)⟩
  clear hK K
  refine norm_ (a' := ?_) ?_ ?_
  rotate_left
  · show Act.put _ (some 11) _ = _
    simp only [Act.put, List.setIfInBounds_toArray, List.set_cons_zero, List.set_cons_succ, i64_w, i32_w]
    rfl
  refine pure_ (i := 4) (N := some 5) (v := ?_) (a' := ?_) #[true, true, true, true, true, false] rfl rfl (by kernel_rfl) (fun _ _ _ h => h) (Or.inl ⟨by rfl, ?_⟩) ?_ ?_
  rotate_left
  · intro w'; go_simp; with_reducible rfl
  rotate_left
  · simp only [Act.put, List.setIfInBounds_toArray, List.set_cons_zero, List.set_cons_succ, i64_w, i32_w]; rfl
  refine pure_ (i := 5) (N := some 6) (v := ?_) (a' := ?_) #[true, true, true, true, true, true] rfl rfl (by kernel_rfl) (fun _ _ _ h => h) (Or.inl ⟨by rfl, ?_⟩) ?_ ?_
  rotate_left
  · intro w'; go_simp; with_reducible rfl
  rotate_left
  · simp only [Act.put, List.setIfInBounds_toArray, List.set_cons_zero, List.set_cons_succ, i64_w, i32_w]; rfl
  refine done_ (by kernel_rfl) ?_
  have HB := Aside0.mk (HB1.out.trans (Below.mono (HB9.out.trans (Below.mono HB11.out HB9.out.size)) HB1.out.size))
  have hcnt : cnt q = L.length := HR.out.cnt
  clear x0 x1
  have x0 : w11.drew.cell? ⟨w.heap.size, 0, none⟩ = some (.slice A0 L.length c0) := (blk_cell (blk_drew HX.out) 0).trans rfl
  have x1 : w11.drew.cell? ⟨w.heap.size, 1, none⟩ = some (.slice A1 A.length c1) := (blk_cell (blk_drew HX.out) 1).trans rfl
  go_wp2
  refine start_ (n := 13) (S := fun w' => w'.cell? ⟨w.heap.size, 0, none⟩ = some (.slice A0 L.length c0) ∧ w'.cell? ⟨w.heap.size, 1, none⟩ = some (.slice A1 A.length c1)) (ds := []) #[false, false, false, false, false, false, false, false, false, false, false, false, false] (by kernel_rfl) rfl rfl ⟨x0, x1⟩ (fun hHeld => ?_)
  refine pure_ (i := 0) (N := some 12) (v := ?_) (a' := ?_) #[true, false, false, false, false, false, false, false, false, false, false, false, false] rfl rfl (by kernel_rfl) (fun _ _ _ h => h) (Or.inl ⟨by rfl, ?_⟩) ?_ ?_
  rotate_left
  · intro w'; go_simp; with_reducible rfl
  rotate_left
  · simp only [Act.put, List.setIfInBounds_toArray, List.set_cons_zero, List.set_cons_succ, i64_w, i32_w]; rfl
  refine pure_ (i := 1) (N := some 13) (v := ?_) (a' := ?_) #[true, true, false, false, false, false, false, false, false, false, false, false, false] rfl rfl (by kernel_rfl) (fun _ _ _ h => h) (Or.inl ⟨by rfl, ?_⟩) ?_ ?_
  rotate_left
  · intro w'; go_simp; with_reducible rfl
  rotate_left
  · simp only [Act.put, List.setIfInBounds_toArray, List.set_cons_zero, List.set_cons_succ, i64_w, i32_w]; rfl
  refine pure_ (i := 2) (N := some 14) (v := ?_) (a' := ?_) #[true, true, true, false, false, false, false, false, false, false, false, false, false] rfl rfl (by kernel_rfl) (fun _ _ _ h => h) (Or.inl ⟨by rfl, ?_⟩) ?_ ?_
  rotate_left
  · intro w'; go_simp; with_reducible rfl
  rotate_left
  · simp only [Act.put, List.setIfInBounds_toArray, List.set_cons_zero, List.set_cons_succ, i64_w, i32_w]; rfl
  refine pure_ (i := 3) (N := some 15) (v := ?_) (a' := ?_) #[true, true, true, true, false, false, false, false, false, false, false, false, false] rfl rfl (by kernel_rfl) (fun _ _ _ h => h) (Or.inl ⟨by rfl, ?_⟩) ?_ ?_
  rotate_left
  · intro w'; go_simp; with_reducible rfl
  rotate_left
  · simp only [Act.put, List.setIfInBounds_toArray, List.set_cons_zero, List.set_cons_succ, i64_w, i32_w]; rfl
  refine pure_ (i := 4) (N := some 16) (v := ?_) (a' := ?_) #[true, true, true, true, true, false, false, false, false, false, false, false, false] rfl rfl (by kernel_rfl) (fun _ _ _ h => h) (Or.inl ⟨by rfl, ?_⟩) ?_ ?_
  rotate_left
  · intro w'; go_simp; with_reducible rfl
  rotate_left
  · simp only [Act.put, List.setIfInBounds_toArray, List.set_cons_zero, List.set_cons_succ, i64_w, i32_w]; rfl
  refine pure_ (i := 5) (N := some 17) (v := ?_) (a' := ?_) #[true, true, true, true, true, true, false, false, false, false, false, false, false] rfl rfl (by kernel_rfl) (fun _ _ _ h => h) (Or.inl ⟨by rfl, ?_⟩) ?_ ?_
  rotate_left
  · intro w'; go_simp; with_reducible rfl
  rotate_left
  · simp only [Act.put, List.setIfInBounds_toArray, List.set_cons_zero, List.set_cons_succ, i64_w, i32_w]; rfl
  refine pure_ (i := 6) (N := some 18) (v := ?_) (a' := ?_) #[true, true, true, true, true, true, true, false, false, false, false, false, false] rfl rfl (by kernel_rfl) (fun _ _ _ h => h) (Or.inl ⟨by rfl, ?_⟩) ?_ ?_
  rotate_left
  · intro w'; go_simp; with_reducible rfl
  rotate_left
  · simp only [Act.put, List.setIfInBounds_toArray, List.set_cons_zero, List.set_cons_succ, i64_w, i32_w]; rfl
  refine pure_ (i := 8) (N := some 20) (v := ?_) (a' := ?_) #[true, true, true, true, true, true, true, false, true, false, false, false, false] rfl rfl (by kernel_rfl) (fun _ _ _ h => h) (Or.inl ⟨by rfl, ?_⟩) ?_ ?_
  rotate_left
  · intro w'; go_simp; with_reducible rfl
  rotate_left
  · simp only [Act.put, List.setIfInBounds_toArray, List.set_cons_zero, List.set_cons_succ, i64_w, i32_w]; rfl
  refine take_ (i := 9) (N := some 21) (v := ?_) (a' := ?_) #[true, true, true, true, true, true, true, false, true, true, false, false, false] rfl rfl (by kernel_rfl) (fun _ _ _ h => h) (Or.inl ⟨by rfl, ?_⟩) hHeld ?_ ?_
  rotate_left
  · rintro w' ⟨s0, s1⟩; go_simp; with_reducible rfl
  rotate_left
  · simp only [Act.put, List.setIfInBounds_toArray, List.set_cons_zero, List.set_cons_succ, i64_w, i32_w]; rfl
  refine pure_ (i := 10) (N := some 22) (v := ?_) (a' := ?_) #[true, true, true, true, true, true, true, false, true, true, true, false, false] rfl rfl (by kernel_rfl) (fun _ _ _ h => h) (Or.inl ⟨by rfl, ?_⟩) ?_ ?_
  rotate_left
  · intro w'; go_simp; with_reducible rfl
  rotate_left
  · simp only [Act.put, List.setIfInBounds_toArray, List.set_cons_zero, List.set_cons_succ, i64_w, i32_w]; rfl
  refine one_ (i := 7) (N := some 19) #[true, true, true, true, true, true, true, true, true, true, true, false, false] rfl rfl (by kernel_rfl) (by decide) (fun K hK => ?_)
  refine goes_ Try.func21 (by kernel_rfl) rfl #[.pointer (some ⟨g, 0, none⟩)] (by rfl) rfl rfl (by first | rfl | (simp only [List.map_toArray, List.map_cons, List.map_nil]; rfl)) ?_
  refine (count_net ((HN.out.below HB.out).below (below_drew1 (Below.refl _ _))) (by rw [hcnt]; omega)).mono ?_
  rintro e w19 ⟨rfl, hb19⟩
  have hd := below_drew1 (Below.refl w11.heap.size w11)
  have HB19 := Aside0.mk (hd.trans (hb19.mono hd.size))
  clear hd
  clear hb19 x0 x1
  rw [hcnt]
  have HX2 := Aside0.mk (keep_box HX.out HB19.out)
  have x0 : w19.cell? ⟨w.heap.size, 0, none⟩ = some (.slice A0 L.length c0) := (blk_cell HX2.out 0).trans rfl
  have x1 : w19.cell? ⟨w.heap.size, 1, none⟩ = some (.slice A1 A.length c1) := (blk_cell HX2.out 1).trans rfl
  refine ⟨_, rfl, hK.out _ _ ⟨x0, x1⟩ (fun hHeld => ?_)⟩
  clear hK K
  refine norm_ (a' := ?_) ?_ ?_
  rotate_left
  · show Act.put _ (some 19) _ = _
    simp only [Act.put, List.setIfInBounds_toArray, List.set_cons_zero, List.set_cons_succ, i64_w, i32_w]
    rfl
  refine pure_ (i := 11) (N := some 23) (v := ?_) (a' := ?_) #[true, true, true, true, true, true, true, true, true, true, true, true, false] rfl rfl (by kernel_rfl) (fun _ _ _ h => h) (Or.inl ⟨by rfl, ?_⟩) ?_ ?_
  rotate_left
  · intro w'; go_simp; with_reducible rfl
  rotate_left
  · simp only [Act.put, List.setIfInBounds_toArray, List.set_cons_zero, List.set_cons_succ, i64_w, i32_w]; rfl
  refine pure_ (i := 12) (N := some 24) (v := ?_) (a' := ?_) #[true, true, true, true, true, true, true, true, true, true, true, true, true] rfl rfl (by kernel_rfl) (fun _ _ _ h => h) (Or.inl ⟨by rfl, ?_⟩) ?_ ?_
  rotate_left
  · intro w'; go_simp; with_reducible rfl
  rotate_left
  · simp only [Act.put, List.setIfInBounds_toArray, List.set_cons_zero, List.set_cons_succ, i64_w, i32_w]; rfl
  refine done_ (by kernel_rfl) ?_
  clear x0 x1
  go_wp2
  go_loopg [7] HP.length (fun kq v7 w' => ∃ i : Nat, v7 = .int .i64 i ∧ Aside0 (i + kq = HP.length) ∧ Aside0 (Below w11.heap.size w11 w'))
  case atStart => exact ⟨0, rfl, ⟨by omega⟩, HB19⟩
  case round =>
    obtain ⟨i, rfl, HK, HB2⟩ := hrel
    cases gk with
    | zero =>
      have e : i = HP.length := by have := HK.out; omega
      subst e
      have d1 : decide ((HP.length : Int) < (HP.length : Int)) = false := decide_eq_false (by omega)
      go_wp2
      go_ret
      exact ⟨rfl, HB.out.trans (HB2.out.mono HB.out.size)⟩
    | succ k1 =>
      have hi : i < HP.length := by have := HK.out; omega
      have d1 : decide ((i : Int) < (HP.length : Int)) = true := decide_eq_true (by omega)
      have i0 : (0 : Int) ≤ (i : Int) := by omega
      have i1 : (i : Int) < (HP.length : Int) := by omega
      obtain ⟨hx1, hx2, hx3⟩ := Kd.R_reads' HV9.out
      obtain ⟨ad, hA, e0, e1⟩ := at_T52 (Kd.C_below (Kd.C_below hx3 HB11.out) HB2.out) (i : Int) i0 i1
      subst hA
      obtain ⟨hy1, hy2, hy3⟩ := Kd.R_reads' HV11.out
      obtain ⟨ad2, hA2, f0, f1⟩ := at_T52 (Kd.C_below hy3 HB2.out) (i : Int) i0 i1
      subst hA2
      generalize hxx : rd_T52 HP (i : Int) = x at *
      simp only [Int.toNat_natCast] at e0 e1 f0 f1
      go_wp2
      go_quiet (fail)
      go_wp2
      go_roundg k1
      case measure => omega
      case rel => exact ⟨i + 1, by first | rfl | (simp; done) | (simp; unfold wrap64; omega), ⟨by have := HK.out; omega⟩, ⟨pw_below_drewN HB2.out _⟩⟩
end
end Go.Proofs.Ytdibaeomepallaa.NW
/- The law NetPlays' walk. -/
namespace Go.Proofs.Ytdibaeomepallaa.NW
open Go.RowKit Go.Proofs.YtdibaeomepallaaW.PrintWords Go.Proofs.YtdibaeomepallaaW.PrintLast Go.Proofs.YtdibaeomepallaaW.PrintMore Go.Proofs.Ytdibaeomepallaa.PAll
set_option linter.unusedVariables false
set_option linter.unusedSimpArgs false
set_option maxRecDepth 100000
attribute [local go_sem high] eqA52 eqA58
/-- A row whose elements begin with an int does not lie in a box of two slices. -/
theorem f_narrow {α : Type} {d : Kd α} (flat : ∀ w w' x c, d.K w x c → d.K w' x c) (hint : ∀ w x c, d.K w x c → ∃ z, c[0]? = some (.int .i64 z)) (hs : 0 < d.sz) {W : World} {ok : Nat → Prop} {A : Option Addr} {n : Nat} {xs : List α} (h : Kd.F d W ok A n xs)
    {B : Nat} {v0 v1 : Value} (hB : W.heap[B]? = some (.cells #[v0, v1] 40 (0, 0))) (h0 : ∀ z, v0 ≠ .int .i64 z) (h1 : ∀ z, v1 ≠ .int .i64 z) : Kd.F d W (fun k => ok k ∧ k ≠ B) A n xs := by
  intro W' hW
  have hC := Kd.F_now h
  refine ⟨hC.1, hC.2.1, fun hn => ?_⟩
  obtain ⟨ad, hA, hc⟩ := hC.2.2 hn
  have hin := Kd.F_in h hA hn hs
  subst hA
  have hlt := Kd.C_lt hC hn hs
  have hne : ad.block ≠ B := by
    intro e
    obtain ⟨c, hcl, hK, hcell⟩ := hc 0 _ (List.getElem?_eq_getElem (by rw [hC.1]; exact hn))
    obtain ⟨z, hz⟩ := hint _ _ _ hK
    have := hcell 0 _ hz
    rw [Nat.zero_mul, Nat.zero_add, Addr.add_zero'] at this
    unfold World.cell? at this
    rw [e, hB] at this
    dsimp only at this
    split at this
    · cases this
    · rcases Nat.lt_or_ge ad.off 2 with hlt | hge
      · obtain h2 | h2 : ad.off = 0 ∨ ad.off = 1 := by omega
        · rw [h2] at this; exact h0 z (by simpa using this)
        · rw [h2] at this; exact h1 z (by simpa using this)
      · rw [Array.getElem?_eq_none (by simpa using hge)] at this; cases this
  refine ⟨ad, rfl, fun j p hj => ?_⟩
  obtain ⟨c, hcl, hK, hcell⟩ := hc j p hj
  refine ⟨c, hcl, flat _ _ _ _ hK, fun i u hu => ?_⟩
  rw [← hcell i u hu]
  have e : W'.heap[(ad.add (j * d.sz + i)).block]? = W.heap[(ad.add (j * d.sz + i)).block]? := by
    have hb : (ad.add (j * d.sz + i)).block = ad.block := by unfold Addr.add; split <;> rfl
    rw [hb]
    exact hW ad.block ⟨hin, hne⟩ hlt
  unfold World.cell?
  rw [e]
theorem k58_flat : ∀ (w w' : World) (x : S58) (c : List Value), k58.K w x c → k58.K w' x c := by
  intro w w' x c h
  have := k58_open h
  subst this
  exact k58_mk w' x
theorem k52_flat : ∀ (w w' : World) (x : S52) (c : List Value), k52.K w x c → k52.K w' x c := by
  intro w w' x c h
  have := k52_open h
  subst this
  exact k52_mk w' x
theorem rf_narrow58 {W : World} {ok : Nat → Prop} {v : Value} {xs : List S58} (h : RF k58 W ok v xs) {B : Nat} {A A' : Option Addr} {n n' c c' : Nat} (hB : W.heap[B]? = some (.cells #[.slice A n c, .slice A' n' c'] 40 (0, 0))) : RF k58 W (fun k => ok k ∧ k ≠ B) v xs := by
  obtain ⟨A, c, h1, h2, h3⟩ := h
  exact ⟨A, c, h1, h2, f_narrow k58_flat (fun w x c h => by rw [k58_open h]; exact ⟨_, rfl⟩) (by decide) h3 hB (fun z e => by cases e) (fun z e => by cases e)⟩
theorem rf_narrow52 {W : World} {ok : Nat → Prop} {v : Value} {xs : List S52} (h : RF k52 W ok v xs) {B : Nat} {A A' : Option Addr} {n n' c c' : Nat} (hB : W.heap[B]? = some (.cells #[.slice A n c, .slice A' n' c'] 40 (0, 0))) : RF k52 W (fun k => ok k ∧ k ≠ B) v xs := by
  obtain ⟨A, c, h1, h2, h3⟩ := h
  exact ⟨A, c, h1, h2, f_narrow k52_flat (fun w x c h => by rw [k52_open h]; exact ⟨_, rfl⟩) (by decide) h3 hB (fun z e => by cases e) (fun z e => by cases e)⟩
/-- Both nets behind i acts: the program's in block g, the document's in the box B. -/
structure PI (w0 : World) (g B i : Nat) (q : List (List Pk)) (L : List Pk) (ap : List Bool) (A : List S52) (A0 : Option Addr) (c0 : Nat) (A1 : Option Addr) (c1 : Nat) (F : Nat → Prop) (w : World) : Prop where
  net : NetW w F g q ap
  young : ∀ k, F k → w0.heap.size ≤ k
  rel : NRel q L
  arel : ARel ap A
  len : L.length ≤ 400
  alen : A.length ≤ i
  box : w.heap[B]? = some (.cells #[.slice A0 L.length c0, .slice A1 A.length c1] 40 (0, 0))
  out : ¬ F B
  c0 : L.length ≤ c0
  c1 : A.length ≤ c1
  r0 : Kd.F k58 w (fun k => ¬ F k ∧ k ≠ B) A0 L.length (L.map to58)
  r1 : Kd.F k52 w (fun k => ¬ F k ∧ k ≠ B) A1 A.length A
  below : Below w0.heap.size w0 w
section
variable {w0 w w' : World} {g B i j : Nat} {q q' : List (List Pk)} {L L' : List Pk} {ap ap' : List Bool} {A A' : List S52} {A0 A0' : Option Addr} {c0 c0' : Nat} {A1 A1' : Option Addr} {c1 c1' : Nat} {F F' : Nat → Prop}
theorem PI.bel (h : PI w0 g B i q L ap A A0 c0 A1 c1 F w) (hb : Below w.heap.size w w') (hij : i ≤ j) : PI w0 g B j q L ap A A0 c0 A1 c1 F w' :=
  ⟨h.net.below hb, h.young, h.rel, h.arel, h.len, Nat.le_trans h.alen hij, (hb.block _ (blk_lt h.box)).trans h.box, h.out, h.c0, h.c1, Kd.F_below h.r0 hb, Kd.F_below h.r1 hb, h.below.trans (hb.mono h.below.size)⟩
/-- Behind an act, and the new document's net laid into the box. -/
theorem PI.turn (h : PI w0 g B i q L ap A A0 c0 A1 c1 F w) (hBy : w0.heap.size ≤ B) (hr : NRel q' L') (ha : ARel ap' A') (hl : L'.length ≤ 400) (hal : A'.length ≤ j)
    (hn : NetW w' F' g q' ap') (hF : ∀ k, F' k → F k ∨ w.heap.size ≤ k) (r0 : RF k58 w' (fun k => ¬ F' k) (.slice A0' L'.length c0') (L'.map to58)) (r1 : RF k52 w' (fun k => ¬ F' k) (.slice A1' A'.length c1') A') (hm : Mods F w w')
    {W : World} (hb : Below w'.heap.size w' W) : PI w0 g B j q' L' ap' A' A0' c0' A1' c1' F' (W.setRow B #[.slice A0' L'.length c0', .slice A1' A'.length c1']) := by
  have hBlt := blk_lt h.box
  have hbox := mods_box h.box hm h.out
  have hout : ¬ F' B := fun e => (hF _ e).elim h.out (fun e => by omega)
  have hbox2 := (hb.block _ (blk_lt hbox)).trans hbox
  obtain ⟨X0, y0, e0, hy0, r0⟩ := rf_narrow58 r0 hbox
  obtain ⟨X1, y1, e1, hy1, r1⟩ := rf_narrow52 r1 hbox
  rw [List.length_map] at e0 hy0 r0
  injection e0 with e0 _ e0'
  injection e1 with e1 _ e1'
  subst e0 e0' e1 e1'
  have hs : Mods (fun k => k = B) W (W.setRow B #[.slice A0' L'.length c0', .slice A1' A'.length c1']) := Mods.setRow (Mods.refl (fun k => k = B) W) (.inl rfl) _
  refine ⟨(hn.below hb).mods hs (fun k _ hk e => hout (e ▸ hk)), fun k hk => (hF k hk).elim (h.young k) (fun e => Nat.le_trans h.below.size e), hr, ha, hl, hal, setRow_heap _ _ _ _ _ _ hbox2, hout, hy0, hy1, ?_, ?_, ?_⟩
  · exact Kd.F_step (Kd.F_below r0 hb) (fun k hk _ => setRow_other _ _ _ _ hk.2)
  · exact Kd.F_step (Kd.F_below r1 hb) (fun k hk _ => setRow_other _ _ _ _ hk.2)
  · exact below_setRow ((h.below.trans (hm.below h.below.size h.young)).trans (hb.mono (Nat.le_trans h.below.size hm.size))) hBy _
end
end Go.Proofs.Ytdibaeomepallaa.NW
