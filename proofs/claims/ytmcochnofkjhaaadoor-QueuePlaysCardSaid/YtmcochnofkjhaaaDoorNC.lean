/- Plain words for the layer 'name': the texts' runes, what folding gives, which forms are names; the world's facts on the library's variables, carried on. -/
import Derived.Test.YtmcochnofkjhaaaDoorShelf
import Derived.Test.YtmcochnofkjhaaaDoorWMore
import Derived.Laws.Cover4
import Derived.Laws.Rows
import Derived.Laws.AppendOwn
import Derived.Laws.IdiomStrings
import Derived.Laws.RangeAny
import Derived.Lib.OthersKept
import Derived.Lib.RuneLoops
import Derived.Shelf.Unicode.ValidAny
namespace Go.Proofs.YtmcochnofkjhaaaDoor.NC
open Go.RowKit Go.Shelf
/-- The library's variables as their initialisers lay them; the longest text that the machine looks through is some number. -/
def TabW (w : World) : Prop := Lib.Utf8Tabs (Tryd.lays196_ren.g 3) (Tryd.lays196_ren.g 4) w ∧ ∃ m, w.cell? ⟨Tryd.laysM146_ren.g 1, 0, none⟩ = some (.int .i64 m)
theorem TabW.below {w w' : World} (h : TabW w) (hb : Below w.heap.size w w') : TabW w' := by
  obtain ⟨h1, m, hm⟩ := h
  exact ⟨Utf8Tabs_below h1 hb, m, (hb.cell (World.block_lt_of_cell? w _ hm)).trans hm⟩
theorem infoRune : (Tryd.prog.info? 21).map (fun i => (i.zero, i.size, i.bytes)) = some (some (.int .i32 0), 1, 4) := by kernel_rfl
theorem ret_str {a b : ByteArray} (h : b = a) : Ending.returned (.string a) = .returned (.string b) := by rw [h]
theorem ret_bool {a b : Bool} (h : b = a) : Ending.returned (.bool a) = .returned (.bool b) := by rw [h]
theorem ret_int {k : IntKind} {a b : Int} (h : b = a) : Ending.returned (.int k a) = .returned (.int k b) := by rw [h]
/-- The runes of a text from a place on. -/
def runesL (s : ByteArray) : Nat → Nat → List Int
  | 0, _ => []
  | f + 1, i => if i < s.size then ((Utf8.decode s i).1 : Int) :: runesL s f (i + (Utf8.decode s i).2) else []
def runes (s : ByteArray) : List Int := runesL s s.size 0
theorem runesL_end (s : ByteArray) (f i : Nat) (h : ¬ i < s.size) : runesL s f i = [] := by
  cases f with
  | zero => rfl
  | succ f => simp [runesL, h]
theorem runesL_len (s : ByteArray) : ∀ f i, (runesL s f i).length ≤ s.size - i := by
  intro f
  induction f with
  | zero => intro i; simp [runesL]
  | succ f ih =>
    intro i
    by_cases hi : i < s.size
    · have hw := Lib.decode_width_pos s i hi
      have := ih (i + (Utf8.decode s i).2)
      simp only [runesL, if_pos hi, List.length_cons]
      omega
    · simp [runesL, hi]
theorem runes_len (s : ByteArray) : (runes s).length ≤ s.size := by have := runesL_len s s.size 0; unfold runes; omega
theorem conv_runes (s : ByteArray) : ∀ f i (acc : Array Value), Conv.runesFrom s f i acc = acc ++ ((runesL s f i).map (Value.int .i32)).toArray := by
  intro f
  induction f with
  | zero => intro i acc; simp [Conv.runesFrom, runesL]
  | succ f ih =>
    intro i acc
    by_cases hi : i < s.size
    · rw [Conv.runesFrom, if_pos hi]
      show Conv.runesFrom s f (i + (Utf8.decode s i).2) (acc.push (Value.int IntKind.i32 (Int.ofNat (Utf8.decode s i).1))) = _
      rw [ih]
      simp only [runesL, if_pos hi, List.map_cons]
      apply Array.ext'
      simp
    · simp [Conv.runesFrom, runesL, hi]
section
open Go.Proofs.YtmcochnofkjhaaaDoorW.PrintWords
variable {ops : Array Oper} {rest : List Oper} {o : Oper} {a : Act} {Q : Exit → Act → World → Prop}
/-- '[]rune(s)' as one step: a new row that reads as the text's runes. -/
theorem runes_event {W : World} {s : ByteArray} (hs : s.size ≤ 70368744177664) (hgd : o.guard = none) (x : Operand) (ho : o.op = .convert 9 116 x) (hx : a.eval x = .string s)
    (h : ∀ v w1 A c, v = .slice A (runes s).length c → (runes s).length ≤ c → Kd.C (Kd.int .i32) w1 A (runes s).length (runes s) → Below W.heap.size W w1 → wpList Tryd.prog ops Q rest (a.put o.dst v) w1) : wpList Tryd.prog ops Q (o :: rest) a W := by
  have hc := conv_runes s s.size 0 #[]
  have hsz : (Conv.runesFrom s s.size 0 #[]).size = (runes s).length := by rw [hc]; simp [runes]
  have hl := runes_len s
  have hr := run_runes_of_string (P := Tryd.prog) W 9 116 21 s Tryd.underlying9 Tryd.underlying116 Tryd.underlying21 (by rw [hsz]; omega)
  rw [hsz, hc] at hr
  have hg := grownCap_ge W (runes s).length 0 21
  obtain ⟨O, hO⟩ : ∃ O, Obj.cells (#[] ++ (List.map (Value.int IntKind.i32) (runesL s s.size 0)).toArray ++ Array.replicate (grownCap W (runes s).length 0 21 - (runes s).length) (.int .i32 0)) 21 = O := ⟨_, rfl⟩
  rw [hO] at hr
  have hbel : Below W.heap.size W (W.drew.alloc O) := below_alloc (below_drew (Below.refl _ W)) O
  have hC : Kd.C (Kd.int .i32) (W.drew.alloc O) (some ⟨W.heap.size, 0, none⟩) (runes s).length (runes s) := by
    refine Kd.C_of_reads (d := (0 : Int)) ⟨rfl, by omega, fun _ => ⟨_, rfl, fun j hj => ?_⟩⟩
    have hb : (W.drew.alloc O).cell? ⟨W.heap.size, j, none⟩ = some (.int .i32 ((runes s).getD j 0)) := by
      rw [← hO]
      refine (cell_of_row _ W.heap.size j _ _ (0, 0) (heap_alloc_new W.drew _)).trans ?_
      have hj2 : j < (runesL s s.size 0).length := hj
      simp [Array.getElem?_append, hj2, runes, List.getD_eq_getElem?_getD]
    rw [Addr.add_lit, Nat.zero_add]
    exact hb
  refine Kd.event_run hgd (w1 := W.drew.alloc O) (v := .slice (some ⟨W.heap.size, 0, none⟩) (runes s).length (grownCap W (runes s).length 0 21)) ?_ (h _ _ _ _ rfl hg hC hbel)
  unfold execOp
  simp only [ho, hx, Sem.run_bind, hr, Result.andThen]
  rfl
end
/-- The small letter. -/
def smallZ (c : Int) : Int := if (65 ≤ c ∧ c ≤ 90) ∨ (192 ≤ c ∧ c ≤ 222 ∧ c ≠ 215) ∨ (913 ≤ c ∧ c ≤ 937 ∧ c ≠ 930) ∨ (1040 ≤ c ∧ c ≤ 1071) then c + 32 else c
def letterZ (c : Int) : Bool := decide ((65 ≤ c ∧ c ≤ 90) ∨ (97 ≤ c ∧ c ≤ 122) ∨ (192 ≤ c ∧ c ≤ 591 ∧ c ≠ 215 ∧ c ≠ 247) ∨ (913 ≤ c ∧ c ≤ 937 ∧ c ≠ 930) ∨ (945 ≤ c ∧ c ≤ 969) ∨ (1040 ≤ c ∧ c ≤ 1103) ∨ (19968 ≤ c ∧ c ≤ 40959))
def digitZ (c : Int) : Bool := decide (48 ≤ c ∧ c ≤ 57)
/-- A text folded. -/
def foldB (s : ByteArray) : ByteArray := if Lib.validD s.data.toList = true then runesBytes ((runes s).map smallZ) else s
/-- Have the runes the form of a name, where a part begins ('first')? -/
def formL : Bool → List Int → Bool
  | first, [] => !first
  | first, c :: r => if c = 46 then (if first then false else formL true r) else if letterZ c || c == 95 then formL false r else if !first && (digitZ c || c == 45) then formL first r else false
def formB (s : ByteArray) : Bool := !s.toList.isEmpty && Lib.validD s.data.toList && formL true (runes s)
/-- How two lists of numbers stand. -/
def cmpL : List Int → List Int → Int
  | [], [] => 0
  | [], _ :: _ => -1
  | _ :: _, [] => 1
  | a :: x, b :: y => if a < b then -1 else if a > b then 1 else cmpL x y
theorem cmpL_lens (l m : List Int) (i : Nat) (h : i = l.length ∨ i = m.length) (h1 : i ≤ l.length) (h2 : i ≤ m.length) :
    cmpL (l.drop i) (m.drop i) = if l.length < m.length then -1 else if l.length > m.length then 1 else 0 := by
  have e1 : (l.drop i).length = l.length - i := List.length_drop
  have e2 : (m.drop i).length = m.length - i := List.length_drop
  cases hl : l.drop i with
  | nil =>
    rw [hl] at e1
    simp only [List.length_nil] at e1
    cases hm : m.drop i with
    | nil => rw [hm] at e2; simp only [List.length_nil] at e2; rw [if_neg (by omega), if_neg (by omega)]; rfl
    | cons b y => rw [hm] at e2; simp only [List.length_cons] at e2; rw [if_pos (by omega)]; rfl
  | cons a x =>
    rw [hl] at e1
    simp only [List.length_cons] at e1
    cases hm : m.drop i with
    | nil => rw [hm] at e2; simp only [List.length_nil] at e2; rw [if_neg (by omega), if_pos (by omega)]; rfl
    | cons b y => rw [hm] at e2; simp only [List.length_cons] at e2; omega
theorem cmpL_step (l m : List Int) (i : Nat) (h1 : i < l.length) (h2 : i < m.length) :
    cmpL (l.drop i) (m.drop i) = if l.getD i 0 < m.getD i 0 then -1 else if l.getD i 0 > m.getD i 0 then 1 else cmpL (l.drop (i + 1)) (m.drop (i + 1)) := by
  rw [List.drop_eq_getElem_cons h1, List.drop_eq_getElem_cons h2]
  simp [cmpL, List.getD_eq_getElem?_getD, h1, h2]
end Go.Proofs.YtmcochnofkjhaaaDoor.NC
