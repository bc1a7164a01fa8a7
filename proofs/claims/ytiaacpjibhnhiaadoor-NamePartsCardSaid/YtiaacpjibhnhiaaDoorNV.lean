/- Parts of names: the document. -/
import Derived.Test.YtiaacpjibhnhiaaDoorNU
namespace Go.Proofs.YtiaacpjibhnhiaaDoor.NQ
open Go.RowKit Go.Lib Go.Proofs.YtiaacpjibhnhiaaDoor.PAll Go.Proofs.YtiaacpjibhnhiaaDoorW.PrintWords Go.Proofs.YtiaacpjibhnhiaaDoorW.PrintLast Go.Proofs.YtiaacpjibhnhiaaDoorW.PrintMore
set_option linter.unusedVariables false
set_option linter.unusedSimpArgs false
theorem ref_Parts_l1 (P : List (List Int)) (hl : P.length ≤ 100) (hP : ∀ p ∈ P, p.length ≤ 100 ∧ ∀ c ∈ p, okR c) (out : List ByteArray) (ho : out.length ≤ 200) (i : Nat) (hi : i < P.length) : ∀ (d j k : Nat) (t : ByteArray), P[i].length - j ≤ d → d + 2 ≤ k → j ≤ P[i].length → t.size ≤ 4 * j →
    ∃ b : ByteArray, b.data.toList = t.data.toList ++ encL (P[i].drop j) ∧ ∀ (m : Nat) (r : List ByteArray), m + d + 1 ≤ k → caduceusref02_Parts.l0 m P (out ++ [b]) ((i + 1 : Nat) : Int) = some r → caduceusref02_Parts.l1 k P out (i : Int) t (j : Int) = some r := by
  have hw : wrap64 ((i : Int) + 1) = ((i + 1 : Nat) : Int) := by rw [wr _ (by omega) (by omega)]; omega
  have hr : rd_L5 P (i : Int) = P[i] := by simp [rd_L5, List.getD_eq_getElem?_getD, hi]
  have hp := hP _ (List.getElem_mem hi)
  intro d
  induction d with
  | zero =>
    intro j k t hd hk hj ht
    obtain ⟨k, rfl⟩ : ∃ m, k = m + 1 := ⟨k - 1, by omega⟩
    refine ⟨t, by rw [List.drop_eq_nil_of_le (by omega)]; simp [encL], fun m r hm h => ?_⟩
    rw [caduceusref02_Parts.l1, if_pos (by omega), if_pos (by omega), hr, if_neg (by omega), if_pos (by omega), hw]
    exact at_rounds (g := fun k => caduceusref02_Parts.l0 k P (out ++ [t]) ((i + 1 : Nat) : Int)) (fun k => (caduceusref02_Parts.mono_l k).1 P (out ++ [t]) _) (by omega) h
  | succ d ih =>
    intro j k t hd hk hj ht
    obtain ⟨k, rfl⟩ : ∃ m, k = m + 1 := ⟨k - 1, by omega⟩
    by_cases hlt : j < P[i].length
    · have hc := hp.2 _ (List.getElem_mem hlt)
      obtain ⟨x, hx, hxl⟩ := ref_Bytes_is _ hc
      have hxs : x.size ≤ 4 := by rw [size_eq, hxl]; exact enc_len4 _
      have hos : (t ++ x).size = t.size + x.size := ByteArray.size_append
      have hsz : (t ++ x).size ≤ 4 * (j + 1) := by rw [hos]; clear ih hx hxl hos hc hp; omega
      have hk1 : d + 2 ≤ k := by clear ih hx hxl hos hsz hc hp; omega
      have hd1 : P[i].length - (j + 1) ≤ d := by clear ih hx hxl hos hsz hc hp; omega
      have q1 : (0 : Int) ≤ (i : Int) := Int.natCast_nonneg _
      have q2 : (i : Int) < (P.length : Int) := Int.ofNat_lt.2 hi
      have q3 : (j : Int) < (P[i].length : Int) := Int.ofNat_lt.2 hlt
      have q4 : (0 : Int) ≤ (j : Int) := Int.natCast_nonneg _
      have q5 : t.size + x.size ≤ 9223372036854775807 := by clear ih hx hxl hos hsz hc; have := hp.1; clear hp; omega
      have q6 : ∀ m, m + (d + 1) + 1 ≤ k + 1 → m + d + 1 ≤ k := fun m h => by clear ih hx hxl hos hsz hc hp; omega
      have htx : (t ++ x).data.toList = t.data.toList ++ x.data.toList := by simp
      obtain ⟨b, hb, h2⟩ := ih (j + 1) k (t ++ x) hd1 hk1 hlt hsz
      clear hos hsz ih
      have hwj : wrap64 ((j : Int) + 1) = ((j + 1 : Nat) : Int) := by rw [wr _ (by omega) (by omega)]; omega
      have hrj : rd P[i] (j : Int) = P[i][j] := by simp [rd, List.getD_eq_getElem?_getD, hlt]
      refine ⟨b, ?_, fun m r hm h => ?_⟩
      · rw [hb, List.drop_eq_getElem_cons hlt, encL_cons, htx, hxl, List.append_assoc]
      · rw [caduceusref02_Parts.l1, if_pos q1, if_pos q2, hr, if_pos q3, if_pos q4, hrj, hx, Option.bind_some, if_pos q5, hwj]
        exact h2 m r (q6 m hm) h
    · refine ⟨t, by rw [List.drop_eq_nil_of_le (by omega)]; simp [encL], fun m r hm h => ?_⟩
      rw [caduceusref02_Parts.l1, if_pos (by omega), if_pos (by omega), hr, if_neg (by omega), if_pos (by omega), hw]
      exact at_rounds (g := fun k => caduceusref02_Parts.l0 k P (out ++ [t]) ((i + 1 : Nat) : Int)) (fun k => (caduceusref02_Parts.mono_l k).1 P (out ++ [t]) _) (by omega) h
theorem ref_Parts_l0 (P : List (List Int)) (hl : P.length ≤ 100) (hP : ∀ p ∈ P, p.length ≤ 100 ∧ ∀ c ∈ p, okR c) : ∀ (d i k : Nat) (out : List ByteArray), P.length - i ≤ d → 200 * d + 200 ≤ k → i ≤ P.length → out.length = i →
    ∃ r, caduceusref02_Parts.l0 k P out (i : Int) = some r ∧ r.map (·.data.toList) = out.map (·.data.toList) ++ (P.drop i).map encL := by
  intro d
  induction d with
  | zero =>
    intro i k out hd hk hi ho
    obtain ⟨k, rfl⟩ : ∃ m, k = m + 1 := ⟨k - 1, by omega⟩
    rw [caduceusref02_Parts.l0, if_neg (by omega)]
    exact ⟨_, rfl, by rw [List.drop_eq_nil_of_le (by omega)]; simp⟩
  | succ d ih =>
    intro i k out hd hk hi ho
    obtain ⟨k, rfl⟩ : ∃ m, k = m + 1 := ⟨k - 1, by omega⟩
    by_cases hlt : i < P.length
    · have hp := (hP _ (List.getElem_mem hlt)).1
      obtain ⟨b, hb, h2⟩ := ref_Parts_l1 P hl hP out (by omega) i hlt P[i].length 0 k ⟨#[]⟩ (by omega) (by omega) (by omega) (by decide)
      obtain ⟨r, h3, h4⟩ := ih (i + 1) (k - P[i].length - 1) (out ++ [b]) (by omega) (by omega) (by omega) (by simp; omega)
      refine ⟨r, ?_, ?_⟩
      · rw [caduceusref02_Parts.l0, if_pos (by omega)]
        exact h2 _ r (by omega) h3
      · rw [h4, List.drop_eq_getElem_cons hlt, List.map_append, List.append_assoc, List.map_cons, List.map_cons, List.map_nil, hb]
        rfl
    · rw [caduceusref02_Parts.l0, if_neg (by omega)]
      exact ⟨_, rfl, by rw [List.drop_eq_nil_of_le (by omega)]; simp⟩
theorem splitQ_mem (l : List Int) : ∀ p ∈ splitQ l, ∀ c ∈ p, c ∈ l := by
  induction l with
  | nil => intro p hp; simp [splitQ] at hp; simp [hp]
  | cons a r ih =>
    intro p hp c hc
    unfold splitQ at hp
    split at hp
    · rcases List.mem_cons.1 hp with rfl | hp
      · cases hc
      · exact List.mem_cons_of_mem _ (ih p hp c hc)
    · obtain ⟨h, t, e⟩ := splitQ_head r
      rw [e] at hp
      simp only [prep] at hp
      rcases List.mem_cons.1 hp with rfl | hp
      · rcases List.mem_cons.1 hc with rfl | hc
        · exact List.mem_cons_self
        · exact List.mem_cons_of_mem _ (ih h (by rw [e]; exact List.mem_cons_self) c hc)
      · exact List.mem_cons_of_mem _ (ih p (by rw [e]; exact List.mem_cons_of_mem _ hp) c hc)
theorem ref_Parts_is (s : ByteArray) (hs : s.size ≤ 40000) (k : Nat) (hk : 130000 ≤ k) : caduceusref02_Parts.f k s = some (partsB s) := by
  unfold caduceusref02_Parts.f
  rw [ref_Check_is s hs k (by omega), Option.bind_some]
  by_cases h : chk s.data.toList = 0
  · obtain ⟨_, hv, _, h40, h4⟩ := chk_valid' _ h
    have hl := rD_len s
    have hsl := splitQ_len (rD s.data.toList)
    rw [if_pos h, ref_Runes_is s (by omega) k (by omega) hv, Option.bind_some, ref_Split_is _ (by omega) k (by omega), Option.bind_some]
    obtain ⟨r, h1, h2⟩ := ref_Parts_l0 (splitQ (rD s.data.toList)) (by omega) (fun p hp => ⟨by have := splitQ_sub _ p hp; omega, fun c hc => rD_ok _ hv c (splitQ_mem _ p hp c hc)⟩) (splitQ (rD s.data.toList)).length 0 k [] (by omega) (by omega) (by omega) rfl
    refine (show caduceusref02_Parts.l0 k _ [] 0 = some r from h1).trans ?_
    congr 1
    apply ba_map
    rw [h2, partsB_data s h]
    simp
  · rw [if_neg h]
    unfold partsB
    rw [if_neg h]
end Go.Proofs.YtiaacpjibhnhiaaDoor.NQ
