/- The law NameParts, plain: a name's parts are names, and it stands under each of its beginnings, and none of these but itself under it. -/
import Derived.Test.YtiaacpjibhnhiaaDoorNX
namespace Go.Proofs.YtiaacpjibhnhiaaDoor.Pure
open Go.RowKit Go.Lib Go.Proofs.YtiaacpjibhnhiaaDoor.PAll Go.Proofs.YtiaacpjibhnhiaaDoor.NQ Go.Proofs.YtiaacpjibhnhiaaDoorW.PrintWords Go.Proofs.YtiaacpjibhnhiaaDoorW.PrintLast Go.Proofs.YtiaacpjibhnhiaaDoorW.PrintMore
set_option linter.unusedSimpArgs false
/-- Parts joined with points. -/
def joinQ : List (List Int) → List Int
  | [] => []
  | p :: r => if r = [] then p else p ++ 46 :: joinQ r
theorem joinQ_cons (p : List Int) (r : List (List Int)) (h : r ≠ []) : joinQ (p :: r) = p ++ 46 :: joinQ r := by
  rw [joinQ, if_neg h]
theorem joinQ_one (p : List Int) : joinQ [p] = p := by rw [joinQ, if_pos rfl]
theorem joinQ_split (l : List Int) : joinQ (splitQ l) = l := by
  induction l with
  | nil => simp [splitQ, joinQ]
  | cons a r ih =>
    unfold splitQ
    split
    · rename_i h
      rw [joinQ_cons _ _ (splitQ_ne r), ih]
      simp [h]
    · obtain ⟨x, t, e⟩ := splitQ_head r
      rw [e] at ih ⊢
      simp only [prep]
      by_cases ht : t = []
      · subst ht
        rw [joinQ_one] at ih ⊢
        simp [ih]
      · rw [joinQ_cons _ _ ht] at ih ⊢
        rw [← ih]
        simp
theorem splitQ_app (p r : List Int) (h : (46 : Int) ∉ p) : splitQ (p ++ 46 :: r) = p :: splitQ r := by
  induction p with
  | nil => simp [splitQ]
  | cons a q ih =>
    simp only [List.mem_cons, not_or] at h
    have ha : ¬ a = 46 := fun e => h.1 e.symm
    show splitQ (a :: (q ++ 46 :: r)) = _
    rw [splitQ, ih h.2]
    simp [ha, prep]
theorem splitQ_own (p : List Int) (h : (46 : Int) ∉ p) : splitQ p = [p] := by
  induction p with
  | nil => simp [splitQ]
  | cons a q ih =>
    simp only [List.mem_cons, not_or] at h
    have ha : ¬ a = 46 := fun e => h.1 e.symm
    rw [splitQ, ih h.2]
    simp [ha, prep]
theorem split_joinQ : ∀ Q : List (List Int), Q ≠ [] → (∀ p ∈ Q, (46 : Int) ∉ p) → splitQ (joinQ Q) = Q
  | [], h, _ => absurd rfl h
  | p :: r, _, h => by
    by_cases hr : r = []
    · subst hr
      rw [joinQ_one, splitQ_own p (h p List.mem_cons_self)]
    · rw [joinQ_cons _ _ hr, splitQ_app _ _ (h p List.mem_cons_self), split_joinQ r hr (fun q hq => h q (List.mem_cons_of_mem _ hq))]
theorem splitQ_no46 (l : List Int) : ∀ p ∈ splitQ l, (46 : Int) ∉ p := by
  induction l with
  | nil => intro p hp; simp [splitQ] at hp; simp [hp]
  | cons a r ih =>
    intro p hp
    unfold splitQ at hp
    split at hp
    · rcases List.mem_cons.1 hp with rfl | hp
      · simp
      · exact ih p hp
    · rename_i ha
      obtain ⟨h, t, e⟩ := splitQ_head r
      rw [e] at hp
      simp only [prep] at hp
      rcases List.mem_cons.1 hp with rfl | hp
      · have := ih h (by rw [e]; exact List.mem_cons_self)
        simp only [List.cons_append, List.nil_append, List.mem_cons, not_or]
        exact ⟨fun e2 => ha (by simp [← e2]), this⟩
      · exact ih p (by rw [e]; exact List.mem_cons_of_mem _ hp)
theorem joinQ_snoc (p : List Int) : ∀ Q : List (List Int), joinQ (Q ++ [p]) = if Q = [] then p else joinQ Q ++ 46 :: p
  | [] => by simp [joinQ]
  | q :: r => by
    rw [if_neg (by simp)]
    show joinQ (q :: (r ++ [p])) = _
    rw [joinQ_cons _ _ (by simp), joinQ_snoc p r]
    by_cases hr : r = []
    · subst hr; simp [joinQ]
    · rw [if_neg hr, joinQ_cons _ _ hr]; simp
theorem joinQ_len : ∀ (Q : List (List Int)) (i : Nat), (joinQ (Q.take i)).length ≤ (joinQ Q).length
  | _, 0 => by simp [joinQ]
  | [], i + 1 => by simp
  | p :: r, i + 1 => by
    have ih := joinQ_len r i
    rw [List.take_succ_cons]
    by_cases hr : r = []
    · subst hr; simp
    · rw [joinQ_cons _ _ hr]
      by_cases ht : r.take i = []
      · rw [ht, joinQ_one]; simp
      · rw [joinQ_cons _ _ ht]; simp; omega
theorem encL_len : ∀ l : List Int, (encL l).length ≤ 4 * l.length
  | [] => by simp [encL]
  | c :: r => by
    have := enc_len4 c
    have := encL_len r
    rw [encL_cons, List.length_append, List.length_cons]
    omega
/-- A list of parts that stands for a name. -/
theorem chk_join (Q : List (List Int)) (h0 : Q ≠ []) (h46 : ∀ p ∈ Q, (46 : Int) ∉ p) (hok : ∀ p ∈ Q, ∀ c ∈ p, okR c) (hp : ∀ p ∈ Q, partR true p = true) (hl : (joinQ Q).length ≤ 40) (hq : Q.length ≤ 5) :
    validD (encL (joinQ Q)) = true ∧ rD (encL (joinQ Q)) = joinQ Q ∧ chk (encL (joinQ Q)) = 0 := by
  have hj : ∀ c ∈ joinQ Q, okR c := by
    clear h0 h46 hp hl hq
    induction Q with
    | nil => intro c hc; simp [joinQ] at hc
    | cons p r ih =>
      have ih := ih fun q hq => hok q (List.mem_cons_of_mem _ hq)
      by_cases hr : r = []
      · subst hr; rw [joinQ_one]; exact hok p List.mem_cons_self
      · rw [joinQ_cons _ _ hr]
        intro c hc
        rcases List.mem_append.1 hc with h | h
        · exact hok p List.mem_cons_self c h
        · rcases List.mem_cons.1 h with rfl | h
          · unfold okR; omega
          · exact ih c h
  obtain ⟨v, r⟩ := enc_all _ hj
  have hs := split_joinQ Q h0 h46
  have hc := splitQ_len (joinQ Q)
  refine ⟨v, r, chk_mk _ ?_ v ?_ (by rw [r]; exact hl) (by rw [r]; rw [hs] at hc; omega)⟩
  · intro h
    have := (enc_nil _).1 h
    rw [this] at hs
    have hn : splitQ [] = [[]] := by simp [splitQ]
    rw [hn] at hs
    have := hp [] (by rw [← hs]; exact List.mem_cons_self)
    cases this
  · rw [r, form_all, hs, List.all_eq_true]
    exact hp
theorem partsB_fold (s : ByteArray) (h : chk s.data.toList = 0) : (partsB (NC.foldB s)).map (·.data.toList) = (splitQ (rD s.data.toList)).map fun p => encL (p.map NC.smallZ) := by
  obtain ⟨_, hv, _⟩ := chk_valid' _ h
  rw [partsB_data _ (by rw [fold_data, chk_fold]; exact h), fold_data, (fold_valid _ hv).2, splitQ_small, List.map_map]
  rfl
theorem map_take_of {a b : List ByteArray} {i : Nat} (h : b.map (·.data.toList) = (a.map (·.data.toList)).take i) : b = a.take i := ba_map _ _ (by rw [h, List.map_take])
theorem under_take (p : List ByteArray) (i : Nat) (h1 : 0 < i) (h2 : i ≤ p.length) : underL p (p.take i) = true ∧ underL (p.take i) p = decide (i = p.length) := by
  unfold underL
  have hl : (p.take i).length = i := by rw [List.length_take]; omega
  refine ⟨?_, ?_⟩
  · rw [decide_eq_true_eq, hl]; exact ⟨h1, h2, rfl⟩
  · rw [decide_eq_decide, hl]
    refine ⟨fun h => by omega, fun h => ⟨by omega, by omega, ?_⟩⟩
    subst h
    rw [List.take_length, List.take_length]
theorem NameParts_l (a : ByteArray) (h : chk a.data.toList = 0) : ∀ (d i k : Nat) (t : ByteArray), (partsB a).length - i ≤ d → 2 * d + 20 ≤ k → i ≤ (partsB a).length → t.data.toList = encL (joinQ ((splitQ (rD a.data.toList)).take i)) → a.size ≤ 2000 →
    caduceuslaw02_NameParts.l0 k a (partsB a) t (i : Int) = some true := by
  obtain ⟨hne, hv, hf, h40, h4⟩ := chk_valid' _ h
  have hok := rD_ok _ hv
  have hlen := splitQ_len (rD a.data.toList)
  have hdat := partsB_data a h
  have hfold := partsB_fold a h
  have hj := joinQ_split (rD a.data.toList)
  have hpm : ∀ p ∈ splitQ (rD a.data.toList), ∀ c ∈ p, okR c := fun p hp c hc => hok c (splitQ_mem _ p hp c hc)
  have hp46 := splitQ_no46 (rD a.data.toList)
  have hpart : ∀ p ∈ splitQ (rD a.data.toList), partR true p = true := by rw [form_all, List.all_eq_true] at hf; exact hf
  have hsub := splitQ_sub (rD a.data.toList)
  have hnL := splitQ_ne (rD a.data.toList)
  have hback := dec_enc_all _ hv
  generalize rD a.data.toList = ns at *
  generalize hP : splitQ ns = P at *
  have hxl : (partsB a).length = P.length := by have := congrArg List.length hdat; simpa using this
  have hyl : (partsB (NC.foldB a)).length = P.length := by have := congrArg List.length hfold; simpa using this
  have hget : ∀ i (hi : i < P.length) (hi' : i < (partsB a).length), (partsB a)[i].data.toList = encL P[i] := by
    intro i hi hi'
    have := congrArg (fun l => l[i]?) hdat
    simpa [hi, hi'] using this
  have hP5 : P.length ≤ 5 := by omega
  have hP0 : 0 < P.length := by cases P with | nil => exact absurd rfl hnL | cons x y => simp
  -- what the next text says
  have step : ∀ (i : Nat) (u : ByteArray), i < P.length → u.data.toList = encL (joinQ (P.take (i + 1))) → u.size ≤ 160 ∧ partsB (NC.foldB u) = (partsB (NC.foldB a)).take (i + 1) := by
    intro i u hi hu
    have hjl := joinQ_len P (i + 1)
    rw [hj] at hjl
    have hel := encL_len (joinQ (P.take (i + 1)))
    have htl : (P.take (i + 1)).length = i + 1 := by rw [List.length_take]; omega
    have hin : ∀ p ∈ P.take (i + 1), p ∈ P := fun p hp => List.mem_of_mem_take hp
    obtain ⟨cv, cr, c0⟩ := chk_join (P.take (i + 1)) (by intro e; rw [e] at htl; cases htl) (fun p hp => hp46 p (hin p hp)) (fun p hp => hpm p (hin p hp)) (fun p hp => hpart p (hin p hp)) (by omega) (by omega)
    refine ⟨by rw [size_eq, hu]; omega, map_take_of ?_⟩
    rw [partsB_fold u (by rw [hu]; exact c0), hu, cr, split_joinQ _ (by intro e; rw [e] at htl; cases htl) (fun p hp => hp46 p (hin p hp)), hfold, List.map_take]
  have one : ∀ (i : Nat) (hi : i < P.length) (hi' : i < (partsB a).length), chk (partsB a)[i].data.toList = 0 ∧ (partsB a)[i].size ≤ 160 := by
    intro i hi hi'
    have hm := List.getElem_mem hi
    have := hsub _ hm
    have hel := encL_len P[i]
    obtain ⟨cv, cr, c0⟩ := chk_join [P[i]] (by simp) (by simpa using hp46 _ hm) (by intro p hp; rw [List.mem_singleton.1 hp]; exact hpm _ hm) (by intro p hp; rw [List.mem_singleton.1 hp]; exact hpart _ hm) (by rw [joinQ_one]; omega) (by simp)
    rw [joinQ_one] at c0
    rw [hget i hi hi']
    refine ⟨c0, ?_⟩
    rw [size_eq, hget i hi hi']
    omega
  intro d
  induction d with
  | zero =>
    intro i k t hd hk hi ht hs
    obtain ⟨k, rfl⟩ : ∃ m, k = m + 1 := ⟨k - 1, by omega⟩
    have e : i = P.length := by omega
    subst e
    rw [List.take_length, hj, hback] at ht
    rw [caduceuslaw02_NameParts.l0, if_neg (by omega), awake_is k (by omega), Option.bind_some, if_pos rfl, if_pos (by rw [ba_ext ht]), if_pos (by omega), decide_eq_true (by omega)]
  | succ d ih =>
    intro i k t hd hk hi ht hs
    obtain ⟨k, rfl⟩ : ∃ m, k = m + 1 := ⟨k - 1, by omega⟩
    by_cases hlt : i < P.length
    · have hi' : i < (partsB a).length := by omega
      have hjl := joinQ_len P i
      rw [hj] at hjl
      have hts : t.size ≤ 160 := by rw [size_eq, ht]; have := encL_len (joinQ (P.take i)); omega
      obtain ⟨c1, c2⟩ := one i hlt hi'
      have hg := hget i hlt hi'
      have hr := rdOf_get (partsB a) i hi'
      have q1 : (0 : Int) ≤ (i : Int) := Int.natCast_nonneg _
      have q2 : (i : Int) < ((partsB a).length : Int) := Int.ofNat_lt.2 hi'
      have j1 : ∀ (k : Nat) (u : ByteArray), 2 * d + 20 ≤ k → u.size ≤ 161 → u.data.toList ++ encL P[i] = encL (joinQ (P.take (i + 1))) → caduceuslaw02_NameParts.j1 (k + 1) a (partsB a) u (i : Int) = some true := by
        intro k u hk hu hu2
        have hua : (u ++ (partsB a)[i]).data.toList = encL (joinQ (P.take (i + 1))) := by rw [← hu2, ← hg]; simp
        obtain ⟨s1, s2⟩ := step i _ hlt hua
        obtain ⟨u1, u2⟩ := under_take (partsB (NC.foldB a)) (i + 1) (by omega) (by omega)
        have q3 : u.size + (partsB a)[i].size ≤ 9223372036854775807 := by omega
        have q4 : ((decide (i + 1 = (partsB (NC.foldB a)).length)) != ((i : Int) == ((partsB a).length : Int) - 1)) = false := by
          rw [bne_eq_false_iff_eq, Bool.eq_iff_iff, decide_eq_true_eq, beq_iff_eq]
          omega
        have q5 : (partsB a)[i].size ≤ 1099511627776 := by omega
        have q6 : a.size ≤ 100000 := by omega
        have q7 : (u ++ (partsB a)[i]).size ≤ 100000 := by omega
        have q8 : 10 ≤ k := by omega
        have q9 := ih (i + 1) k _ (by omega) hk (by omega) hua hs
        have hw : wrap64 ((i : Int) + 1) = ((i + 1 : Nat) : Int) := by clear ih; rw [wr _ (by omega) (by omega)]; omega
        have hw2 : wrap64 (((partsB a).length : Int) - 1) = ((partsB a).length : Int) - 1 := by clear hw ih; exact wr _ (by omega) (by omega)
        rw [caduceuslaw02_NameParts.j1, if_pos q1, if_pos q2, hr, if_pos q3, name_Check_is _ q5, Option.bind_some, if_pos c1, name_Under_is a _ q6 q7 k q8, Option.bind_some, s2, if_pos u1, name_Under_is _ a q7 q6 k q8, Option.bind_some, s2, u2, hw2, q4, if_neg (by decide), hw]
        exact q9
      obtain ⟨k, rfl⟩ : ∃ m, k = m + 1 := ⟨k - 1, by omega⟩
      rw [caduceuslaw02_NameParts.l0, if_pos q2]
      have hsn : joinQ (P.take (i + 1)) = if P.take i = [] then P[i] else joinQ (P.take i) ++ 46 :: P[i] := by
        rw [List.take_succ_eq_append_getElem hlt, joinQ_snoc]
      by_cases h0 : 0 < i
      · rw [if_pos (by omega), if_pos (by omega)]
        refine j1 k _ (by omega) ?_ ?_
        · rw [ByteArray.size_append]
          show t.size + 1 ≤ 161
          omega
        · have hne : P.take i ≠ [] := by intro e; have := congrArg List.length e; rw [List.length_take, List.length_nil] at this; omega
          rw [hsn, if_neg hne, encL_append, encL_cons, enc_46]
          simp [ht]
      · have e : i = 0 := by omega
        subst e
        rw [if_neg (by omega)]
        refine j1 k _ (by omega) (by omega) ?_
        rw [hsn, if_pos (by simp), ht]
        simp [joinQ, encL]
    · obtain e : i = P.length := by omega
      subst e
      rw [List.take_length, hj, hback] at ht
      rw [caduceuslaw02_NameParts.l0, if_neg (by omega), awake_is k (by omega), Option.bind_some, if_pos rfl, if_pos (by rw [ba_ext ht]), if_pos (by omega), decide_eq_true (by omega)]
theorem NameParts : caduceuslaw02_NameParts.Pure := by
  intro a _
  refine ⟨100, ?_⟩
  unfold caduceuslaw02_NameParts.f
  rw [awake_is _ (by omega), Option.bind_some]
  by_cases h1 : (a.size : Int) > 2000
  · rw [if_pos h1]
  · rw [if_neg h1, name_Parts_is a (by omega), Option.bind_some, name_Check_is a (by omega), Option.bind_some]
    by_cases h : chk a.data.toList = 0
    · have hp := partsB_len a
      rw [if_pos h]
      exact NameParts_l a h (partsB a).length 0 100 _ (by omega) (by omega) (by omega) (by simp [joinQ, encL]) (by omega)
    · have e : partsB a = [] := by unfold partsB; rw [if_neg h]
      have e2 : partsB (NC.foldB a) = [] := by unfold partsB; rw [if_neg (by rw [fold_data, chk_fold]; exact h)]
      rw [if_neg h, Option.bind_some, if_pos rfl, e, if_pos (show ((([] : List ByteArray).length : Int) = 0) from rfl), name_Under_is a a (by omega) (by omega) _ (by omega), Option.bind_some, e2]
      rfl
end Go.Proofs.YtiaacpjibhnhiaaDoor.Pure
