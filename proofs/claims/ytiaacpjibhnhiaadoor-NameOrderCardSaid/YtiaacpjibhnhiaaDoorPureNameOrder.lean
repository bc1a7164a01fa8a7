/- The law NameOrder, plain: texts stand in one order, and names that are the same stand alike to any third; no condition. -/
import Derived.Test.YtiaacpjibhnhiaaDoorNT
namespace Go.Proofs.YtiaacpjibhnhiaaDoor.Pure
open Go.RowKit Go.Lib Go.Proofs.YtiaacpjibhnhiaaDoor.PAll Go.Proofs.YtiaacpjibhnhiaaDoor.NQ Go.Proofs.YtiaacpjibhnhiaaDoorW.PrintWords Go.Proofs.YtiaacpjibhnhiaaDoorW.PrintLast Go.Proofs.YtiaacpjibhnhiaaDoorW.PrintMore
theorem chk_valid (l : List UInt8) (h : chk l = 0) : validD l = true := by
  unfold chk at h
  by_cases hf : (!l.isEmpty && validD l && NC.formL true (rD l)) = true
  · simp only [Bool.and_eq_true] at hf
    exact hf.1.2
  · rw [if_neg hf] at h
    cases h
theorem NameOrder : caduceuslaw02_NameOrder.Pure := by
  intro a b c _ _ _
  have hj3 : ∀ (k : Nat) (x y z : Int) (u : Bool), 40001 ≤ k → a.size ≤ 500 → b.size ≤ 500 → u = false → (x = 0 → y = z ∧ NC.foldB a = NC.foldB b) → caduceuslaw02_NameOrder.j3 k a b x y z u = some true := by
    intro k x y z u hk ha hb hu hx
    obtain ⟨k, rfl⟩ : ∃ m, k = m + 1 := ⟨k - 1, by omega⟩
    subst hu
    rw [caduceuslaw02_NameOrder.j3, if_neg (by decide), awake_is k (by omega), Option.bind_some, if_pos rfl]
    by_cases h0 : x = 0
    · obtain ⟨h1, h2⟩ := hx h0
      rw [if_pos h0, if_pos h1, name_Key_is a (by omega) k (by omega), Option.bind_some, name_Key_is b (by omega) k (by omega), Option.bind_some, h2]
      simp
    · rw [if_neg h0]
  have hj2 : ∀ (k : Nat) (u : Bool), 40002 ≤ k → a.size ≤ 500 → b.size ≤ 500 → c.size ≤ 500 → (u = false → chk a.data.toList = 0 ∧ chk b.data.toList = 0 ∧ chk c.data.toList = 0) → caduceuslaw02_NameOrder.j2 k a b c (cmpV (foldL a.data.toList) (foldL b.data.toList)) u = some true := by
    intro k u hk ha hb hc hu
    obtain ⟨k, rfl⟩ : ∃ m, k = m + 1 := ⟨k - 1, by omega⟩
    rw [caduceuslaw02_NameOrder.j2]
    cases u with
    | true => rw [if_pos rfl, awake_is k (by omega)]; rfl
    | false =>
      obtain ⟨ca, cb, cc⟩ := hu rfl
      obtain ⟨va, ea⟩ := fold_valid _ (chk_valid _ ca)
      obtain ⟨vb, eb⟩ := fold_valid _ (chk_valid _ cb)
      obtain ⟨vc, ec⟩ := fold_valid _ (chk_valid _ cc)
      have e : ∀ x y : List UInt8, validD x = true → validD y = true → cmpV x y = NC.cmpL (rD x) (rD y) := fun x y hx hy => by unfold cmpV; rw [if_pos ⟨hx, hy⟩]
      rw [if_neg (by decide), name_Compare_is b c (by omega) (by omega) k (by omega), Option.bind_some, name_Compare_is a c (by omega) (by omega) k (by omega), Option.bind_some]
      have h3 : cmpV (foldL a.data.toList) (foldL b.data.toList) = 0 → cmpV (foldL b.data.toList) (foldL c.data.toList) = cmpV (foldL a.data.toList) (foldL c.data.toList) ∧ NC.foldB a = NC.foldB b := by
        intro h0
        have := (cmpV_zero _ _).1 h0
        exact ⟨by rw [this], ba_ext (by rw [fold_data, fold_data, this])⟩
      by_cases h1 : cmpV (foldL a.data.toList) (foldL b.data.toList) < 0
      · rw [if_pos h1]
        by_cases h2 : cmpV (foldL b.data.toList) (foldL c.data.toList) < 0
        · rw [if_pos h2]
          refine hj3 k _ _ _ _ (by omega) ha hb ?_ h3
          have := cmpL_trans _ _ _ (by rw [← e _ _ va vb]; exact h1) (by rw [← e _ _ vb vc]; exact h2)
          rw [← e _ _ va vc] at this
          exact decide_eq_false (by omega)
        · rw [if_neg h2]
          exact hj3 k _ _ _ _ (by omega) ha hb rfl h3
      · rw [if_neg h1]
        exact hj3 k _ _ _ _ (by omega) ha hb rfl h3
  have hj1 : ∀ (k : Nat) (u : Bool), 40003 ≤ k → a.size ≤ 500 → b.size ≤ 500 → c.size ≤ 500 → u = false → caduceuslaw02_NameOrder.j1 k a b c (cmpV (foldL a.data.toList) (foldL b.data.toList)) u = some true := by
    intro k u hk ha hb hc hu
    obtain ⟨k, rfl⟩ : ∃ m, k = m + 1 := ⟨k - 1, by omega⟩
    subst hu
    rw [caduceuslaw02_NameOrder.j1, if_neg (by decide), name_Check_is a (by omega), Option.bind_some]
    by_cases h1 : chk a.data.toList = 0
    · rw [if_pos h1, name_Check_is b (by omega), Option.bind_some]
      by_cases h2 : chk b.data.toList = 0
      · rw [if_pos h2, name_Check_is c (by omega), Option.bind_some]
        refine hj2 k _ (by omega) ha hb hc fun h => ⟨h1, h2, ?_⟩
        simpa using h
      · rw [if_neg h2]
        exact hj2 k _ (by omega) ha hb hc fun h => by cases h
    · rw [if_neg h1]
      exact hj2 k _ (by omega) ha hb hc fun h => by cases h
  have hj0 : ∀ (u : Bool), (u = false → a.size ≤ 500 ∧ b.size ≤ 500 ∧ c.size ≤ 500) → caduceuslaw02_NameOrder.j0 40005 a b c u = some true := by
    intro u hu
    rw [caduceuslaw02_NameOrder.j0]
    cases u with
    | true => rw [if_pos rfl, awake_is _ (by omega)]; rfl
    | false =>
      obtain ⟨ha, hb, hc⟩ := hu rfl
      have hr := cmpV_range (foldL b.data.toList) (foldL a.data.toList)
      rw [if_neg (by decide), name_Compare_is a b (by omega) (by omega) _ (by omega), Option.bind_some, name_Compare_is b a (by omega) (by omega) _ (by omega), Option.bind_some, if_pos (by rw [wr _ (by omega) (by omega)]; exact cmpV_neg _ _), name_Same_is a b (by omega) (by omega), Option.bind_some]
      refine hj1 _ _ (by omega) ha hb hc ?_
      have h0 := cmpV_zero (foldL a.data.toList) (foldL b.data.toList)
      rw [bne_eq_false_iff_eq, Bool.eq_iff_iff, beq_iff_eq, beq_iff_eq]
      exact h0
  refine ⟨40005, ?_⟩
  unfold caduceuslaw02_NameOrder.f
  by_cases h1 : (a.size : Int) > 500
  · rw [if_pos h1]; exact hj0 _ fun h => by cases h
  · rw [if_neg h1]
    by_cases h2 : (b.size : Int) > 500
    · rw [if_pos h2]; exact hj0 _ fun h => by cases h
    · rw [if_neg h2]
      exact hj0 _ fun h => by have := of_decide_eq_false h; omega
end Go.Proofs.YtiaacpjibhnhiaaDoor.Pure
