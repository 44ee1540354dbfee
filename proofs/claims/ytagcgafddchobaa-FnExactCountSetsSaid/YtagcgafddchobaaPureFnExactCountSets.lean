/- The program's CountSets returns what the reference's returns: for every two numbers (no condition). -/
import Derived.Test.YtagcgafddchobaaPFnExactCountSetsx1
namespace Go.Proofs.Ytagcgafddchobaa.Pure
open Go.RowKit Go.Proofs.Ytagcgafddchobaa.PFnExactCountSets Go.Proofs.YtagcgafddchobaaW.PrintWords Go.Proofs.YtagcgafddchobaaW.PrintLast

theorem same_loop : ∀ (k : Nat) (a b c d : Int), impl_CountSets.l0 k a b c d = spec_CountSets.l0 k a b c d := by
  intro k
  induction k with
  | zero => intro a b c d; simp only [impl_CountSets.l0, spec_CountSets.l0]
  | succ k ih => intro a b c d; simp only [impl_CountSets.l0, spec_CountSets.l0, ih]

theorem same_join (k : Nat) (a b : Int) (t : Bool) : impl_CountSets.j0 k a b t = spec_CountSets.j0 k a b t := by
  cases k with
  | zero => simp only [impl_CountSets.j0, spec_CountSets.j0]
  | succ k => simp only [impl_CountSets.j0, spec_CountSets.j0, same_loop]

theorem spec_is (k : Nat) (a b : Int) : spec_CountSets.f k a b = spec_CountSets.j0 k a b (decide (¬ (0 ≤ b ∧ b ≤ 20 ∧ 0 ≤ a ∧ a ≤ b))) := by
  unfold spec_CountSets.f spec_l01In.f
  by_cases h1 : b ≥ 0
  · rw [if_pos h1]; simp only [Option.bind_some]
    by_cases h2 : b ≤ 20
    · rw [if_pos (by simpa using h2)]
      by_cases h3 : a ≥ 0
      · rw [if_pos h3]; simp only [Option.bind_some]
        congr 1
        by_cases h4 : a ≤ b <;> simp [h4] <;> omega
      · rw [if_neg h3]; simp only [Option.bind_some]
        congr 1
        simp; omega
    · rw [if_neg (by simpa using h2)]
      congr 1
      simp; omega
  · rw [if_neg h1]; simp only [Option.bind_some]
    rw [if_neg (by simp)]
    congr 1
    simp; omega

theorem impl_is (k : Nat) (a b : Int) : impl_CountSets.f k a b = spec_CountSets.j0 k a b (decide (¬ (0 ≤ b ∧ b ≤ 20 ∧ 0 ≤ a ∧ a ≤ b))) := by
  unfold impl_CountSets.f
  by_cases h1 : b < 0
  · rw [if_pos h1, same_join]; congr 1; simp; omega
  · rw [if_neg h1]
    by_cases h2 : b > 20
    · rw [if_pos h2, same_join]; congr 1; simp; omega
    · rw [if_neg h2]
      by_cases h3 : a < 0
      · rw [if_pos h3, same_join]; congr 1; simp; omega
      · rw [if_neg h3, same_join]; congr 1
        by_cases h4 : a > b <;> simp [h4] <;> omega

theorem loop_ends (a b : Int) (ha : a ≤ 20) (d : Nat) : ∀ (k : Nat) (c i : Int), 1 ≤ i → a + 1 ≤ i + d → d < k → ∃ r, spec_CountSets.l0 k a b c i = some r := by
  induction d with
  | zero =>
    intro k c i h0 h1 hk
    obtain ⟨k, rfl⟩ : ∃ m, k = m + 1 := ⟨k - 1, by omega⟩
    exact ⟨c, by simp only [spec_CountSets.l0]; rw [if_neg (by omega)]⟩
  | succ d ih =>
    intro k c i h0 h1 hk
    obtain ⟨k, rfl⟩ : ∃ m, k = m + 1 := ⟨k - 1, by omega⟩
    by_cases hlt : i ≤ a
    · have e : wrap64 (i + 1) = i + 1 := by unfold wrap64; omega
      simp only [spec_CountSets.l0]
      rw [if_pos hlt, if_neg (by omega), e]
      exact ih k _ (i + 1) (by omega) (by omega) (by omega)
    · exact ⟨c, by simp only [spec_CountSets.l0]; rw [if_neg hlt]⟩

theorem FnExactCountSets : laws_FnExactCountSets.Pure := by
  intro a b _ _
  have h : ∃ r, spec_CountSets.j0 30 a b (decide (¬ (0 ≤ b ∧ b ≤ 20 ∧ 0 ≤ a ∧ a ≤ b))) = some r := by
    by_cases hc : 0 ≤ b ∧ b ≤ 20 ∧ 0 ≤ a ∧ a ≤ b
    · obtain ⟨r, hr⟩ := loop_ends a b (by omega) 20 29 1 1 (by omega) (by omega) (by omega)
      exact ⟨r, by simp only [spec_CountSets.j0]; rw [if_neg (by simp [hc])]; exact hr⟩
    · exact ⟨0, by simp only [spec_CountSets.j0]; rw [if_pos (decide_eq_true hc)]⟩
  obtain ⟨r, hr⟩ := h
  refine ⟨30, ?_⟩
  unfold laws_FnExactCountSets.f
  rw [spec_is, impl_is, hr]
  simp only [Option.bind_some, if_true]

end Go.Proofs.Ytagcgafddchobaa.Pure
