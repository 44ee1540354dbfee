/- The program's SumOfText returns what the reference's returns: for every text (no condition; a text longer than 2^20 bytes passes by the law's own guard). -/
import Derived.Test.YtagcgafddchobaaPFnExactSumOfTextx1
namespace Go.Proofs.Ytagcgafddchobaa.Pure
open Go.RowKit Go.Proofs.Ytagcgafddchobaa.PFnExactSumOfText Go.Proofs.YtagcgafddchobaaW.PrintWords Go.Proofs.YtagcgafddchobaaW.PrintLast

theorem same_loop : ∀ (k : Nat) (s : ByteArray) (h i : Int), impl_SumOfText.l0 k s h i = spec_SumOfText.l0 k s h i := by
  intro k
  induction k with
  | zero => intro s h i; simp only [impl_SumOfText.l0, spec_SumOfText.l0]
  | succ k ih => intro s h i; simp only [impl_SumOfText.l0, spec_SumOfText.l0, ih]

theorem same_sum (k : Nat) (s : ByteArray) : impl_SumOfText.f k s = spec_SumOfText.f k s := same_loop k s 7 0

theorem loop_ends (s : ByteArray) (hs : s.size ≤ 1048576) (d : Nat) : ∀ (k : Nat) (h i : Int), 0 ≤ i → (s.size : Int) ≤ i + d → d < k → ∃ r, spec_SumOfText.l0 k s h i = some r := by
  induction d with
  | zero =>
    intro k h i h0 h1 hk
    obtain ⟨k, rfl⟩ : ∃ m, k = m + 1 := ⟨k - 1, by omega⟩
    exact ⟨h, by simp only [spec_SumOfText.l0]; rw [if_neg (by omega)]⟩
  | succ d ih =>
    intro k h i h0 h1 hk
    obtain ⟨k, rfl⟩ : ∃ m, k = m + 1 := ⟨k - 1, by omega⟩
    by_cases hlt : i < (s.size : Int)
    · have e : wrap64 (i + 1) = i + 1 := by unfold wrap64; omega
      simp only [spec_SumOfText.l0]
      rw [if_pos hlt, if_pos h0, e]
      exact ih k _ (i + 1) (by omega) (by omega) (by omega)
    · exact ⟨h, by simp only [spec_SumOfText.l0]; rw [if_neg hlt]⟩

theorem FnExactSumOfText : laws_FnExactSumOfText.Pure := by
  intro s _
  by_cases hb : (s.size : Int) > 1048576
  · exact ⟨0, by unfold laws_FnExactSumOfText.f; rw [if_pos hb]⟩
  · obtain ⟨r, hr⟩ := loop_ends s (by omega) s.size (s.size + 1) 7 0 (by omega) (by omega) (by omega)
    refine ⟨s.size + 1, ?_⟩
    unfold laws_FnExactSumOfText.f
    rw [if_neg hb, same_sum]
    unfold spec_SumOfText.f
    rw [hr]
    simp only [Option.bind_some]
    rw [if_pos True.intro]

end Go.Proofs.Ytagcgafddchobaa.Pure
