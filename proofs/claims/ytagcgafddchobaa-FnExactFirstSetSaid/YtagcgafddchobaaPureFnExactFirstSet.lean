/- The program's FirstSet returns what the reference's returns, in memory of its own: for every two numbers (no condition). -/
import Derived.Test.YtagcgafddchobaaPFnExactFirstSetx2
namespace Go.Proofs.Ytagcgafddchobaa.Pure
open Go.RowKit Go.Proofs.Ytagcgafddchobaa.PFnExactFirstSet Go.Proofs.YtagcgafddchobaaW.PrintWords Go.Proofs.YtagcgafddchobaaW.PrintLast

/-- the numbers from 0 up to n -/
def upTo (n : Nat) : List Int := (List.range n).map fun (i : Nat) => (i : Int)
theorem upTo_length (n : Nat) : (upTo n).length = n := by simp [upTo]
theorem upTo_succ (n : Nat) : upTo (n + 1) = upTo n ++ [(n : Int)] := by simp [upTo, List.range_succ]

theorem spec_first (n : Nat) (hn : n ≤ 20) (d : Nat) : ∀ (k i : Nat), i + d = n → d < k → spec_l18First.l0 k n (upTo i) = some (upTo n) := by
  induction d with
  | zero =>
    intro k i h hk
    obtain ⟨k, rfl⟩ : ∃ m, k = m + 1 := ⟨k - 1, by omega⟩
    simp only [spec_l18First.l0, upTo_length]
    rw [if_neg (by omega)]
    have : i = n := by omega
    rw [this]
  | succ d ih =>
    intro k i h hk
    obtain ⟨k, rfl⟩ : ∃ m, k = m + 1 := ⟨k - 1, by omega⟩
    simp only [spec_l18First.l0, upTo_length]
    rw [if_pos (by omega), if_pos (by omega), ← upTo_succ]
    exact ih k (i + 1) (by omega) (by omega)

theorem impl_groups (n : Nat) (hn : n ≤ 20) (d : Nat) : ∀ (k i : Nat), i + d = n → d < k → impl_newGroups.l0 k (upTo i) n i = some (upTo n) := by
  induction d with
  | zero =>
    intro k i h hk
    obtain ⟨k, rfl⟩ : ∃ m, k = m + 1 := ⟨k - 1, by omega⟩
    simp only [impl_newGroups.l0, upTo_length]
    rw [if_neg (by omega)]
    have : i = n := by omega
    rw [this]
  | succ d ih =>
    intro k i h hk
    obtain ⟨k, rfl⟩ : ∃ m, k = m + 1 := ⟨k - 1, by omega⟩
    have e : wrap64 ((i : Int) + 1) = ((i + 1 : Nat) : Int) := by unfold wrap64; omega
    simp only [impl_newGroups.l0, upTo_length]
    rw [if_pos (by omega), if_pos (by omega), ← upTo_succ, e]
    exact ih k (i + 1) (by omega) (by omega)

theorem eq_self (l : List Int) (hl : l.length ≤ 20) (d : Nat) : ∀ (k i : Nat), i + d = l.length → d < k → laws_eqIntS.l0 k l l i = some true := by
  induction d with
  | zero =>
    intro k i h hk
    obtain ⟨k, rfl⟩ : ∃ m, k = m + 1 := ⟨k - 1, by omega⟩
    simp only [laws_eqIntS.l0]
    rw [if_neg (by omega)]
  | succ d ih =>
    intro k i h hk
    obtain ⟨k, rfl⟩ : ∃ m, k = m + 1 := ⟨k - 1, by omega⟩
    have e : wrap64 ((i : Int) + 1) = ((i + 1 : Nat) : Int) := by unfold wrap64; omega
    simp only [laws_eqIntS.l0]
    rw [if_pos (by omega), if_pos (by omega), if_pos (by omega), if_pos True.intro, e]
    exact ih k (i + 1) (by omega) (by omega)

/-- n numbers from m on -/
def marks (m : Int) (n : Nat) : List Int := (List.range n).map fun (i : Nat) => m + (i : Int)
theorem marks_length (m : Int) (n : Nat) : (marks m n).length = n := by simp [marks]
theorem marks_get (m : Int) (n i : Nat) (h : i < n) : rd (marks m n) (i : Int) = m + i := by
  unfold rd marks
  rw [Int.toNat_natCast, List.getD_eq_getElem?_getD, List.getElem?_map, List.getElem?_range h]; rfl

theorem mark_all (n : Nat) (hn : n ≤ 20) (d : Nat) : ∀ (k i : Nat) (l : List Int), i + d = n → d < k → l.length = n →
    laws_markIntS.l0 k (marks 1 i ++ l.drop i) (1 + (i : Int)) i = some (1 + (n : Int), marks 1 n) := by
  induction d with
  | zero =>
    intro k i l h hk hl
    obtain ⟨k, rfl⟩ : ∃ m, k = m + 1 := ⟨k - 1, by omega⟩
    have hi : i = n := by omega
    subst hi
    simp only [laws_markIntS.l0]
    rw [if_neg (by simp [marks_length]; omega), List.drop_of_length_le (by omega), List.append_nil]
  | succ d ih =>
    intro k i l h hk hl
    obtain ⟨k, rfl⟩ : ∃ m, k = m + 1 := ⟨k - 1, by omega⟩
    have e : wrap64 ((i : Int) + 1) = ((i + 1 : Nat) : Int) := by unfold wrap64; omega
    have e2 : wrap64 (1 + (i : Int) + 1) = 1 + ((i + 1 : Nat) : Int) := by unfold wrap64; omega
    simp only [laws_markIntS.l0]
    rw [if_pos (by simp [marks_length]; omega), if_pos (by omega), e, e2, Int.toNat_natCast]
    have hs : (marks 1 i ++ l.drop i).set i (1 + (i : Int)) = marks 1 (i + 1) ++ l.drop (i + 1) := by
      rw [List.set_append_right _ _ (by rw [marks_length]; omega), marks_length, Nat.sub_self, List.drop_eq_getElem_cons (by omega), List.set_cons_zero]
      simp [marks, List.range_succ]
    rw [hs]
    exact ih k (i + 1) l (by omega) (by omega) hl

theorem held_all (n : Nat) (hn : n ≤ 20) (d : Nat) : ∀ (k i : Nat), i + d = n → d < k → laws_heldIntS.l0 k (marks 1 n) (1 + (i : Int)) i = some (1 + (n : Int)) := by
  induction d with
  | zero =>
    intro k i h hk
    obtain ⟨k, rfl⟩ : ∃ m, k = m + 1 := ⟨k - 1, by omega⟩
    simp only [laws_heldIntS.l0, marks_length]
    rw [if_neg (by omega)]
    have : i = n := by omega
    rw [this]
  | succ d ih =>
    intro k i h hk
    obtain ⟨k, rfl⟩ : ∃ m, k = m + 1 := ⟨k - 1, by omega⟩
    have e : wrap64 ((i : Int) + 1) = ((i + 1 : Nat) : Int) := by unfold wrap64; omega
    have e2 : wrap64 (1 + (i : Int) + 1) = 1 + ((i + 1 : Nat) : Int) := by unfold wrap64; omega
    simp only [laws_heldIntS.l0, marks_length]
    rw [if_pos (by omega), if_pos (by omega), if_pos (marks_get 1 n i (by omega)), e, e2]
    exact ih k (i + 1) (by omega) (by omega)

theorem spec_yes (n m : Nat) (h : n ≤ m) (hm : m ≤ 20) : spec_FirstSet.f 30 n m = some (upTo n, true) := by
  unfold spec_FirstSet.f spec_l01In.f spec_l18First.f
  rw [if_pos (by omega)]
  simp only [Option.bind_some]
  rw [if_pos (by simp; omega), if_pos (by omega)]
  simp only [Option.bind_some]
  rw [if_pos (by simp; omega), show ([] : List Int) = upTo 0 from rfl, spec_first n (by omega) n 30 0 (by omega) (by omega)]
  rfl

theorem impl_yes (n m : Nat) (h : n ≤ m) (hm : m ≤ 20) : impl_FirstSet.f 30 n m = some (upTo n, true) := by
  unfold impl_FirstSet.f impl_newGroups.f
  rw [if_neg (by omega), if_neg (by omega), if_neg (by omega), if_neg (by omega), show ([] : List Int) = upTo 0 from rfl]
  have := impl_groups n (by omega) n 30 0 (by omega) (by omega)
  rw [show ((0 : Nat) : Int) = 0 from rfl] at this
  rw [this]
  rfl

theorem spec_no (a b : Int) (h : ¬ (0 ≤ b ∧ b ≤ 20 ∧ 0 ≤ a ∧ a ≤ b)) : spec_FirstSet.f 30 a b = some (upTo 0, false) := by
  unfold spec_FirstSet.f spec_l01In.f
  by_cases h1 : b ≥ 0
  · rw [if_pos h1]; simp only [Option.bind_some]
    by_cases h2 : b ≤ 20
    · rw [if_pos (by simpa using h2)]
      by_cases h3 : a ≥ 0
      · rw [if_pos h3]; simp only [Option.bind_some]
        rw [if_neg (by simp; omega)]; rfl
      · rw [if_neg h3]; simp only [Option.bind_some]
        rw [if_neg (by simp)]; rfl
    · rw [if_neg (by simpa using h2)]; rfl
  · rw [if_neg h1]; simp only [Option.bind_some]
    rw [if_neg (by simp)]; rfl

theorem impl_no (a b : Int) (h : ¬ (0 ≤ b ∧ b ≤ 20 ∧ 0 ≤ a ∧ a ≤ b)) : impl_FirstSet.f 30 a b = some (upTo 0, false) := by
  unfold impl_FirstSet.f
  by_cases h1 : b < 0
  · rw [if_pos h1]; rfl
  · rw [if_neg h1]
    by_cases h2 : b > 20
    · rw [if_pos h2]; rfl
    · rw [if_neg h2]
      by_cases h3 : a < 0
      · rw [if_pos h3]; rfl
      · rw [if_neg h3, if_pos (by omega)]; rfl

theorem eq_set (n : Nat) (hn : n ≤ 20) : laws_eqIntS.f 30 (upTo n) (upTo n) = some true := by
  unfold laws_eqIntS.f
  rw [if_pos rfl]
  exact eq_self (upTo n) (by rw [upTo_length]; exact hn) n 30 0 (by rw [upTo_length]; omega) (by omega)

theorem marked (n : Nat) (hn : n ≤ 20) : laws_markIntS.f 30 (upTo n) 1 = some (1 + (n : Int), marks 1 n) := by
  unfold laws_markIntS.f
  have := mark_all n hn n 30 0 (upTo n) (by omega) (by omega) (upTo_length n)
  exact this

theorem held (n : Nat) (hn : n ≤ 20) : laws_heldIntS.f 30 (marks 1 n) 1 = some (1 + (n : Int)) := by
  unfold laws_heldIntS.f
  exact held_all n hn n 30 0 (by omega) (by omega)

theorem both_law (a b : Int) (n : Nat) (hn : n ≤ 20) (t : Bool) (hs : spec_FirstSet.f 30 a b = some (upTo n, t)) (hi : impl_FirstSet.f 30 a b = some (upTo n, t)) : laws_FnExactFirstSet.f 31 a b = some true := by
  have hs' : spec_FirstSet.f 31 a b = some (upTo n, t) := spec_FirstSet.mono a b 30 _ hs
  have hi' : impl_FirstSet.f 31 a b = some (upTo n, t) := impl_FirstSet.mono a b 30 _ hi
  have he : laws_eqIntS.f 31 (upTo n) (upTo n) = some true := laws_eqIntS.mono _ _ 30 _ (eq_set n hn)
  obtain ⟨k, hk⟩ : ∃ k, k = 30 := ⟨30, rfl⟩
  unfold laws_FnExactFirstSet.f
  rw [hs', hi']
  simp only [Option.bind_some]
  rw [he]
  simp only [Option.bind_some]
  rw [if_pos True.intro, bne_self_eq_false]
  simp only [laws_FnExactFirstSet.j0]
  rw [if_neg (by simp), marked n hn]
  simp only [Option.bind_some]
  rw [held n hn]
  simp only [Option.bind_some]
  rw [if_neg (by omega), if_pos True.intro, hi]
  simp only [Option.bind_some]
  rw [eq_set n hn]
  simp only [Option.bind_some]
  rw [if_pos True.intro, bne_self_eq_false]
  have hh : laws_heldIntS.f 29 (marks 1 n) 1 = some (1 + (n : Int)) := by
    unfold laws_heldIntS.f
    exact held_all n hn n 29 0 (by omega) (by omega)
  simp only [laws_FnExactFirstSet.j1]
  rw [if_neg (by simp), hh]
  simp only [Option.bind_some]
  rw [if_neg (by omega), if_pos True.intro]

theorem FnExactFirstSet : laws_FnExactFirstSet.Pure := by
  intro a b _ _
  refine ⟨31, ?_⟩
  by_cases h : 0 ≤ b ∧ b ≤ 20 ∧ 0 ≤ a ∧ a ≤ b
  · obtain ⟨n, rfl⟩ : ∃ n : Nat, a = n := ⟨a.toNat, by omega⟩
    obtain ⟨m, rfl⟩ : ∃ m : Nat, b = m := ⟨b.toNat, by omega⟩
    exact both_law n m n (by omega) true (spec_yes n m (by omega) (by omega)) (impl_yes n m (by omega) (by omega))
  · exact both_law a b 0 (by omega) false (spec_no a b h) (impl_no a b h)

end Go.Proofs.Ytagcgafddchobaa.Pure
