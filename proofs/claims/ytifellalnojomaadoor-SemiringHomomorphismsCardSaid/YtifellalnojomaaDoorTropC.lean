/- SemiringTropical: the two long regions that draw their order. -/
import Derived.Test.YtifellalnojomaaDoorRefs
import Derived.Test.YtifellalnojomaaDoorKnown
namespace Go.Proofs.YtifellalnojomaaDoor
open Go.RowKit Go.PL Go.Maps

/-- every contract that the two regions lean on -/
structure TropC (k : Bool) (n : Int) (k' : Bool) (n' : Int) (a1 : Bool) (z1 : Int) (b1 : Bool) (y1 : Int) (a2 : Bool) (z2 : Int) (b2 : Bool) (y2 : Int) (a3 : Bool) (z3 : Int) (d : Bool) : Prop where
  B21 : Hid (∀ u, Calls Tryd.prog 21 #[.agg #[], .agg #[.bool k, .int .i64 n], .agg #[.bool k', .int .i64 n']] u fun e w' => e = .returned (.agg #[.bool a1, .int .i64 z1]) ∧ Upto [] u w')
  B20a : Hid (∀ u, Calls Tryd.prog 20 #[.agg #[.bool a1, .int .i64 z1]] u fun e w' => e = .returned (.agg #[.bool a1, .int .i64 z1]) ∧ Upto [] u w')
  B22a : Hid (∀ u, Calls Tryd.prog 22 #[.bool false, .agg #[.bool k, .int .i64 n], .agg #[.bool k', .int .i64 n']] u fun e w' => e = .returned (.agg #[.bool b1, .int .i64 y1]) ∧ Upto [] u w')
  B19a : Hid (∀ u, Calls Tryd.prog 19 #[.agg #[.bool a1, .int .i64 z1], .agg #[.bool b1, .int .i64 y1]] u fun e w' => e = .returned (.bool true) ∧ Upto [] u w')
  B23 : Hid (∀ u, Calls Tryd.prog 23 #[.agg #[], .agg #[.bool k, .int .i64 n], .agg #[.bool k', .int .i64 n']] u fun e w' => e = .returned (.agg #[.bool a2, .int .i64 z2]) ∧ Upto [] u w')
  B20b : Hid (∀ u, Calls Tryd.prog 20 #[.agg #[.bool a2, .int .i64 z2]] u fun e w' => e = .returned (.agg #[.bool a2, .int .i64 z2]) ∧ Upto [] u w')
  B22b : Hid (∀ u, Calls Tryd.prog 22 #[.bool true, .agg #[.bool k, .int .i64 n], .agg #[.bool k', .int .i64 n']] u fun e w' => e = .returned (.agg #[.bool b2, .int .i64 y2]) ∧ Upto [] u w')
  B19b : Hid (∀ u, Calls Tryd.prog 19 #[.agg #[.bool a2, .int .i64 z2], .agg #[.bool b2, .int .i64 y2]] u fun e w' => e = .returned (.bool true) ∧ Upto [] u w')
  B24 : Hid (∀ u, Calls Tryd.prog 24 #[.agg #[], .agg #[.bool k, .int .i64 n], .agg #[.bool k', .int .i64 n']] u fun e w' => e = .returned (.agg #[.bool a3, .int .i64 z3]) ∧ Upto [] u w')
  B20c : Hid (∀ u, Calls Tryd.prog 20 #[.agg #[.bool a3, .int .i64 z3]] u fun e w' => e = .returned (.agg #[.bool a3, .int .i64 z3]) ∧ Upto [] u w')
  B25 : Hid (∀ u, Calls Tryd.prog 25 #[.agg #[.bool k, .int .i64 n], .agg #[.bool k', .int .i64 n']] u fun e w' => e = .returned (.agg #[.bool a3, .int .i64 z3]) ∧ Upto [] u w')
  B19c : Hid (∀ u, Calls Tryd.prog 19 #[.agg #[.bool a3, .int .i64 z3], .agg #[.bool a3, .int .i64 z3]] u fun e w' => e = .returned (.bool true) ∧ Upto [] u w')
  B26 : Hid (∀ u, Calls Tryd.prog 26 #[.agg #[], .agg #[.bool k, .int .i64 n], .agg #[.bool k', .int .i64 n']] u fun e w' => e = .returned (.agg #[.bool a3, .int .i64 z3]) ∧ Upto [] u w')
  B27 : Hid (∀ u, Calls Tryd.prog 27 #[.agg #[], .agg #[.bool k, .int .i64 n], .agg #[.bool k', .int .i64 n']] u fun e w' => e = .returned (.bool d) ∧ Upto [] u w')
  B19d : Hid (∀ u, Calls Tryd.prog 19 #[.agg #[.bool k, .int .i64 n], .agg #[.bool k', .int .i64 n']] u fun e w' => e = .returned (.bool d) ∧ Upto [] u w')
  B28 : Hid (∀ u, Calls Tryd.prog 28 #[.agg #[], .agg #[.bool k, .int .i64 n], .agg #[.bool k', .int .i64 n']] u fun e w' => e = .returned (.bool d) ∧ Upto [] u w')
  B29 : Hid (∀ u, Calls Tryd.prog 29 #[.agg #[]] u fun e w' => e = .returned (.agg #[.bool false, .int .i64 0]) ∧ Upto [] u w')
  B30 : Hid (∀ u, Calls Tryd.prog 30 #[.agg #[]] u fun e w' => e = .returned (.agg #[.bool false, .int .i64 0]) ∧ Upto [] u w')
  B31 : Hid (∀ u, Calls Tryd.prog 31 #[.agg #[]] u fun e w' => e = .returned (.agg #[.bool true, .int .i64 0]) ∧ Upto [] u w')
  B32 : Hid (∀ u, Calls Tryd.prog 32 #[.agg #[]] u fun e w' => e = .returned (.agg #[.bool true, .int .i64 0]) ∧ Upto [] u w')
  B16 : Hid (∀ u, Calls Tryd.prog 16 #[] u fun e w' => e = .returned (.bool true) ∧ Upto [] u w')

theorem tropC (k : Bool) (n : Int) (k' : Bool) (n' : Int) : ∃ a1 z1 b1 y1 a2 z2 b2 y2 a3 z3 d, TropC k n k' n' a1 z1 b1 y1 a2 z2 b2 y2 a3 z3 d ∧ (a1 = true ∨ (a1 = false ∧ z1 = 0)) := by
  have s1 := min_same (k, n) (k', n')
  have s2 := max_same (k, n) (k', n')
  have s3 := mul_same (k, n) (k', n')
  have o1 := or_zero (k, n) (k', n') (decide (n < n'))
  have A1 := minAdd_calls k n k' n'
  have A2 := maxAdd_calls k n k' n'
  have A3 := minMul_calls k n k' n'
  have A4 := maxMul_calls k n k' n'
  have A5 := addR_calls false (k, n) (k', n')
  have A6 := addR_calls true (k, n) (k', n')
  have A7 := mulR_calls (k, n) (k', n')
  have A8 := minSame_calls (k, n) (k', n')
  have A9 := maxSame_calls (k, n) (k', n')
  have A10 := sameR_calls (k, n) (k', n')
  simp only at s1 s2
  generalize orF (k, n) (k', n') (decide (n < n')) = m1 at *
  generalize orF (k, n) (k', n') (decide (n > n')) = m2 at *
  generalize andF (k, n) (k', n') = m3 at *
  generalize addR false (k, n) (k', n') = r1 at *
  generalize addR true (k, n) (k', n') = r2 at *
  generalize sameR (k, n) (k', n') = d at *
  obtain ⟨a1, z1⟩ := m1
  obtain ⟨a2, z2⟩ := m2
  obtain ⟨a3, z3⟩ := m3
  obtain ⟨b1, y1⟩ := r1
  obtain ⟨b2, y2⟩ := r2
  have S1 := sameR_calls (a1, z1) (b1, y1)
  have S2 := sameR_calls (a2, z2) (b2, y2)
  have S3 := sameR_calls (a3, z3) (a3, z3)
  rw [s1] at S1
  rw [s2] at S2
  rw [s3] at S3
  refine ⟨a1, z1, b1, y1, a2, z2, b2, y2, a3, z3, d, ⟨A1, back_calls (a1, z1), A5, S1, A2, back_calls (a2, z2), A6, S2, A3, back_calls (a3, z3), A7, S3, A4, A8, A10, A9, minZero_calls, maxZero_calls, minOne_calls, maxOne_calls, known_calls⟩, ?_⟩
  rcases o1 with h | h
  · exact Or.inl h
  · exact Or.inr (by simpa using h)
end Go.Proofs.YtifellalnojomaaDoor
