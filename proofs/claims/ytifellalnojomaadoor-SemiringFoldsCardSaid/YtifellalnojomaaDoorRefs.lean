/- The reference's costs; Own, Back; zero and one. -/
import Derived.Test.YtifellalnojomaaDoorCost
namespace Go.Proofs.YtifellalnojomaaDoor
open Go.RowKit Go.PL Go.Maps

def rightF (a : Bool × Int) : Bool := !a.1 || (decide (-1099511627776 ≤ a.2) && decide (a.2 ≤ 1099511627776))
def sameR (a b : Bool × Int) : Bool := a.1 == b.1 && (!a.1 || a.2 == b.2)
def addR (mx : Bool) (a b : Bool × Int) : Bool × Int := if !a.1 && !b.1 then (false, 0) else if !a.1 then b else if !b.1 then a else if decide (b.2 < a.2) != mx then b else a

theorem plain_same (a b : Bool × Int) : sameF a b = sameR a b := by
  obtain ⟨k, n⟩ := a
  obtain ⟨k', n'⟩ := b
  cases k <;> cases k' <;> simp [sameF, sameR, plainF]
  rw [Bool.eq_iff_iff]
  simp
theorem min_same (a b : Bool × Int) : sameR (orF a b (decide (a.2 < b.2))) (addR false a b) = true := by
  obtain ⟨k, n⟩ := a
  obtain ⟨k', n'⟩ := b
  cases k <;> cases k' <;> simp [orF, addR, plainF, sameR]
  by_cases h : n < n' <;> by_cases h' : n' < n <;> simp [h, h'] <;> omega
theorem max_same (a b : Bool × Int) : sameR (orF a b (decide (a.2 > b.2))) (addR true a b) = true := by
  obtain ⟨k, n⟩ := a
  obtain ⟨k', n'⟩ := b
  cases k <;> cases k' <;> simp [orF, addR, plainF, sameR]
  by_cases h : n' < n <;> simp [h] <;> split <;> simp <;> omega
theorem mul_same (a b : Bool × Int) : sameR (andF a b) (andF a b) = true := by simp [sameR]
theorem or_zero (a b : Bool × Int) (c : Bool) : (orF a b c).1 = true ∨ orF a b c = (false, 0) := by
  obtain ⟨k, n⟩ := a
  obtain ⟨k', n'⟩ := b
  cases k <;> cases k' <;> cases c <;> simp [orF, plainF]

set_option maxRecDepth 100000 in
set_option maxHeartbeats 400000 in
theorem own_calls (k : Bool) (n : Int) (w : World) : Calls Tryd.prog 18 #[cv (k, n)] w fun e w' => e = .returned (cv (k, n)) ∧ w' = (w.alloc (.cells #[.bool k, .int .i64 n] 27)).alloc (.cells #[.bool k, .int .i64 n] 32) := by
  simp only [cv]
  go_enter Tryd.func18, Tryd.ntmps18
  go_wp2
  refine bodyPost_ret (v := cv (k, n)) (by simp [results, Tryd.results18, go_sem]) rfl ⟨rfl, rfl⟩

set_option maxRecDepth 100000 in
set_option maxHeartbeats 400000 in
theorem back_calls (a : Bool × Int) (w : World) : Calls Tryd.prog 20 #[cv a] w fun e w' => e = .returned (cv a) ∧ Upto [] w w' := by
  obtain ⟨k, n⟩ := a
  simp only [cv]
  go_enter Tryd.func20, Tryd.ntmps20
  go_wp2
  refine bodyPost_ret (v := cv (k, n)) (by simp [results, Tryd.results20, go_sem]) rfl ⟨rfl, by (repeat (first | exact Upto.refl _ _ | assumption | refine Upto.setCell ?_ (Or.inr (by first | (simp; done) | (simp; omega) | (simp only []; omega))) _ | refine Upto.alloc ?_ _ | refine Upto.drew ?_))⟩

set_option maxRecDepth 100000 in
set_option maxHeartbeats 400000 in
theorem sameR_calls (a b : Bool × Int) (w : World) : Calls Tryd.prog 19 #[cv a, cv b] w fun e w' => e = .returned (.bool (sameR a b)) ∧ Upto [] w w' := by
  obtain ⟨k, n⟩ := a
  obtain ⟨k', n'⟩ := b
  simp only [cv]
  go_enter Tryd.func19, Tryd.ntmps19
  cases k <;> cases k'
  all_goals
    go_wp2
    go_ret
    exact ⟨ret_bool (by simp [sameR]), by (repeat (first | exact Upto.refl _ _ | assumption | refine Upto.setCell ?_ (Or.inr (by first | (simp; done) | (simp; omega) | (simp only []; omega))) _ | refine Upto.alloc ?_ _ | refine Upto.drew ?_))⟩

set_option maxRecDepth 100000 in
set_option maxHeartbeats 400000 in
theorem right_calls (a : Bool × Int) (w : World) : Calls Tryd.prog 17 #[cv a] w fun e w' => e = .returned (.bool (rightF a)) ∧ Upto [] w w' := by
  obtain ⟨k, n⟩ := a
  simp only [cv]
  go_enter Tryd.func17, Tryd.ntmps17
  cases k
  · go_wp2
    go_ret
    exact ⟨ret_bool (by simp [rightF]), by (repeat (first | exact Upto.refl _ _ | assumption | refine Upto.setCell ?_ (Or.inr (by first | (simp; done) | (simp; omega) | (simp only []; omega))) _ | refine Upto.alloc ?_ _ | refine Upto.drew ?_))⟩
  · by_cases h1 : (-1099511627776 : Int) ≤ n
    · have d1 : decide ((-1099511627776 : Int) ≤ n) = true := by simpa using h1
      go_wp2
      go_ret
      exact ⟨ret_bool (by simp [rightF, h1]; try omega), by (repeat (first | exact Upto.refl _ _ | assumption | refine Upto.setCell ?_ (Or.inr (by first | (simp; done) | (simp; omega) | (simp only []; omega))) _ | refine Upto.alloc ?_ _ | refine Upto.drew ?_))⟩
    · have d1 : decide ((-1099511627776 : Int) ≤ n) = false := by simpa using h1
      go_wp2
      go_ret
      exact ⟨ret_bool (by simp [rightF, h1]; try omega), by (repeat (first | exact Upto.refl _ _ | assumption | refine Upto.setCell ?_ (Or.inr (by first | (simp; done) | (simp; omega) | (simp only []; omega))) _ | refine Upto.alloc ?_ _ | refine Upto.drew ?_))⟩

set_option maxRecDepth 100000 in
set_option maxHeartbeats 1000000 in
theorem addR_calls (mx : Bool) (a b : Bool × Int) (w : World) : Calls Tryd.prog 22 #[.bool mx, cv a, cv b] w fun e w' => e = .returned (cv (addR mx a b)) ∧ Upto [] w w' := by
  obtain ⟨k, n⟩ := a
  obtain ⟨k', n'⟩ := b
  simp only [cv]
  go_enter Tryd.func22, Tryd.ntmps22
  cases k <;> cases k' <;> cases mx
  all_goals
    by_cases h : n' < n
    all_goals
      go_wp2
      refine bodyPost_ret (v := cv (addR _ _ _)) (by simp [results, Tryd.results22, go_sem, addR, h] <;> (split <;> simp <;> omega)) rfl ⟨rfl, by (repeat (first | exact Upto.refl _ _ | assumption | refine Upto.setCell ?_ (Or.inr (by first | (simp; done) | (simp; omega) | (simp only []; omega))) _ | refine Upto.alloc ?_ _ | refine Upto.drew ?_))⟩

set_option maxRecDepth 100000 in
set_option maxHeartbeats 1000000 in
theorem mulR_calls (a b : Bool × Int) (w : World) : Calls Tryd.prog 25 #[cv a, cv b] w fun e w' => e = .returned (cv (andF a b)) ∧ Upto [] w w' := by
  obtain ⟨k, n⟩ := a
  obtain ⟨k', n'⟩ := b
  simp only [cv]
  go_enter Tryd.func25, Tryd.ntmps25
  cases k <;> cases k'
  all_goals
    go_wp2
    refine bodyPost_ret (v := cv (andF _ _)) (by simp [results, Tryd.results25, go_sem, andF]) rfl ⟨rfl, by (repeat (first | exact Upto.refl _ _ | assumption | refine Upto.setCell ?_ (Or.inr (by first | (simp; done) | (simp; omega) | (simp only []; omega))) _ | refine Upto.alloc ?_ _ | refine Upto.drew ?_))⟩

set_option maxRecDepth 100000 in
set_option maxHeartbeats 400000 in
theorem minZero_calls (w : World) : Calls Tryd.prog 29 #[.agg #[]] w fun e w' => e = .returned (cv (false, 0)) ∧ Upto [] w w' := by
  go_enter Tryd.func29, Tryd.ntmps29
  go_wp2
  refine bodyPost_ret (v := cv (false, 0)) (by simp [results, Tryd.results29, go_sem]) rfl ⟨rfl, by (repeat (first | exact Upto.refl _ _ | assumption | refine Upto.setCell ?_ (Or.inr (by first | (simp; done) | (simp; omega) | (simp only []; omega))) _ | refine Upto.alloc ?_ _ | refine Upto.drew ?_))⟩
set_option maxRecDepth 100000 in
set_option maxHeartbeats 400000 in
theorem maxZero_calls (w : World) : Calls Tryd.prog 30 #[.agg #[]] w fun e w' => e = .returned (cv (false, 0)) ∧ Upto [] w w' := by
  go_enter Tryd.func30, Tryd.ntmps30
  go_wp2
  refine bodyPost_ret (v := cv (false, 0)) (by simp [results, Tryd.results30, go_sem]) rfl ⟨rfl, by (repeat (first | exact Upto.refl _ _ | assumption | refine Upto.setCell ?_ (Or.inr (by first | (simp; done) | (simp; omega) | (simp only []; omega))) _ | refine Upto.alloc ?_ _ | refine Upto.drew ?_))⟩
set_option maxRecDepth 100000 in
set_option maxHeartbeats 400000 in
theorem minOne_calls (w : World) : Calls Tryd.prog 31 #[.agg #[]] w fun e w' => e = .returned (cv (true, 0)) ∧ Upto [] w w' := by
  go_enter Tryd.func31, Tryd.ntmps31
  go_wp2
  refine bodyPost_ret (v := cv (true, 0)) (by simp [results, Tryd.results31, go_sem]) rfl ⟨rfl, by (repeat (first | exact Upto.refl _ _ | assumption | refine Upto.setCell ?_ (Or.inr (by first | (simp; done) | (simp; omega) | (simp only []; omega))) _ | refine Upto.alloc ?_ _ | refine Upto.drew ?_))⟩
set_option maxRecDepth 100000 in
set_option maxHeartbeats 400000 in
theorem maxOne_calls (w : World) : Calls Tryd.prog 32 #[.agg #[]] w fun e w' => e = .returned (cv (true, 0)) ∧ Upto [] w w' := by
  go_enter Tryd.func32, Tryd.ntmps32
  go_wp2
  refine bodyPost_ret (v := cv (true, 0)) (by simp [results, Tryd.results32, go_sem]) rfl ⟨rfl, by (repeat (first | exact Upto.refl _ _ | assumption | refine Upto.setCell ?_ (Or.inr (by first | (simp; done) | (simp; omega) | (simp only []; omega))) _ | refine Upto.alloc ?_ _ | refine Upto.drew ?_))⟩

set_option maxRecDepth 100000 in
set_option maxHeartbeats 400000 in
theorem minSame_calls (a b : Bool × Int) (w : World) : Calls Tryd.prog 27 #[.agg #[], cv a, cv b] w fun e w' => e = .returned (.bool (sameR a b)) ∧ Upto [] w w' := by
  rw [← plain_same]
  obtain ⟨k, n⟩ := a
  obtain ⟨k', n'⟩ := b
  simp only [cv]
  have H := Lib.hid (same_calls k n k' n')
  go_enter Tryd.func27, Tryd.ntmps27
  go_wp2_with fail
  refine (H.out _).mono ?_
  rintro e w1 ⟨rfl, hu1⟩
  go_wp2
  go_ret
  exact ⟨rfl, Upto.trans_ext (by (repeat (first | exact Upto.refl _ _ | assumption | refine Upto.setCell ?_ (Or.inr (by first | (simp; done) | (simp; omega) | (simp only []; omega))) _ | refine Upto.alloc ?_ _ | refine Upto.drew ?_))) hu1⟩
set_option maxRecDepth 100000 in
set_option maxHeartbeats 400000 in
theorem maxSame_calls (a b : Bool × Int) (w : World) : Calls Tryd.prog 28 #[.agg #[], cv a, cv b] w fun e w' => e = .returned (.bool (sameR a b)) ∧ Upto [] w w' := by
  rw [← plain_same]
  obtain ⟨k, n⟩ := a
  obtain ⟨k', n'⟩ := b
  simp only [cv]
  have H := Lib.hid (same_calls k n k' n')
  go_enter Tryd.func28, Tryd.ntmps28
  go_wp2_with fail
  refine (H.out _).mono ?_
  rintro e w1 ⟨rfl, hu1⟩
  go_wp2
  go_ret
  exact ⟨rfl, Upto.trans_ext (by (repeat (first | exact Upto.refl _ _ | assumption | refine Upto.setCell ?_ (Or.inr (by first | (simp; done) | (simp; omega) | (simp only []; omega))) _ | refine Upto.alloc ?_ _ | refine Upto.drew ?_))) hu1⟩
end Go.Proofs.YtifellalnojomaaDoor
