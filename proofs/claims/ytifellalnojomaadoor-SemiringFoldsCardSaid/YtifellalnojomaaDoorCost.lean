/- Costs. -/
import Derived.Test.YtifellalnojomaaDoorLib
import Derived.Test.YtifellalnojomaaDoorProg
import Derived.Test.YtifellalnojomaaDoorExt
import Derived.BigQuiet
import Derived.Deep.DeepCutAuto
import Derived.Deep.CutBlock
namespace Go.Proofs.YtifellalnojomaaDoor
open Go.RowKit Go.PL Go.Maps

abbrev cv (p : Bool × Int) : Value := .agg #[.bool p.1, .int .i64 p.2]
def plainF (p : Bool × Int) : Bool × Int := if p.1 then p else (false, 0)
def orF (a b : Bool × Int) (better : Bool) : Bool × Int := if !b.1 || (a.1 && better) then plainF a else b
def andF (a b : Bool × Int) : Bool × Int := if !a.1 || !b.1 then (false, 0) else (true, wrap64 (a.2 + b.2))
def sameF (a b : Bool × Int) : Bool := decide (plainF a = plainF b)

set_option maxRecDepth 100000 in
set_option maxHeartbeats 400000 in
theorem plain_calls (k : Bool) (n : Int) (w : World) : Calls Tryd.prog 96 #[cv (k, n)] w fun e w' => e = .returned (cv (plainF (k, n))) ∧ Upto [] w w' := by
  simp only [cv]
  go_enter Tryd.func96, Tryd.ntmps96
  cases k
  all_goals go_wp2
  all_goals refine bodyPost_ret (v := cv (plainF _)) (by simp [results, Tryd.results96, go_sem, plainF]) rfl ⟨rfl, by (repeat (first | exact Upto.refl _ _ | assumption | refine Upto.setCell ?_ (Or.inr (by first | (simp; done) | (simp; omega) | (simp only []; omega))) _ | refine Upto.alloc ?_ _ | refine Upto.drew ?_))⟩

set_option maxRecDepth 100000 in
set_option maxHeartbeats 400000 in
theorem or_calls (k : Bool) (n : Int) (k' : Bool) (n' : Int) (b : Bool) (w : World) : Calls Tryd.prog 65 #[cv (k, n), cv (k', n'), .bool b] w fun e w' => e = .returned (cv (orF (k, n) (k', n') b)) ∧ Upto [] w w' := by
  simp only [cv]
  have H := Lib.hid plain_calls
  have hu : Upto [] w (((w.alloc (.cells #[.bool k, .int .i64 n] 32)).alloc (.cells #[.bool k', .int .i64 n'] 32)).alloc (.cells #[.bool false, .int .i64 0] 32)) := (((Upto.refl [] w).alloc _).alloc _).alloc _
  have b2 := new_at2 w (.cells #[.bool k, .int .i64 n] 32) (.cells #[.bool k', .int .i64 n'] 32) (.cells #[.bool false, .int .i64 0] 32)
  go_enter Tryd.func65, Tryd.ntmps65
  cases k <;> cases k' <;> cases b
  all_goals
    go_wp2_with fail
    first
      | (refine bodyPost_ret (v := cv (orF _ _ _)) (by simp [results, Tryd.results65, go_sem, orF, plainF]) rfl ⟨rfl, by (repeat (first | exact Upto.refl _ _ | assumption | refine Upto.setCell ?_ (Or.inr (by first | (simp; done) | (simp; omega) | (simp only []; omega))) _ | refine Upto.alloc ?_ _ | refine Upto.drew ?_))⟩; done)
      | (refine (H.out _ _ _).mono ?_
         rintro e w3 ⟨rfl, hu3⟩
         have c2 := hu3.at b2 (by simp)
         have q0 := cell_of c2 0
         have q1 := cell_of c2 1
         have f0 := free_of c2 0
         have f1 := free_of c2 1
         have hu4 := hu.trans_ext hu3
         simp at q0 q1
         clear hu3 c2 b2 hu H
         go_wp2
         refine bodyPost_ret (v := cv (orF _ _ _)) (by simp [results, Tryd.results65, go_sem, orF, q0, q1]) rfl ⟨rfl, by (repeat (first | exact Upto.refl _ _ | assumption | refine Upto.setCell ?_ (Or.inr (by first | (simp; done) | (simp; omega) | (simp only []; omega))) _ | refine Upto.alloc ?_ _ | refine Upto.drew ?_))⟩)

set_option maxRecDepth 100000 in
set_option maxHeartbeats 400000 in
theorem and_calls (k : Bool) (n : Int) (k' : Bool) (n' : Int) (w : World) : Calls Tryd.prog 66 #[cv (k, n), cv (k', n')] w fun e w' => e = .returned (cv (andF (k, n) (k', n'))) ∧ Upto [] w w' := by
  simp only [cv]
  go_enter Tryd.func66, Tryd.ntmps66
  cases k <;> cases k'
  all_goals
    go_wp2
    refine bodyPost_ret (v := cv (andF _ _)) (by simp [results, Tryd.results66, go_sem, andF]) rfl ⟨rfl, by (repeat (first | exact Upto.refl _ _ | assumption | refine Upto.setCell ?_ (Or.inr (by first | (simp; done) | (simp; omega) | (simp only []; omega))) _ | refine Upto.alloc ?_ _ | refine Upto.drew ?_))⟩

set_option maxRecDepth 100000 in
set_option maxHeartbeats 400000 in
theorem same_calls (k : Bool) (n : Int) (k' : Bool) (n' : Int) (w : World) : Calls Tryd.prog 67 #[cv (k, n), cv (k', n')] w fun e w' => e = .returned (.bool (sameF (k, n) (k', n'))) ∧ Upto [] w w' := by
  have hc0 : ((w.alloc (.cells #[.bool k, .int .i64 n] 32)).alloc (.cells #[.bool k', .int .i64 n'] 32)).cell? ⟨w.heap.size, 0, none⟩ = some (.bool k) := by simp
  have hc1 : ((w.alloc (.cells #[.bool k, .int .i64 n] 32)).alloc (.cells #[.bool k', .int .i64 n'] 32)).cell? ⟨w.heap.size, 1, none⟩ = some (.int .i64 n) := by simp
  have hd0 : ((w.alloc (.cells #[.bool k, .int .i64 n] 32)).alloc (.cells #[.bool k', .int .i64 n'] 32)).cell? ⟨w.heap.size + 1, 0, none⟩ = some (.bool k') := by simp
  have hd1 : ((w.alloc (.cells #[.bool k, .int .i64 n] 32)).alloc (.cells #[.bool k', .int .i64 n'] 32)).cell? ⟨w.heap.size + 1, 1, none⟩ = some (.int .i64 n') := by simp
  have hup : Upto [] w ((w.alloc (.cells #[.bool k, .int .i64 n] 32)).alloc (.cells #[.bool k', .int .i64 n'] 32)) := ((Upto.refl [] w).alloc _).alloc _
  have P1 := Lib.hid (plain_calls k n)
  have P2 := Lib.hid (plain_calls k' n')
  simp only [cv, sameF] at *
  generalize plainF (k, n) = pa at *
  generalize plainF (k', n') = pb at *
  obtain ⟨pk, pn⟩ := pa
  obtain ⟨qk, qn⟩ := pb
  simp only at P1 P2
  simp only [Prod.mk.injEq]
  go_enter Tryd.func67, Tryd.ntmps67
  go_upto_region 1 with fail
  generalize hW : (w.alloc (.cells #[.bool k, .int .i64 n] 32)).alloc (.cells #[.bool k', .int .i64 n'] 32) = W at *
  have H1 : Hid (∀ u : Ext W, Calls Tryd.prog 96 #[.agg #[.bool k, .int .i64 n]] u.w fun e w'' => e = .returned (.agg #[.bool pk, .int .i64 pn]) ∧ ∃ m : Ext W, w'' = m.w) := fun u => calls_ext u (P1.out u.w)
  have H2 : Hid (∀ u : Ext W, Calls Tryd.prog 96 #[.agg #[.bool k', .int .i64 n']] u.w fun e w'' => e = .returned (.agg #[.bool qk, .int .i64 qn]) ∧ ∃ m : Ext W, w'' = m.w) := fun u => calls_ext u (P2.out u.w)
  have e2 : ∀ u : Ext W, u.w.cell? ⟨w.heap.size, 0, none⟩ = some (.bool k) := fun u => u.cell hc0
  have e3 : ∀ u : Ext W, u.w.cell? ⟨w.heap.size, 1, none⟩ = some (.int .i64 n) := fun u => u.cell hc1
  have e4 : ∀ u : Ext W, u.w.cell? ⟨w.heap.size + 1, 0, none⟩ = some (.bool k') := fun u => u.cell hd0
  have e5 : ∀ u : Ext W, u.w.cell? ⟨w.heap.size + 1, 1, none⟩ = some (.int .i64 n') := fun u => u.cell hd1
  clear P1 P2
  rcases Decidable.em (pk = qk) with rfl | h1
  · rcases Decidable.em (pn = qn) with rfl | h2
    all_goals
      refine wp_region_ext (by kernel_rfl) (by kernel_rfl) ?_
      repeat (go_big_quiet_step ((go_at_call 96; first | with_reducible exact H1.out _ | with_reducible exact H2.out _)))
      refine wpQuiet_nil ?_
      rintro _ ⟨u3, rfl⟩
      have hu3 := u3.up
      generalize u3.w = w3 at *
      clear e2 e3 e4 e5
      go_wp2
      go_ret
      refine ⟨?_, hup.trans_ext hu3⟩
      simp
  · refine wp_region_ext (by kernel_rfl) (by kernel_rfl) ?_
    repeat (go_big_quiet_step ((go_at_call 96; first | with_reducible exact H1.out _ | with_reducible exact H2.out _)))
    refine wpQuiet_nil ?_
    rintro _ ⟨u3, rfl⟩
    have hu3 := u3.up
    generalize u3.w = w3 at *
    clear e2 e3 e4 e5
    go_wp2
    go_ret
    refine ⟨?_, hup.trans_ext hu3⟩
    simp [h1]

set_option maxRecDepth 100000 in
set_option maxHeartbeats 400000 in
theorem minAdd_calls (k : Bool) (n : Int) (k' : Bool) (n' : Int) (w : World) : Calls Tryd.prog 21 #[.agg #[], cv (k, n), cv (k', n')] w fun e w' => e = .returned (cv (orF (k, n) (k', n') (decide (n < n')))) ∧ Upto [] w w' := by
  simp only [cv]
  have H := Lib.hid or_calls
  have hu : Upto [] w ((((w.alloc (.cells #[] 29)).alloc (.cells #[.bool k, .int .i64 n] 32)).alloc (.cells #[.bool k', .int .i64 n'] 32)).alloc (.cells #[.bool false, .int .i64 0] 32)) := ((((Upto.refl [] w).alloc _).alloc _).alloc _).alloc _
  have b2 := new_at2 (w.alloc (.cells #[] 29)) (.cells #[.bool k, .int .i64 n] 32) (.cells #[.bool k', .int .i64 n'] 32) (.cells #[.bool false, .int .i64 0] 32)
  simp only [World.size_alloc] at b2
  go_enter Tryd.func21, Tryd.ntmps21
  go_wp2_with fail
  refine (H.out _ _ _ _ _ _).mono ?_
  rintro e w3 ⟨rfl, hu3⟩
  have c2 := hu3.at b2 (by simp)
  have q0 := cell_of c2 0
  have q1 := cell_of c2 1
  have f0 := free_of c2 0
  have f1 := free_of c2 1
  have hu4 := hu.trans_ext hu3
  simp at q0 q1
  clear hu3 c2 b2 hu H
  go_wp2
  refine bodyPost_ret (v := cv (orF (k, n) (k', n') (decide (n < n')))) (by simp [results, Tryd.results21, go_sem, q0, q1]; try rfl) rfl ⟨by first | rfl | simp [cv], by (repeat (first | exact Upto.refl _ _ | assumption | refine Upto.setCell ?_ (Or.inr (by first | (simp; done) | (simp; omega) | (simp only []; omega))) _ | refine Upto.alloc ?_ _ | refine Upto.drew ?_))⟩

set_option maxRecDepth 100000 in
set_option maxHeartbeats 400000 in
theorem maxAdd_calls (k : Bool) (n : Int) (k' : Bool) (n' : Int) (w : World) : Calls Tryd.prog 23 #[.agg #[], cv (k, n), cv (k', n')] w fun e w' => e = .returned (cv (orF (k, n) (k', n') (decide (n > n')))) ∧ Upto [] w w' := by
  simp only [cv]
  have H := Lib.hid or_calls
  have hu : Upto [] w ((((w.alloc (.cells #[] 30)).alloc (.cells #[.bool k, .int .i64 n] 32)).alloc (.cells #[.bool k', .int .i64 n'] 32)).alloc (.cells #[.bool false, .int .i64 0] 32)) := ((((Upto.refl [] w).alloc _).alloc _).alloc _).alloc _
  have b2 := new_at2 (w.alloc (.cells #[] 30)) (.cells #[.bool k, .int .i64 n] 32) (.cells #[.bool k', .int .i64 n'] 32) (.cells #[.bool false, .int .i64 0] 32)
  simp only [World.size_alloc] at b2
  go_enter Tryd.func23, Tryd.ntmps23
  go_wp2_with fail
  refine (H.out _ _ _ _ _ _).mono ?_
  rintro e w3 ⟨rfl, hu3⟩
  have c2 := hu3.at b2 (by simp)
  have q0 := cell_of c2 0
  have q1 := cell_of c2 1
  have f0 := free_of c2 0
  have f1 := free_of c2 1
  have hu4 := hu.trans_ext hu3
  simp at q0 q1
  clear hu3 c2 b2 hu H
  go_wp2
  refine bodyPost_ret (v := cv (orF (k, n) (k', n') (decide (n > n')))) (by simp [results, Tryd.results23, go_sem, q0, q1]; try rfl) rfl ⟨by first | rfl | simp [cv], by (repeat (first | exact Upto.refl _ _ | assumption | refine Upto.setCell ?_ (Or.inr (by first | (simp; done) | (simp; omega) | (simp only []; omega))) _ | refine Upto.alloc ?_ _ | refine Upto.drew ?_))⟩

set_option maxRecDepth 100000 in
set_option maxHeartbeats 400000 in
theorem minMul_calls (k : Bool) (n : Int) (k' : Bool) (n' : Int) (w : World) : Calls Tryd.prog 24 #[.agg #[], cv (k, n), cv (k', n')] w fun e w' => e = .returned (cv (andF (k, n) (k', n'))) ∧ Upto [] w w' := by
  simp only [cv]
  have H := Lib.hid and_calls
  have hu : Upto [] w ((((w.alloc (.cells #[] 29)).alloc (.cells #[.bool k, .int .i64 n] 32)).alloc (.cells #[.bool k', .int .i64 n'] 32)).alloc (.cells #[.bool false, .int .i64 0] 32)) := ((((Upto.refl [] w).alloc _).alloc _).alloc _).alloc _
  have b2 := new_at2 (w.alloc (.cells #[] 29)) (.cells #[.bool k, .int .i64 n] 32) (.cells #[.bool k', .int .i64 n'] 32) (.cells #[.bool false, .int .i64 0] 32)
  simp only [World.size_alloc] at b2
  go_enter Tryd.func24, Tryd.ntmps24
  go_wp2_with fail
  refine (H.out _ _ _ _ _).mono ?_
  rintro e w3 ⟨rfl, hu3⟩
  have c2 := hu3.at b2 (by simp)
  have q0 := cell_of c2 0
  have q1 := cell_of c2 1
  have f0 := free_of c2 0
  have f1 := free_of c2 1
  have hu4 := hu.trans_ext hu3
  simp at q0 q1
  clear hu3 c2 b2 hu H
  go_wp2
  refine bodyPost_ret (v := cv (andF (k, n) (k', n'))) (by simp [results, Tryd.results24, go_sem, q0, q1]; try rfl) rfl ⟨by first | rfl | simp [cv], by (repeat (first | exact Upto.refl _ _ | assumption | refine Upto.setCell ?_ (Or.inr (by first | (simp; done) | (simp; omega) | (simp only []; omega))) _ | refine Upto.alloc ?_ _ | refine Upto.drew ?_))⟩

set_option maxRecDepth 100000 in
set_option maxHeartbeats 400000 in
theorem maxMul_calls (k : Bool) (n : Int) (k' : Bool) (n' : Int) (w : World) : Calls Tryd.prog 26 #[.agg #[], cv (k, n), cv (k', n')] w fun e w' => e = .returned (cv (andF (k, n) (k', n'))) ∧ Upto [] w w' := by
  simp only [cv]
  have H := Lib.hid and_calls
  have hu : Upto [] w ((((w.alloc (.cells #[] 30)).alloc (.cells #[.bool k, .int .i64 n] 32)).alloc (.cells #[.bool k', .int .i64 n'] 32)).alloc (.cells #[.bool false, .int .i64 0] 32)) := ((((Upto.refl [] w).alloc _).alloc _).alloc _).alloc _
  have b2 := new_at2 (w.alloc (.cells #[] 30)) (.cells #[.bool k, .int .i64 n] 32) (.cells #[.bool k', .int .i64 n'] 32) (.cells #[.bool false, .int .i64 0] 32)
  simp only [World.size_alloc] at b2
  go_enter Tryd.func26, Tryd.ntmps26
  go_wp2_with fail
  refine (H.out _ _ _ _ _).mono ?_
  rintro e w3 ⟨rfl, hu3⟩
  have c2 := hu3.at b2 (by simp)
  have q0 := cell_of c2 0
  have q1 := cell_of c2 1
  have f0 := free_of c2 0
  have f1 := free_of c2 1
  have hu4 := hu.trans_ext hu3
  simp at q0 q1
  clear hu3 c2 b2 hu H
  go_wp2
  refine bodyPost_ret (v := cv (andF (k, n) (k', n'))) (by simp [results, Tryd.results26, go_sem, q0, q1]; try rfl) rfl ⟨by first | rfl | simp [cv], by (repeat (first | exact Upto.refl _ _ | assumption | refine Upto.setCell ?_ (Or.inr (by first | (simp; done) | (simp; omega) | (simp only []; omega))) _ | refine Upto.alloc ?_ _ | refine Upto.drew ?_))⟩
end Go.Proofs.YtifellalnojomaaDoor
