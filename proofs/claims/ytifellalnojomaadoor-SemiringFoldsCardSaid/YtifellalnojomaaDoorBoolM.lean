/- Boolean's methods. -/
import Derived.Test.YtifellalnojomaaDoorLib
import Derived.Test.YtifellalnojomaaDoorProg
namespace Go.Proofs.YtifellalnojomaaDoor
open Go.RowKit Go.PL

set_option maxRecDepth 100000 in
set_option maxHeartbeats 400000 in
theorem bzero_is (w : World) : Calls Tryd.prog 11 #[.agg #[]] w fun e w' => e = .returned (.bool false) ∧ Upto [] w w' := by
  go_enter Tryd.func11, Tryd.ntmps11
  go_wp2
  go_ret
  exact ⟨rfl, (Upto.refl [] w).alloc _⟩
set_option maxRecDepth 100000 in
set_option maxHeartbeats 400000 in
theorem bone_is (w : World) : Calls Tryd.prog 12 #[.agg #[]] w fun e w' => e = .returned (.bool true) ∧ Upto [] w w' := by
  go_enter Tryd.func12, Tryd.ntmps12
  go_wp2
  go_ret
  exact ⟨rfl, (Upto.refl [] w).alloc _⟩
set_option maxRecDepth 100000 in
set_option maxHeartbeats 400000 in
theorem badd_is (a b : Bool) (w : World) : Calls Tryd.prog 13 #[.agg #[], .bool a, .bool b] w fun e w' => e = .returned (.bool (a || b)) ∧ Upto [] w w' := by
  go_enter Tryd.func13, Tryd.ntmps13
  cases a <;> cases b
  all_goals
    go_wp2
    go_ret
    exact ⟨rfl, (Upto.refl [] w).alloc _⟩
set_option maxRecDepth 100000 in
set_option maxHeartbeats 400000 in
theorem bmul_is (a b : Bool) (w : World) : Calls Tryd.prog 14 #[.agg #[], .bool a, .bool b] w fun e w' => e = .returned (.bool (a && b)) ∧ Upto [] w w' := by
  go_enter Tryd.func14, Tryd.ntmps14
  cases a <;> cases b
  all_goals
    go_wp2
    go_ret
    exact ⟨rfl, (Upto.refl [] w).alloc _⟩
set_option maxRecDepth 100000 in
set_option maxHeartbeats 400000 in
theorem bsame_is (a b : Bool) (w : World) : Calls Tryd.prog 15 #[.agg #[], .bool a, .bool b] w fun e w' => e = .returned (.bool (a == b)) ∧ Upto [] w w' := by
  go_enter Tryd.func15, Tryd.ntmps15
  cases a <;> cases b
  all_goals
    go_wp2
    go_ret
    exact ⟨rfl, (Upto.refl [] w).alloc _⟩

end Go.Proofs.YtifellalnojomaaDoor
