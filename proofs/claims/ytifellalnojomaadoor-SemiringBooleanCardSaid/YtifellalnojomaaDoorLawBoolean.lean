/- SemiringBoolean: whatever the two arguments, the law answers true and no block that lay in memory before changes. Conditions: the row of its statement (three tables of the standard library read as their texts lay them). -/
import Derived.Test.YtifellalnojomaaDoorKnown
import Derived.Test.YtifellalnojomaaDoorOpen
import Derived.ChangeMaps5
namespace Go.Proofs.YtifellalnojomaaDoor
open Go.ChangeShapes Go.WideShapes Go.ChangeAt Go.RowKit Go.PL Go.Deep

set_option maxRecDepth 100000 in
set_option maxHeartbeats 400000 in
theorem bzero_calls (w : World) : Calls Tryd.prog 11 #[.agg #[]] w fun e w' => e = .returned (.bool false) ∧ Upto [] w w' := by
  go_enter Tryd.func11, Tryd.ntmps11
  go_wp2
  go_ret
  exact ⟨rfl, (Upto.refl [] w).alloc _⟩
set_option maxRecDepth 100000 in
set_option maxHeartbeats 400000 in
theorem bone_calls (w : World) : Calls Tryd.prog 12 #[.agg #[]] w fun e w' => e = .returned (.bool true) ∧ Upto [] w w' := by
  go_enter Tryd.func12, Tryd.ntmps12
  go_wp2
  go_ret
  exact ⟨rfl, (Upto.refl [] w).alloc _⟩
set_option maxRecDepth 100000 in
set_option maxHeartbeats 400000 in
theorem badd_calls (a b : Bool) (w : World) : Calls Tryd.prog 13 #[.agg #[], .bool a, .bool b] w fun e w' => e = .returned (.bool (a || b)) ∧ Upto [] w w' := by
  go_enter Tryd.func13, Tryd.ntmps13
  cases a <;> cases b
  all_goals
    go_wp2
    go_ret
    exact ⟨rfl, (Upto.refl [] w).alloc _⟩
set_option maxRecDepth 100000 in
set_option maxHeartbeats 400000 in
theorem bmul_calls (a b : Bool) (w : World) : Calls Tryd.prog 14 #[.agg #[], .bool a, .bool b] w fun e w' => e = .returned (.bool (a && b)) ∧ Upto [] w w' := by
  go_enter Tryd.func14, Tryd.ntmps14
  cases a <;> cases b
  all_goals
    go_wp2
    go_ret
    exact ⟨rfl, (Upto.refl [] w).alloc _⟩
set_option maxRecDepth 100000 in
set_option maxHeartbeats 400000 in
theorem bsame_calls (a b : Bool) (w : World) : Calls Tryd.prog 15 #[.agg #[], .bool a, .bool b] w fun e w' => e = .returned (.bool (a == b)) ∧ Upto [] w w' := by
  go_enter Tryd.func15, Tryd.ntmps15
  cases a <;> cases b
  all_goals
    go_wp2
    go_ret
    exact ⟨rfl, (Upto.refl [] w).alloc _⟩

set_option maxRecDepth 100000 in
set_option maxHeartbeats 1000000 in
theorem boolean_walk (a b : Bool) (w : World) : Calls Tryd.prog 3 #[.bool a, .bool b] w fun e w' => e = .returned (.bool true) ∧ Upto [] w w' := by
  have H0 := Lib.hid bzero_calls
  have H1 := Lib.hid bone_calls
  have HA := Lib.hid badd_calls
  have HM := Lib.hid bmul_calls
  have HS := Lib.hid bsame_calls
  have HK := Lib.hid known_calls
  have hu0 : Upto [] w (w.alloc (.cells #[] 23)) := (Upto.refl [] w).alloc _
  go_enter Tryd.func3, Tryd.ntmps3
  cases a <;> cases b
  all_goals
    go_wp2_with fail
    refine (H0.out _).mono ?_
    rintro e w1 ⟨rfl, hu1⟩
    replace hu1 := hu0.trans_ext hu1
    go_wp2_with fail
    refine (H1.out _).mono ?_
    rintro e w2 ⟨rfl, hu2⟩
    replace hu2 := hu1.trans_ext hu2
    go_wp2_with fail
    refine (HA.out _ _ _).mono ?_
    rintro e w3 ⟨rfl, hu3⟩
    replace hu3 := hu2.trans_ext hu3
    simp only [Bool.or_self, Bool.or_true, Bool.or_false]
    go_wp2_with fail
    refine (HM.out _ _ _).mono ?_
    rintro e w4 ⟨rfl, hu4⟩
    replace hu4 := hu3.trans_ext hu4
    simp only [Bool.and_self, Bool.and_true, Bool.and_false]
    go_wp2_with fail
    refine (HS.out _ _ _).mono ?_
    rintro e w5 ⟨rfl, hu5⟩
    replace hu5 := hu4.trans_ext hu5
    simp only [show (false == false) = true from rfl, show (false == true) = false from rfl, show (true == false) = false from rfl, show (true == true) = true from rfl]
    go_wp2_with fail
    refine (HK.out _).mono ?_
    rintro e w6 ⟨rfl, hu6⟩
    replace hu6 := hu5.trans_ext hu6
    go_wp2
    go_ret
    exact ⟨rfl, hu6⟩

set_option maxRecDepth 100000 in
theorem semiringBoolean_contract (H : Type) (enc : TypeId × Value → H) (W : World) (base : Nat) (args : Array Value) (ds gs : List (DataW H)) (before : List MemPlace)
    (hval : ∀ (j : Nat) t v, Tryd.f3.params[j]? = some t → args[j]? = some v → Value.okWide Tryd.prog W .any base t v)
    (hW : DataW.Whole enc Tryd.prog Tryd.f3.params.toList Rows.semiringBooleanSpec.vars false W args.toList ds gs before) :
    Calls Tryd.prog 3 args W fun e W' => ∃ v, e = .returned v ∧ Rows.semiringBooleanSpec.post enc Tryd.prog Tryd.f3 false true false false W args v W' := by
  have hW' := hW
  obtain ⟨p, q, hA0, hV, rfl, hfz, hnd⟩ := hW
  have hA : DataW.TrodAll enc Tryd.prog W 0 (fun _ => true) true Tryd.f3.params.toList args.toList ds p := hA0
  rw [Tryd.params3] at hA hval
  obtain ⟨v0, vs0, d0, ds0, p0, q0, hargs, rfl, rfl, h0, r0⟩ := trodAll_cons hA
  obtain ⟨v1, vs1, d1, ds1, p1, q1, rfl, rfl, rfl, h1, r1⟩ := trodAll_cons r0
  obtain ⟨rfl, rfl, rfl⟩ := trodAll_nil r1
  obtain rfl : args = #[v0, v1] := by cases args; simp_all
  have walk : Calls Tryd.prog 3 #[v0, v1] W fun e w' => e = .returned (.bool true) ∧ Upto [] W w' := by
    obtain ⟨a, rfl, -⟩ := open_bool Tryd.underlying4 (hval 0 4 v0 rfl rfl) h0
    obtain ⟨b, rfl, -⟩ := open_bool Tryd.underlying4 (hval 1 4 v1 rfl rfl) h1
    exact boolean_walk a b W
  exact walk.mono fun e W' ⟨he, hu⟩ => ⟨_, he, post_true (hv := rfl) (by kernel_rfl) (by kernel_rfl) (by kernel_rfl) hW' (fun _ => rfl) hu⟩

set_option maxRecDepth 100000 in
theorem semiringBoolean_reads (os : Os) {H : Type} (enc : TypeId × Value → H) : ∃ places, DataW.whole enc Tryd.prog ((laidWorld os).forCall (fun _ _ => 0) ⟨#[], #[.bool false, .bool false], []⟩).memory Tryd.f3.params.toList Rows.semiringBooleanSpec.vars false #[.bool false, .bool false].toList 8 = some ([.lit (.bool false), .lit (.bool false)], [], places) :=
  ⟨[], by kernel_rfl⟩
set_option maxRecDepth 100000 in
theorem semiringBoolean_lifted (os : Os) (started : os.Started) (H : Type) (enc : TypeId × Value → H) (F : Stop.Interp) :
    ReturnsInHanded {} Tryd.checked os 3 .any ((OpenSpec.ofChange Rows.semiringBooleanSpec).preRow enc Tryd.prog Tryd.f3 Rows.semiringBooleanRow.domain false Rows.semiringBooleanRow.laid) (((OpenSpec.ofChange Rows.semiringBooleanSpec).at F).post enc Tryd.prog Tryd.f3 false true false false) := by
  obtain ⟨places, hx⟩ := semiringBoolean_reads os enc
  refine returnsInHanded_of_row (C := Tryd.checked) (s := OpenSpec.ofChange Rows.semiringBooleanSpec) own started (by kernel_rfl) Tryd.func3
    (witness_row_at (enc := enc) (C := Tryd.checked) false (laidWorld os) #[.bool false, .bool false] (laidWorld_os os) (by kernel_rfl) (by kernel_rfl) (by kernel_rfl)
      (OpenSpec.preRow_of_cond 8 hx (by kernel_rfl) (fun k hk => by cases hk) (by kernel_rfl) (laid_met os _))) ?_
  intro W base args ds gs before hval hW _ _ _ _ _ _
  exact semiringBoolean_contract H enc W base args ds gs before hval hW

theorem semiringBoolean_said : Rows.SemiringBooleanSaid :=
  OpenClaim.holds_of_cond 3 Tryd.f3 rfl rfl rfl rfl rfl rfl rfl ⟨rfl, rfl, rfl, rfl, rfl⟩ rfl rfl rfl rfl rfl (by kernel_rfl) Tryd.func3 (by kernel_rfl)
    (of_decide_eq_true (by kernel_rfl)) (by unfold Func.isWrapper; first | (rw [if_pos (by decide +kernel)]; kernel_rfl) | (rw [if_neg (by decide +kernel)]; exact ⟨rfl, rfl⟩))
    (fun os started H enc _ F => by rw [OpenClaim.pre_eq_preRow]; exact semiringBoolean_lifted os started H enc F)
theorem semiringBoolean_plain (f : FuncId) (fn : Func) (hf : Tryd.pinned.checked.prog.funcNamed "palmette/palmettelaw39.SemiringBoolean" = some f) (hfn : Tryd.pinned.checked.prog.funcs[f]? = some fn) :
    false = Tryd.pinned.checked.prog.looks [] ∧ ∀ (j : Nat) t, fn.params[j]? = some t → Tryd.pinned.checked.prog.wantsStandIn t = false := by
  obtain rfl : f = 3 := Option.some.inj ((show Tryd.prog.funcNamed "palmette/palmettelaw39.SemiringBoolean" = some 3 by kernel_rfl).symm.trans hf) |>.symm
  obtain rfl : fn = Tryd.f3 := (Option.some.inj (Tryd.func3.symm.trans hfn)).symm
  refine ⟨by kernel_rfl, fun j t ht => ?_⟩
  rw [Tryd.params3] at ht
  have hm : t ∈ [4, 4] := by simpa using Array.mem_of_getElem? ht
  simp only [List.mem_cons, List.not_mem_nil, or_false] at hm
  rcases hm with rfl | rfl
  · exact (show Tryd.prog.wantsStandIn 4 = false by kernel_rfl)
  · exact (show Tryd.prog.wantsStandIn 4 = false by kernel_rfl)

/-- the law's card -/
theorem semiringBoolean : Rows.SemiringBooleanCardSaid :=
  Claim7.holds_tied_plain_at .later [] _ _ _ _ semiringBoolean_said (fun _ h => by cases h) (by kernel_rfl) (fun _ h => by cases h) semiringBoolean_row_tie rfl ⟨rfl, rfl⟩ (by kernel_rfl) rfl semiringBoolean_plain (by kernel_rfl)
end Go.Proofs.YtifellalnojomaaDoor
