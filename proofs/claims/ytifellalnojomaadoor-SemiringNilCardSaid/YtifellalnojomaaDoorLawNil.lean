/- SemiringNil: whatever the bool, the number and the count, the law answers true and no block that lay in memory before changes. Conditions: the row of its statement (three tables of the standard library read as their texts lay them). -/
import Derived.Test.YtifellalnojomaaDoorNilW
import Derived.Test.YtifellalnojomaaDoorThings
namespace Go.Proofs.YtifellalnojomaaDoor
open Go.ChangeShapes Go.WideShapes Go.ChangeAt Go.RowKit Go.PL Go.Deep

theorem i64_bounds {z : Int} (h : (Lit.int IntKind.i64 z).wf = true) : -9223372036854775808 ≤ z ∧ z ≤ 9223372036854775807 := by
  simpa [Lit.wf, IntKind.min, IntKind.max, IntKind.signed, IntKind.bits] using h

set_option maxRecDepth 100000 in
theorem semiringNil_contract (H : Type) (enc : TypeId × Value → H) (W : World) (base : Nat) (args : Array Value) (ds gs : List (DataW H)) (before : List MemPlace)
    (hval : ∀ (j : Nat) t v, Tryd.f10.params[j]? = some t → args[j]? = some v → Value.okWide Tryd.prog W .any base t v)
    (hW : DataW.Whole enc Tryd.prog Tryd.f10.params.toList Rows.semiringNilSpec.vars false W args.toList ds gs before) :
    Calls Tryd.prog 10 args W fun e W' => ∃ v, e = .returned v ∧ Rows.semiringNilSpec.post enc Tryd.prog Tryd.f10 false true false false W args v W' := by
  have hW' := hW
  obtain ⟨p, q, hA0, hV, rfl, hfz, hnd⟩ := hW
  have hA : DataW.TrodAll enc Tryd.prog W 0 (fun _ => true) true Tryd.f10.params.toList args.toList ds p := hA0
  rw [Tryd.params10] at hA hval
  obtain ⟨v0, vs0, d0, ds0, p0, q0, hargs, rfl, rfl, h0, r0⟩ := trodAll_cons hA
  obtain ⟨v1, vs1, d1, ds1, p1, q1, rfl, rfl, rfl, h1, r1⟩ := trodAll_cons r0
  obtain ⟨v2, vs2, d2, ds2, p2, q2, rfl, rfl, rfl, h2, r2⟩ := trodAll_cons r1
  obtain ⟨rfl, rfl, rfl⟩ := trodAll_nil r2
  obtain rfl : args = #[v0, v1, v2] := by cases args; simp_all
  have walk : Calls Tryd.prog 10 #[v0, v1, v2] W fun e w' => e = .returned (.bool true) ∧ Upto [] W w' := by
    obtain ⟨b, rfl, -⟩ := open_bool Tryd.underlying4 (hval 0 4 v0 rfl rfl) h0
    obtain ⟨m, rfl, -, -, wm⟩ := open_int Tryd.underlying41 (hval 1 41 v1 rfl rfl) h1
    obtain ⟨z, rfl, -, -, wz⟩ := open_int Tryd.underlying3 (hval 2 3 v2 rfl rfl) h2
    obtain ⟨a, rfl, ha⟩ := u64_nat' wm
    exact nil_walk b a ha z (i64_bounds wz) W
  exact walk.mono fun e W' ⟨he, hu⟩ => ⟨_, he, post_true (hv := rfl) (by kernel_rfl) (by kernel_rfl) (by kernel_rfl) hW' (fun _ => rfl) hu⟩

set_option maxRecDepth 100000 in
theorem semiringNil_reads (os : Os) {H : Type} (enc : TypeId × Value → H) : ∃ places, DataW.whole enc Tryd.prog ((laidWorld os).forCall (fun _ _ => 0) ⟨#[], #[.bool false, .int .u64 0, .int .i64 0], []⟩).memory Tryd.f10.params.toList Rows.semiringNilSpec.vars false #[.bool false, .int .u64 0, .int .i64 0].toList 8 = some ([.lit (.bool false), .lit (.int .u64 0), .lit (.int .i64 0)], [], places) :=
  ⟨[], by kernel_rfl⟩
set_option maxRecDepth 100000 in
theorem semiringNil_lifted (os : Os) (started : os.Started) (H : Type) (enc : TypeId × Value → H) (F : Stop.Interp) :
    ReturnsInHanded {} Tryd.checked os 10 .any ((OpenSpec.ofChange Rows.semiringNilSpec).preRow enc Tryd.prog Tryd.f10 Rows.semiringNilRow.domain false Rows.semiringNilRow.laid) (((OpenSpec.ofChange Rows.semiringNilSpec).at F).post enc Tryd.prog Tryd.f10 false true false false) := by
  obtain ⟨places, hx⟩ := semiringNil_reads os enc
  refine returnsInHanded_of_row (C := Tryd.checked) (s := OpenSpec.ofChange Rows.semiringNilSpec) own started (by kernel_rfl) Tryd.func10
    (witness_row_at (enc := enc) (C := Tryd.checked) false (laidWorld os) #[.bool false, .int .u64 0, .int .i64 0] (laidWorld_os os) (by kernel_rfl) (by kernel_rfl) (by kernel_rfl)
      (OpenSpec.preRow_of_cond 8 hx (by kernel_rfl) (fun k hk => by cases hk) (by kernel_rfl) (laid_met os _))) ?_
  intro W base args ds gs before hval hW _ _ _ _ _ _
  exact semiringNil_contract H enc W base args ds gs before hval hW

theorem semiringNil_said : Rows.SemiringNilSaid :=
  OpenClaim.holds_of_cond 10 Tryd.f10 rfl rfl rfl rfl rfl rfl rfl ⟨rfl, rfl, rfl, rfl, rfl⟩ rfl rfl rfl rfl rfl (by kernel_rfl) Tryd.func10 (by kernel_rfl)
    (of_decide_eq_true (by kernel_rfl)) (by unfold Func.isWrapper; first | (rw [if_pos (by decide +kernel)]; kernel_rfl) | (rw [if_neg (by decide +kernel)]; exact ⟨rfl, rfl⟩))
    (fun os started H enc _ F => by rw [OpenClaim.pre_eq_preRow]; exact semiringNil_lifted os started H enc F)
theorem semiringNil_plain (f : FuncId) (fn : Func) (hf : Tryd.pinned.checked.prog.funcNamed "palmette/palmettelaw39.SemiringNil" = some f) (hfn : Tryd.pinned.checked.prog.funcs[f]? = some fn) :
    false = Tryd.pinned.checked.prog.looks [] ∧ ∀ (j : Nat) t, fn.params[j]? = some t → Tryd.pinned.checked.prog.wantsStandIn t = false := by
  obtain rfl : f = 10 := Option.some.inj ((show Tryd.prog.funcNamed "palmette/palmettelaw39.SemiringNil" = some 10 by kernel_rfl).symm.trans hf) |>.symm
  obtain rfl : fn = Tryd.f10 := (Option.some.inj (Tryd.func10.symm.trans hfn)).symm
  refine ⟨by kernel_rfl, fun j t ht => ?_⟩
  rw [Tryd.params10] at ht
  have hm : t ∈ [4, 41, 3] := by simpa using Array.mem_of_getElem? ht
  simp only [List.mem_cons, List.not_mem_nil, or_false] at hm
  rcases hm with rfl | rfl | rfl
  · exact (show Tryd.prog.wantsStandIn 4 = false by kernel_rfl)
  · exact (show Tryd.prog.wantsStandIn 41 = false by kernel_rfl)
  · exact (show Tryd.prog.wantsStandIn 3 = false by kernel_rfl)

/-- the law's card -/
theorem semiringNil : Rows.SemiringNilCardSaid :=
  Claim7.holds_tied_plain_at .later [] _ _ _ _ semiringNil_said (fun _ h => by cases h) (by kernel_rfl) (fun _ h => by cases h) semiringNil_row_tie rfl ⟨rfl, rfl⟩ (by kernel_rfl) rfl semiringNil_plain (by kernel_rfl)
end Go.Proofs.YtifellalnojomaaDoor
