/- SemiringNatural: whatever the two numbers, the law answers true and no block that lay in memory before changes. Conditions: the row of its statement (three tables of the standard library read as their texts lay them). -/
import Derived.Test.YtifellalnojomaaDoorNatW
import Derived.Test.YtifellalnojomaaDoorOpen
import Derived.ChangeMaps5
namespace Go.Proofs.YtifellalnojomaaDoor
open Go.ChangeShapes Go.WideShapes Go.ChangeAt Go.RowKit Go.PL Go.Deep

theorem u32_nat {z : Int} (h : (Lit.int IntKind.u32 z).wf = true) : ∃ n : Nat, z = n ∧ n < 4294967296 := by
  have h2 : 0 ≤ z ∧ z ≤ 4294967295 := by simpa [Lit.wf, IntKind.min, IntKind.max, IntKind.signed, IntKind.bits] using h
  exact ⟨z.toNat, by omega, by omega⟩

set_option maxRecDepth 100000 in
theorem semiringNatural_contract (H : Type) (enc : TypeId × Value → H) (W : World) (base : Nat) (args : Array Value) (ds gs : List (DataW H)) (before : List MemPlace)
    (hval : ∀ (j : Nat) t v, Tryd.f6.params[j]? = some t → args[j]? = some v → Value.okWide Tryd.prog W .any base t v)
    (hW : DataW.Whole enc Tryd.prog Tryd.f6.params.toList Rows.semiringNaturalSpec.vars false W args.toList ds gs before) :
    Calls Tryd.prog 6 args W fun e W' => ∃ v, e = .returned v ∧ Rows.semiringNaturalSpec.post enc Tryd.prog Tryd.f6 false true false false W args v W' := by
  have hW' := hW
  obtain ⟨p, q, hA0, hV, rfl, hfz, hnd⟩ := hW
  have hA : DataW.TrodAll enc Tryd.prog W 0 (fun _ => true) true Tryd.f6.params.toList args.toList ds p := hA0
  rw [Tryd.params6] at hA hval
  obtain ⟨v0, vs0, d0, ds0, p0, q0, hargs, rfl, rfl, h0, r0⟩ := trodAll_cons hA
  obtain ⟨v1, vs1, d1, ds1, p1, q1, rfl, rfl, rfl, h1, r1⟩ := trodAll_cons r0
  obtain ⟨rfl, rfl, rfl⟩ := trodAll_nil r1
  obtain rfl : args = #[v0, v1] := by cases args; simp_all
  have walk : Calls Tryd.prog 6 #[v0, v1] W fun e w' => e = .returned (.bool true) ∧ Upto [] W w' := by
    obtain ⟨m, rfl, -, -, wm⟩ := open_int Tryd.underlying49 (hval 0 49 v0 rfl rfl) h0
    obtain ⟨n, rfl, -, -, wn⟩ := open_int Tryd.underlying49 (hval 1 49 v1 rfl rfl) h1
    obtain ⟨a, rfl, ha⟩ := u32_nat wm
    obtain ⟨b, rfl, hb⟩ := u32_nat wn
    exact natural_walk a b ha hb W
  exact walk.mono fun e W' ⟨he, hu⟩ => ⟨_, he, post_true (hv := rfl) (by kernel_rfl) (by kernel_rfl) (by kernel_rfl) hW' (fun _ => rfl) hu⟩

set_option maxRecDepth 100000 in
theorem semiringNatural_reads (os : Os) {H : Type} (enc : TypeId × Value → H) : ∃ places, DataW.whole enc Tryd.prog ((laidWorld os).forCall (fun _ _ => 0) ⟨#[], #[.int .u32 0, .int .u32 0], []⟩).memory Tryd.f6.params.toList Rows.semiringNaturalSpec.vars false #[.int .u32 0, .int .u32 0].toList 8 = some ([.lit (.int .u32 0), .lit (.int .u32 0)], [], places) :=
  ⟨[], by kernel_rfl⟩
set_option maxRecDepth 100000 in
theorem semiringNatural_lifted (os : Os) (started : os.Started) (H : Type) (enc : TypeId × Value → H) (F : Stop.Interp) :
    ReturnsInHanded {} Tryd.checked os 6 .any ((OpenSpec.ofChange Rows.semiringNaturalSpec).preRow enc Tryd.prog Tryd.f6 Rows.semiringNaturalRow.domain false Rows.semiringNaturalRow.laid) (((OpenSpec.ofChange Rows.semiringNaturalSpec).at F).post enc Tryd.prog Tryd.f6 false true false false) := by
  obtain ⟨places, hx⟩ := semiringNatural_reads os enc
  refine returnsInHanded_of_row (C := Tryd.checked) (s := OpenSpec.ofChange Rows.semiringNaturalSpec) own started (by kernel_rfl) Tryd.func6
    (witness_row_at (enc := enc) (C := Tryd.checked) false (laidWorld os) #[.int .u32 0, .int .u32 0] (laidWorld_os os) (by kernel_rfl) (by kernel_rfl) (by kernel_rfl)
      (OpenSpec.preRow_of_cond 8 hx (by kernel_rfl) (fun k hk => by cases hk) (by kernel_rfl) (laid_met os _))) ?_
  intro W base args ds gs before hval hW _ _ _ _ _ _
  exact semiringNatural_contract H enc W base args ds gs before hval hW

theorem semiringNatural_said : Rows.SemiringNaturalSaid :=
  OpenClaim.holds_of_cond 6 Tryd.f6 rfl rfl rfl rfl rfl rfl rfl ⟨rfl, rfl, rfl, rfl, rfl⟩ rfl rfl rfl rfl rfl (by kernel_rfl) Tryd.func6 (by kernel_rfl)
    (of_decide_eq_true (by kernel_rfl)) (by unfold Func.isWrapper; first | (rw [if_pos (by decide +kernel)]; kernel_rfl) | (rw [if_neg (by decide +kernel)]; exact ⟨rfl, rfl⟩))
    (fun os started H enc _ F => by rw [OpenClaim.pre_eq_preRow]; exact semiringNatural_lifted os started H enc F)
theorem semiringNatural_plain (f : FuncId) (fn : Func) (hf : Tryd.pinned.checked.prog.funcNamed "palmette/palmettelaw39.SemiringNatural" = some f) (hfn : Tryd.pinned.checked.prog.funcs[f]? = some fn) :
    false = Tryd.pinned.checked.prog.looks [] ∧ ∀ (j : Nat) t, fn.params[j]? = some t → Tryd.pinned.checked.prog.wantsStandIn t = false := by
  obtain rfl : f = 6 := Option.some.inj ((show Tryd.prog.funcNamed "palmette/palmettelaw39.SemiringNatural" = some 6 by kernel_rfl).symm.trans hf) |>.symm
  obtain rfl : fn = Tryd.f6 := (Option.some.inj (Tryd.func6.symm.trans hfn)).symm
  refine ⟨by kernel_rfl, fun j t ht => ?_⟩
  rw [Tryd.params6] at ht
  have hm : t ∈ [49, 49] := by simpa using Array.mem_of_getElem? ht
  simp only [List.mem_cons, List.not_mem_nil, or_false] at hm
  rcases hm with rfl | rfl
  · exact (show Tryd.prog.wantsStandIn 49 = false by kernel_rfl)
  · exact (show Tryd.prog.wantsStandIn 49 = false by kernel_rfl)

/-- the law's card -/
theorem semiringNatural : Rows.SemiringNaturalCardSaid :=
  Claim7.holds_tied_plain_at .later [] _ _ _ _ semiringNatural_said (fun _ h => by cases h) (by kernel_rfl) (fun _ h => by cases h) semiringNatural_row_tie rfl ⟨rfl, rfl⟩ (by kernel_rfl) rfl semiringNatural_plain (by kernel_rfl)
end Go.Proofs.YtifellalnojomaaDoor
