/- FormulaLimits: the limits on depth, size and nesting levels are exact: formulas at the limit are accepted, and larger ones are rejected with the specified error. Conditions: the row of its statement (tables and errors of the standard library read as their texts lay them). -/
import Derived.Test.YtkhbpebpljdifaaGreatDoorMFooC
import Derived.Deep.DeepWitnessRowRef
namespace Go.Proofs.YtkhbpebpljdifaaGreatDoor
open Go.ChangeShapes Go.WideShapes Go.ChangeAt Go.RowKit Go.PL Go.Deep
open Go.ChangeMaps (open_string)

/-- A world for the witness: the settled one, the tables holding what their initialisers lay. -/
noncomputable def formulaLimits_laidWorld (os : Os) : World := World.laidAll Tryz.prog os Rows.formulaLimitsRow.laid
theorem formulaLimits_laidWorld_os (os : Os) : (formulaLimits_laidWorld os).os = os := World.laidAll_os _ _ _
theorem formulaLimits_laid_met (os : Os) (args : Array Value) : laidMet Tryz.prog Rows.formulaLimitsRow.laid ((formulaLimits_laidWorld os).forCall (fun _ _ => 0) ⟨#[], args, []⟩).memory :=
  laidMet_laidAll args (by kernel_rfl) (by kernel_rfl)

set_option maxRecDepth 100000 in
theorem formulaLimits_contract (H : Type) (enc : TypeId × Value → H) (W : World) (base : Nat) (args : Array Value) (ds gs : List (DataW H)) (before : List MemPlace)
    (hval : ∀ (j : Nat) t v, Tryz.f5.params[j]? = some t → args[j]? = some v → Value.okWide Tryz.prog W .any base t v)
    (hW : DataW.Whole enc Tryz.prog Tryz.f5.params.toList Rows.formulaLimitsSpec.vars false W args.toList ds gs before) (hL : laidMetH Tryz.prog Rows.formulaLimitsRow.laid W) :
    Calls Tryz.prog 5 args W fun e W' => ∃ v, e = .returned v ∧ Rows.formulaLimitsSpec.post enc Tryz.prog Tryz.f5 false true false false W args v W' := by
  rw [MakeChecks.laidMetH_plain _ _ _ (by kernel_rfl)] at hL
  have hE := (⟨env_of hL (by kernel_rfl) (by kernel_rfl), senv_of hL (by kernel_rfl), fenv_of hL (by kernel_rfl)⟩ : Env W ∧ SEnv W ∧ FEnv W)
  have hW' := hW
  obtain ⟨p, q, hA0, hV, rfl, hfz, hnd⟩ := hW
  have hA : DataW.TrodAll enc Tryz.prog W 0 (fun _ => true) true Tryz.f5.params.toList args.toList ds p := hA0
  rw [Tryz.params5] at hA hval
  obtain ⟨v0, vs0, d0, ds0, p0, q0, hargs, rfl, rfl, h0, r0⟩ := trodAll_cons hA
  obtain ⟨rfl, rfl, rfl⟩ := trodAll_nil r0
  obtain rfl : args = #[v0] := by cases args; simp_all
  have walk : Calls Tryz.prog 5 #[v0] W fun e w' => e = .returned (.bool true) ∧ Upto [] W w' := by
    obtain ⟨z0, rfl, -, -, w0⟩ := open_int Tryz.underlying5 (hval 0 5 v0 rfl rfl) h0
    exact formulaLimits_walk z0 W (by simpa [Lit.wf, IntKind.min, IntKind.max, IntKind.signed, IntKind.bits] using w0) hE
  exact walk.mono fun e W' ⟨he, hu⟩ => ⟨_, he, post_true (hv := rfl) (by kernel_rfl) (by kernel_rfl) (by kernel_rfl) hW' (fun _ => rfl) hu⟩

set_option maxRecDepth 100000 in
theorem formulaLimits_reads (os : Os) {H : Type} (enc : TypeId × Value → H) : ∃ places, DataW.whole enc Tryz.prog ((formulaLimits_laidWorld os).forCall (fun _ _ => 0) ⟨#[], #[.int .u8 0], []⟩).memory Tryz.f5.params.toList Rows.formulaLimitsSpec.vars false #[.int .u8 0].toList 8 = some ([.lit (.int .u8 0)], [], places) :=
  ⟨[], by kernel_rfl⟩
set_option maxRecDepth 100000 in
theorem formulaLimits_lifted (os : Os) (started : os.Started) (H : Type) (enc : TypeId × Value → H) (F : Stop.Interp) :
    ReturnsInHanded {} Tryz.checked os 5 .any ((OpenSpec.ofChange Rows.formulaLimitsSpec).preRow enc Tryz.prog Tryz.f5 Rows.formulaLimitsRow.domain false Rows.formulaLimitsRow.laid) (((OpenSpec.ofChange Rows.formulaLimitsSpec).at F).post enc Tryz.prog Tryz.f5 false true false false) := by
  obtain ⟨places, hx⟩ := formulaLimits_reads os enc
  refine returnsInHanded_of_row (C := Tryz.checked) (s := (OpenSpec.ofChange Rows.formulaLimitsSpec)) own started (by kernel_rfl) Tryz.func5
    (witness_row_atRef (enc := enc) (C := Tryz.checked) false (formulaLimits_laidWorld os) #[.int .u8 0] (formulaLimits_laidWorld_os os) (by kernel_rfl) (by kernel_rfl) (by kernel_rfl)
      (OpenSpec.preRow_of_cond 8 hx (by kernel_rfl) (fun k hk => by cases hk) (by kernel_rfl) (formulaLimits_laid_met os _))) ?_
  intro W base args ds gs before hval hW _ hcond _ hL _ _
  exact formulaLimits_contract H enc W base args ds gs before hval hW hL

theorem formulaLimits_and {a b : Bool} (h : a = true) (k : b = true) : (a && b) = true := by rw [h, k]; rfl
theorem formulaLimits_k0 : (Rows.formulaLimitsRow.wf (OpenSpec.ofChange (OpenSpec.ofChange Rows.formulaLimitsSpec).bare)) = true := by kernel_rfl
theorem formulaLimits_k1 : (laidOutB Tryz.pinned.checked.prog) = true := by kernel_rfl
theorem formulaLimits_k2 : (mapsRowed Tryz.pinned.checked.prog) = true := by kernel_rfl
theorem formulaLimits_k3 : (Tryz.f5.params.all (Tryz.pinned.checked.prog.readableRec ·)) = true := by kernel_rfl
theorem formulaLimits_k4 : (namedTie Tryz.pinned.checked.prog Rows.formulaLimitsRow.named (OpenSpec.ofChange Rows.formulaLimitsSpec).bare.vars) = true := by kernel_rfl
theorem formulaLimits_k5 : (Rows.formulaLimitsRow.stops == []) = true := by kernel_rfl
theorem formulaLimits_k6 : (Tryz.pinned.checked.prog.stops == []) = true := by kernel_rfl
theorem formulaLimits_k7 : (Rows.formulaLimitsRow.knobs == []) = true := by kernel_rfl
theorem formulaLimits_k8 : (Tryz.pinned.checked.prog.stopKnobs == []) = true := by kernel_rfl
theorem formulaLimits_k9 : (Rows.formulaLimitsRow.inPlace == Tryz.pinned.checked.prog.inPlace 5) = true := by kernel_rfl
theorem formulaLimits_k10 : (Rows.formulaLimitsRow.unfollowed == Tryz.pinned.checked.prog.unfollowed 5) = true := by kernel_rfl
theorem formulaLimits_k11 : (Rows.formulaLimitsRow.recurses == Tryz.pinned.checked.prog.recurses 5) = true := by kernel_rfl
theorem formulaLimits_k12 : (Rows.formulaLimitsRow.named == Tryz.pinned.checked.prog.varsNamed 5) = true := by kernel_rfl
theorem formulaLimits_k13 : (Rows.formulaLimitsRow.maps == (Tryz.f5.params.toList ++ (OpenSpec.ofChange Rows.formulaLimitsSpec).bare.plain.varTypes Tryz.pinned.checked.prog).any (Tryz.pinned.checked.prog.mapsRec ·)) = true := by kernel_rfl
theorem formulaLimits_k14 : (Rows.formulaLimitsRow.ifaces == (Tryz.f5.params.toList ++ (OpenSpec.ofChange Rows.formulaLimitsSpec).bare.plain.varTypes Tryz.pinned.checked.prog).any (Tryz.pinned.checked.prog.ifacesRec ·)) = true := by kernel_rfl
theorem formulaLimits_k15 : (Rows.formulaLimitsRow.mapsOut == Tryz.pinned.checked.prog.mapsAmong Tryz.f5.resultTypes.toList) = true := by kernel_rfl
theorem formulaLimits_k16 : (Rows.formulaLimitsRow.loops == (Tryz.f5.params.toList ++ (OpenSpec.ofChange Rows.formulaLimitsSpec).bare.plain.varTypes Tryz.pinned.checked.prog).any (Tryz.pinned.checked.prog.loopsFrom ·)) = true := by kernel_rfl
theorem formulaLimits_k17 : (Rows.formulaLimitsRow.wideKeys == (Tryz.f5.params.toList ++ (OpenSpec.ofChange Rows.formulaLimitsSpec).bare.plain.varTypes Tryz.pinned.checked.prog ++ Tryz.f5.resultTypes.toList).any (Tryz.pinned.checked.prog.wideKeysFrom ·)) = true := by kernel_rfl
theorem formulaLimits_k18 : ((OpenSpec.ofChange Rows.formulaLimitsSpec).bare.vars.all (Tryz.pinned.checked.prog.varReadable ·)) = true := by kernel_rfl
theorem formulaLimits_k19 : (Tryz.f5.resultTypes.all (fun t => Tryz.pinned.checked.prog.readableRec t && decide (t < Tryz.pinned.checked.prog.types.size))) = true := by kernel_rfl
theorem formulaLimits_k20 : (Rows.formulaLimitsRow.ifacesOut == Tryz.f5.resultTypes.toList.any (Tryz.pinned.checked.prog.ifacesRec ·)) = true := by kernel_rfl
theorem formulaLimits_k21 : (Rows.formulaLimitsRow.loopsOut == Tryz.f5.resultTypes.toList.any (Tryz.pinned.checked.prog.loopsFrom ·)) = true := by kernel_rfl
theorem formulaLimits_k22 : (Rows.formulaLimitsRow.plainKeys == Tryz.pinned.checked.prog.plainKeys) = true := by kernel_rfl
theorem formulaLimits_k23 : (Rows.formulaLimitsRow.shortTexts.isNone) = true := by kernel_rfl
theorem formulaLimits_k24 : (Tryz.pinned.checked.prog.stopsHeard) = true := by kernel_rfl
theorem formulaLimits_k25 : (Tryz.pinned.checked.prog.mayEnter) = true := by kernel_rfl
theorem formulaLimits_k26 : (Rows.formulaLimitsRow.lifted == Tryz.pinned.checked.prog.liftsFinal) = true := by kernel_rfl
theorem formulaLimits_k27 : (Tryz.pinned.checked.prog.make == some Rows.formulaLimitsRow.make) = true := by kernel_rfl
theorem formulaLimits_k28 : (Rows.formulaLimitsRow.kinds == (if Rows.formulaLimitsRow.domain.isEmpty then [] else Tryz.f5.params.toList.map fun t => match Tryz.pinned.checked.prog.underlying t with | some (.int k) => some k | _ => none)) = true := by kernel_rfl
theorem formulaLimits_k29 : (Rows.formulaLimitsRow.pinned == Rows.formulaLimitsRow.pinnedBy) = true := by kernel_rfl
theorem formulaLimits_k30 : (Rows.formulaLimitsRow.veiled == (Tryz.f5.params.toList ++ (OpenSpec.ofChange Rows.formulaLimitsSpec).bare.plain.varTypes Tryz.pinned.checked.prog ++ Tryz.f5.resultTypes.toList).any (Tryz.pinned.checked.prog.veiledRec ·)) = true := by kernel_rfl
theorem formulaLimits_k31 : (Rows.formulaLimitsRow.veiledFits Tryz.pinned.checked.prog Tryz.f5.params.toList (Tryz.f5.params.toList ++ (OpenSpec.ofChange Rows.formulaLimitsSpec).bare.plain.varTypes Tryz.pinned.checked.prog ++ Tryz.f5.resultTypes.toList)) = true := by kernel_rfl
set_option maxRecDepth 100000 in
theorem formulaLimits_closed : joinedFacts Tryz.pinned.checked.prog 5 Tryz.f5 (OpenSpec.ofChange Rows.formulaLimitsSpec).bare Rows.formulaLimitsRow = true := by
  unfold joinedFacts
  exact (formulaLimits_and (formulaLimits_and (formulaLimits_and (formulaLimits_and (formulaLimits_and (formulaLimits_and (formulaLimits_and (formulaLimits_and (formulaLimits_and (formulaLimits_and (formulaLimits_and (formulaLimits_and (formulaLimits_and (formulaLimits_and (formulaLimits_and (formulaLimits_and (formulaLimits_and (formulaLimits_and (formulaLimits_and (formulaLimits_and (formulaLimits_and (formulaLimits_and (formulaLimits_and (formulaLimits_and (formulaLimits_and (formulaLimits_and (formulaLimits_and (formulaLimits_and (formulaLimits_and (formulaLimits_and (formulaLimits_and formulaLimits_k0 formulaLimits_k1) formulaLimits_k2) formulaLimits_k3) formulaLimits_k4) formulaLimits_k5) formulaLimits_k6) formulaLimits_k7) formulaLimits_k8) formulaLimits_k9) formulaLimits_k10) formulaLimits_k11) formulaLimits_k12) formulaLimits_k13) formulaLimits_k14) formulaLimits_k15) formulaLimits_k16) formulaLimits_k17) formulaLimits_k18) formulaLimits_k19) formulaLimits_k20) formulaLimits_k21) formulaLimits_k22) formulaLimits_k23) formulaLimits_k24) formulaLimits_k25) formulaLimits_k26) formulaLimits_k27) formulaLimits_k28) formulaLimits_k29) formulaLimits_k30) formulaLimits_k31)

theorem formulaLimits_said : Rows.FormulaLimitsSaid :=
  OpenClaim.holds_of_cond 5 Tryz.f5 rfl rfl rfl rfl rfl rfl rfl ⟨rfl, rfl, rfl, rfl, rfl⟩ rfl rfl rfl rfl rfl (by kernel_rfl) Tryz.func5 formulaLimits_closed
    (of_decide_eq_true (by kernel_rfl)) (by unfold Func.isWrapper; first | (rw [if_pos (by decide +kernel)]; kernel_rfl) | (rw [if_neg (by decide +kernel)]; exact ⟨rfl, rfl⟩))
    (fun os started H enc _ F => by rw [OpenClaim.pre_eq_preRow]; exact formulaLimits_lifted os started H enc F)
theorem formulaLimits_plain (f : FuncId) (fn : Func) (hf : Tryz.pinned.checked.prog.funcNamed "palmette/palmettelaw10.FormulaLimits" = some f) (hfn : Tryz.pinned.checked.prog.funcs[f]? = some fn) :
    true = Tryz.pinned.checked.prog.looks [] ∧ ∀ (j : Nat) t, fn.params[j]? = some t → Tryz.pinned.checked.prog.wantsStandIn t = false := by
  obtain rfl : f = 5 := Option.some.inj ((show Tryz.prog.funcNamed "palmette/palmettelaw10.FormulaLimits" = some 5 by kernel_rfl).symm.trans hf) |>.symm
  obtain rfl : fn = Tryz.f5 := (Option.some.inj (Tryz.func5.symm.trans hfn)).symm
  refine ⟨by kernel_rfl, fun j t ht => ?_⟩
  rw [Tryz.params5] at ht
  have hm : t ∈ [5] := by simpa using Array.mem_of_getElem? ht
  simp only [List.mem_cons, List.not_mem_nil, or_false] at hm
  rcases hm with rfl
  · exact (show Tryz.prog.wantsStandIn 5 = false by kernel_rfl)

/-- the law's card -/
theorem formulaLimits : Rows.FormulaLimitsCardSaid :=
  Claim7.holds_tied_plain_at .later [] _ _ _ _ formulaLimits_said (fun _ h => by cases h) (by kernel_rfl) (fun _ h => by cases h) formulaLimits_row_tie rfl ⟨rfl, rfl⟩ (by kernel_rfl) rfl formulaLimits_plain (by kernel_rfl)
end Go.Proofs.YtkhbpebpljdifaaGreatDoor
