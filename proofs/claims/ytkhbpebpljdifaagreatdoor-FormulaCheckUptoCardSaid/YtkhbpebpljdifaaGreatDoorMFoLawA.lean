/- FormulaCheck: for any query, valid or not, with up to 300 nodes, CheckQuery, Check, Size, Depth and SortName agree with the reference. Conditions: the row of its statement (tables and errors of the standard library read as their texts lay them; the arguments are together of bulk at most 1048576). -/
import Derived.Test.YtkhbpebpljdifaaGreatDoorMFooA
import Derived.Deep.DeepWitnessRowRef
namespace Go.Proofs.YtkhbpebpljdifaaGreatDoor
open Go.ChangeShapes Go.WideShapes Go.ChangeAt Go.RowKit Go.PL Go.Deep
open Go.ChangeMaps (open_string)

theorem bulk_app {H : Type} (a b : List (DataW H)) : Rows.uptoBulkAll (a ++ b) = Rows.uptoBulkAll a + Rows.uptoBulkAll b := by
  induction a with
  | nil => simp [Rows.uptoBulkAll]
  | cons x xs ih => simp only [List.cons_append, Rows.uptoBulkAll, ih]; omega
/-- A world for the witness: the settled one, the tables holding what their initialisers lay. -/
noncomputable def formulaCheck_laidWorld (os : Os) : World := World.laidAll Tryz.prog os Rows.formulaCheckUptoRow.laid
theorem formulaCheck_laidWorld_os (os : Os) : (formulaCheck_laidWorld os).os = os := World.laidAll_os _ _ _
theorem formulaCheck_laid_met (os : Os) (args : Array Value) : laidMet Tryz.prog Rows.formulaCheckUptoRow.laid ((formulaCheck_laidWorld os).forCall (fun _ _ => 0) ⟨#[], args, []⟩).memory :=
  laidMet_laidAll args (by kernel_rfl) (by kernel_rfl)

set_option maxRecDepth 100000 in
theorem formulaCheck_contract (H : Type) (enc : TypeId × Value → H) (W : World) (base : Nat) (args : Array Value) (ds gs : List (DataW H)) (before : List MemPlace)
    (hval : ∀ (j : Nat) t v, Tryz.f6.params[j]? = some t → args[j]? = some v → Value.okWide Tryz.prog W .any base t v)
    (hW : DataW.Whole enc Tryz.prog Tryz.f6.params.toList Rows.formulaCheckSpec.vars false W args.toList ds gs before) (hL : laidMetH Tryz.prog Rows.formulaCheckUptoRow.laid W) (hk : Rows.uptoBulkAll (ds ++ gs) ≤ 1048576) :
    Calls Tryz.prog 6 args W fun e W' => ∃ v, e = .returned v ∧ Rows.formulaCheckSpec.post enc Tryz.prog Tryz.f6 false true false false W args v W' := by
  rw [MakeChecks.laidMetH_plain _ _ _ (by kernel_rfl)] at hL
  have hE := (⟨env_of hL (by kernel_rfl) (by kernel_rfl), senv_of hL (by kernel_rfl), fenv_of hL (by kernel_rfl)⟩ : Env W ∧ SEnv W ∧ FEnv W)
  have hW' := hW
  obtain ⟨p, q, hA0, hV, rfl, hfz, hnd⟩ := hW
  have hA : DataW.TrodAll enc Tryz.prog W 0 (fun _ => true) true Tryz.f6.params.toList args.toList ds p := hA0
  rw [Tryz.params6] at hA hval
  obtain ⟨v0, vs0, d0, ds0, p0, q0, hargs, rfl, rfl, h0, r0⟩ := trodAll_cons hA
  obtain ⟨v1, vs1, d1, ds1, p1, q1, rfl, rfl, rfl, h1, r1⟩ := trodAll_cons r0
  obtain ⟨rfl, rfl, rfl⟩ := trodAll_nil r1
  simp only [bulk_app, Rows.uptoBulkAll] at hk
  obtain rfl : args = #[v0, v1] := by cases args; simp_all
  have walk : Calls Tryz.prog 6 #[v0, v1] W fun e w' => e = .returned (.bool true) ∧ Upto [] W w' := by
    obtain ⟨qq0, hq0⟩ := open_question (okWide_struct Tryz.underlying45 (hval 0 45 v0 rfl rfl)) h0 (by omega)
    obtain ⟨z1, rfl, -, -, w1⟩ := open_int Tryz.underlying3 (hval 1 3 v1 rfl rfl) h1
    exact formulaCheck_walk qq0 v0 z1 W hq0 trivial hE
  exact walk.mono fun e W' ⟨he, hu⟩ => ⟨_, he, post_true (hv := rfl) (by kernel_rfl) (by kernel_rfl) (by kernel_rfl) hW' (fun _ => rfl) hu⟩

set_option maxRecDepth 100000 in
theorem formulaCheck_reads (os : Os) {H : Type} (enc : TypeId × Value → H) : ∃ places, DataW.whole enc Tryz.prog ((formulaCheck_laidWorld os).forCall (fun _ _ => 0) ⟨#[], #[.agg #[.slice none 0 0, .int .i64 0, .slice none 0 0, .int .i64 0, .int .i64 0, .int .i64 0, .slice none 0 0], .int .i64 0], []⟩).memory Tryz.f6.params.toList Rows.formulaCheckSpec.vars false #[.agg #[.slice none 0 0, .int .i64 0, .slice none 0 0, .int .i64 0, .int .i64 0, .int .i64 0, .slice none 0 0], .int .i64 0].toList 8 = some ([.agg [.nil, .agg [.lit (.int .i64 0), .nil, .lit (.int .i64 0), .lit (.int .i64 0), .lit (.int .i64 0), .nil]], .lit (.int .i64 0)], [], places) :=
  ⟨[], by kernel_rfl⟩
set_option maxRecDepth 100000 in
theorem formulaCheck_lifted (os : Os) (started : os.Started) (H : Type) (enc : TypeId × Value → H) (F : Stop.Interp) :
    ReturnsInHanded {} Tryz.checked os 6 .any ((Rows.OpenSpec.upto Rows.formulaCheckSpec).preRow enc Tryz.prog Tryz.f6 Rows.formulaCheckUptoRow.domain false Rows.formulaCheckUptoRow.laid) (((Rows.OpenSpec.upto Rows.formulaCheckSpec).at F).post enc Tryz.prog Tryz.f6 false true false false) := by
  obtain ⟨places, hx⟩ := formulaCheck_reads os enc
  refine returnsInHanded_of_row (C := Tryz.checked) (s := (Rows.OpenSpec.upto Rows.formulaCheckSpec)) own started (by kernel_rfl) Tryz.func6
    (witness_row_atRef (enc := enc) (C := Tryz.checked) false (formulaCheck_laidWorld os) #[.agg #[.slice none 0 0, .int .i64 0, .slice none 0 0, .int .i64 0, .int .i64 0, .int .i64 0, .slice none 0 0], .int .i64 0] (formulaCheck_laidWorld_os os) (by kernel_rfl) (by kernel_rfl) (by kernel_rfl)
      (OpenSpec.preRow_of_cond 8 hx (by kernel_rfl) (fun k hk => by cases hk; kernel_rfl) (by kernel_rfl) (formulaCheck_laid_met os _))) ?_
  intro W base args ds gs before hval hW _ hcond _ hL _ _
  exact formulaCheck_contract H enc W base args ds gs before hval hW hL (of_decide_eq_true (hcond _ rfl))

theorem formulaCheck_and {a b : Bool} (h : a = true) (k : b = true) : (a && b) = true := by rw [h, k]; rfl
theorem formulaCheck_k0 : (Rows.formulaCheckUptoRow.wf (OpenSpec.ofChange (Rows.OpenSpec.upto Rows.formulaCheckSpec).bare)) = true := by kernel_rfl
theorem formulaCheck_k1 : (laidOutB Tryz.pinned.checked.prog) = true := by kernel_rfl
theorem formulaCheck_k2 : (mapsRowed Tryz.pinned.checked.prog) = true := by kernel_rfl
theorem formulaCheck_k3 : (Tryz.f6.params.all (Tryz.pinned.checked.prog.readableRec ·)) = true := by kernel_rfl
theorem formulaCheck_k4 : (namedTie Tryz.pinned.checked.prog Rows.formulaCheckUptoRow.named (Rows.OpenSpec.upto Rows.formulaCheckSpec).bare.vars) = true := by kernel_rfl
theorem formulaCheck_k5 : (Rows.formulaCheckUptoRow.stops == []) = true := by kernel_rfl
theorem formulaCheck_k6 : (Tryz.pinned.checked.prog.stops == []) = true := by kernel_rfl
theorem formulaCheck_k7 : (Rows.formulaCheckUptoRow.knobs == []) = true := by kernel_rfl
theorem formulaCheck_k8 : (Tryz.pinned.checked.prog.stopKnobs == []) = true := by kernel_rfl
theorem formulaCheck_k9 : (Rows.formulaCheckUptoRow.inPlace == Tryz.pinned.checked.prog.inPlace 6) = true := by kernel_rfl
theorem formulaCheck_k10 : (Rows.formulaCheckUptoRow.unfollowed == Tryz.pinned.checked.prog.unfollowed 6) = true := by kernel_rfl
theorem formulaCheck_k11 : (Rows.formulaCheckUptoRow.recurses == Tryz.pinned.checked.prog.recurses 6) = true := by kernel_rfl
theorem formulaCheck_k12 : (Rows.formulaCheckUptoRow.named == Tryz.pinned.checked.prog.varsNamed 6) = true := by kernel_rfl
theorem formulaCheck_k13 : (Rows.formulaCheckUptoRow.maps == (Tryz.f6.params.toList ++ (Rows.OpenSpec.upto Rows.formulaCheckSpec).bare.plain.varTypes Tryz.pinned.checked.prog).any (Tryz.pinned.checked.prog.mapsRec ·)) = true := by kernel_rfl
theorem formulaCheck_k14 : (Rows.formulaCheckUptoRow.ifaces == (Tryz.f6.params.toList ++ (Rows.OpenSpec.upto Rows.formulaCheckSpec).bare.plain.varTypes Tryz.pinned.checked.prog).any (Tryz.pinned.checked.prog.ifacesRec ·)) = true := by kernel_rfl
theorem formulaCheck_k15 : (Rows.formulaCheckUptoRow.mapsOut == Tryz.pinned.checked.prog.mapsAmong Tryz.f6.resultTypes.toList) = true := by kernel_rfl
theorem formulaCheck_k16 : (Rows.formulaCheckUptoRow.loops == (Tryz.f6.params.toList ++ (Rows.OpenSpec.upto Rows.formulaCheckSpec).bare.plain.varTypes Tryz.pinned.checked.prog).any (Tryz.pinned.checked.prog.loopsFrom ·)) = true := by kernel_rfl
theorem formulaCheck_k17 : (Rows.formulaCheckUptoRow.wideKeys == (Tryz.f6.params.toList ++ (Rows.OpenSpec.upto Rows.formulaCheckSpec).bare.plain.varTypes Tryz.pinned.checked.prog ++ Tryz.f6.resultTypes.toList).any (Tryz.pinned.checked.prog.wideKeysFrom ·)) = true := by kernel_rfl
theorem formulaCheck_k18 : ((Rows.OpenSpec.upto Rows.formulaCheckSpec).bare.vars.all (Tryz.pinned.checked.prog.varReadable ·)) = true := by kernel_rfl
theorem formulaCheck_k19 : (Tryz.f6.resultTypes.all (fun t => Tryz.pinned.checked.prog.readableRec t && decide (t < Tryz.pinned.checked.prog.types.size))) = true := by kernel_rfl
theorem formulaCheck_k20 : (Rows.formulaCheckUptoRow.ifacesOut == Tryz.f6.resultTypes.toList.any (Tryz.pinned.checked.prog.ifacesRec ·)) = true := by kernel_rfl
theorem formulaCheck_k21 : (Rows.formulaCheckUptoRow.loopsOut == Tryz.f6.resultTypes.toList.any (Tryz.pinned.checked.prog.loopsFrom ·)) = true := by kernel_rfl
theorem formulaCheck_k22 : (Rows.formulaCheckUptoRow.plainKeys == Tryz.pinned.checked.prog.plainKeys) = true := by kernel_rfl
theorem formulaCheck_k23 : (Rows.formulaCheckUptoRow.shortTexts.isNone) = true := by kernel_rfl
theorem formulaCheck_k24 : (Tryz.pinned.checked.prog.stopsHeard) = true := by kernel_rfl
theorem formulaCheck_k25 : (Tryz.pinned.checked.prog.mayEnter) = true := by kernel_rfl
theorem formulaCheck_k26 : (Rows.formulaCheckUptoRow.lifted == Tryz.pinned.checked.prog.liftsFinal) = true := by kernel_rfl
theorem formulaCheck_k27 : (Tryz.pinned.checked.prog.make == some Rows.formulaCheckUptoRow.make) = true := by kernel_rfl
theorem formulaCheck_k28 : (Rows.formulaCheckUptoRow.kinds == (if Rows.formulaCheckUptoRow.domain.isEmpty then [] else Tryz.f6.params.toList.map fun t => match Tryz.pinned.checked.prog.underlying t with | some (.int k) => some k | _ => none)) = true := by kernel_rfl
theorem formulaCheck_k29 : (Rows.formulaCheckUptoRow.pinned == Rows.formulaCheckUptoRow.pinnedBy) = true := by kernel_rfl
theorem formulaCheck_k30 : (Rows.formulaCheckUptoRow.veiled == (Tryz.f6.params.toList ++ (Rows.OpenSpec.upto Rows.formulaCheckSpec).bare.plain.varTypes Tryz.pinned.checked.prog ++ Tryz.f6.resultTypes.toList).any (Tryz.pinned.checked.prog.veiledRec ·)) = true := by kernel_rfl
theorem formulaCheck_k31 : (Rows.formulaCheckUptoRow.veiledFits Tryz.pinned.checked.prog Tryz.f6.params.toList (Tryz.f6.params.toList ++ (Rows.OpenSpec.upto Rows.formulaCheckSpec).bare.plain.varTypes Tryz.pinned.checked.prog ++ Tryz.f6.resultTypes.toList)) = true := by kernel_rfl
set_option maxRecDepth 100000 in
theorem formulaCheck_closed : joinedFacts Tryz.pinned.checked.prog 6 Tryz.f6 (Rows.OpenSpec.upto Rows.formulaCheckSpec).bare Rows.formulaCheckUptoRow = true := by
  unfold joinedFacts
  exact (formulaCheck_and (formulaCheck_and (formulaCheck_and (formulaCheck_and (formulaCheck_and (formulaCheck_and (formulaCheck_and (formulaCheck_and (formulaCheck_and (formulaCheck_and (formulaCheck_and (formulaCheck_and (formulaCheck_and (formulaCheck_and (formulaCheck_and (formulaCheck_and (formulaCheck_and (formulaCheck_and (formulaCheck_and (formulaCheck_and (formulaCheck_and (formulaCheck_and (formulaCheck_and (formulaCheck_and (formulaCheck_and (formulaCheck_and (formulaCheck_and (formulaCheck_and (formulaCheck_and (formulaCheck_and (formulaCheck_and formulaCheck_k0 formulaCheck_k1) formulaCheck_k2) formulaCheck_k3) formulaCheck_k4) formulaCheck_k5) formulaCheck_k6) formulaCheck_k7) formulaCheck_k8) formulaCheck_k9) formulaCheck_k10) formulaCheck_k11) formulaCheck_k12) formulaCheck_k13) formulaCheck_k14) formulaCheck_k15) formulaCheck_k16) formulaCheck_k17) formulaCheck_k18) formulaCheck_k19) formulaCheck_k20) formulaCheck_k21) formulaCheck_k22) formulaCheck_k23) formulaCheck_k24) formulaCheck_k25) formulaCheck_k26) formulaCheck_k27) formulaCheck_k28) formulaCheck_k29) formulaCheck_k30) formulaCheck_k31)

theorem formulaCheck_said : Rows.FormulaCheckUptoSaid :=
  OpenClaim.holds_of_cond 6 Tryz.f6 rfl rfl rfl rfl rfl rfl rfl ⟨rfl, rfl, rfl, rfl, rfl⟩ rfl rfl rfl rfl rfl (by kernel_rfl) Tryz.func6 formulaCheck_closed
    (of_decide_eq_true (by kernel_rfl)) (by unfold Func.isWrapper; first | (rw [if_pos (by decide +kernel)]; kernel_rfl) | (rw [if_neg (by decide +kernel)]; exact ⟨rfl, rfl⟩))
    (fun os started H enc _ F => by rw [OpenClaim.pre_eq_preRow]; exact formulaCheck_lifted os started H enc F)
theorem formulaCheck_plain (f : FuncId) (fn : Func) (hf : Tryz.pinned.checked.prog.funcNamed "palmette/palmettelaw10.FormulaCheck" = some f) (hfn : Tryz.pinned.checked.prog.funcs[f]? = some fn) :
    true = Tryz.pinned.checked.prog.looks [] ∧ ∀ (j : Nat) t, fn.params[j]? = some t → Tryz.pinned.checked.prog.wantsStandIn t = false := by
  obtain rfl : f = 6 := Option.some.inj ((show Tryz.prog.funcNamed "palmette/palmettelaw10.FormulaCheck" = some 6 by kernel_rfl).symm.trans hf) |>.symm
  obtain rfl : fn = Tryz.f6 := (Option.some.inj (Tryz.func6.symm.trans hfn)).symm
  refine ⟨by kernel_rfl, fun j t ht => ?_⟩
  rw [Tryz.params6] at ht
  have hm : t ∈ [45, 3] := by simpa using Array.mem_of_getElem? ht
  simp only [List.mem_cons, List.not_mem_nil, or_false] at hm
  rcases hm with rfl | rfl
  · exact (show Tryz.prog.wantsStandIn 45 = false by kernel_rfl)
  · exact (show Tryz.prog.wantsStandIn 3 = false by kernel_rfl)

/-- the law's card -/
theorem formulaCheck : Rows.FormulaCheckUptoCardSaid :=
  Claim7.holds_tied_plain_at .later [] _ _ _ _ formulaCheck_said (fun _ h => by cases h) (by kernel_rfl) (fun _ h => by cases h) formulaCheckUpto_row_tie rfl ⟨rfl, rfl⟩ (by kernel_rfl) rfl formulaCheck_plain (by kernel_rfl)
end Go.Proofs.YtkhbpebpljdifaaGreatDoor
