/- FormulaParenthesized: parsing the fully parenthesized text of any valid query yields that query. Conditions: the row of its statement (tables and errors of the standard library read as their texts lay them; the arguments are together of bulk at most 1048576). -/
import Derived.Test.YtkhbpebpljdifaaGreatDoorMFooB
import Derived.Deep.DeepWitnessRowRef
namespace Go.Proofs.YtkhbpebpljdifaaGreatDoor
open Go.ChangeShapes Go.WideShapes Go.ChangeAt Go.RowKit Go.PL Go.Deep
open Go.ChangeMaps (open_string)

theorem bulk_app {H : Type} (a b : List (DataW H)) : Rows.uptoBulkAll (a ++ b) = Rows.uptoBulkAll a + Rows.uptoBulkAll b := by
  induction a with
  | nil => simp [Rows.uptoBulkAll]
  | cons x xs ih => simp only [List.cons_append, Rows.uptoBulkAll, ih]; omega
/-- A world for the witness: the settled one, the tables holding what their initialisers lay. -/
noncomputable def formulaParenthesized_laidWorld (os : Os) : World := World.laidAll Tryz.prog os Rows.formulaParenthesizedUptoRow.laid
theorem formulaParenthesized_laidWorld_os (os : Os) : (formulaParenthesized_laidWorld os).os = os := World.laidAll_os _ _ _
theorem formulaParenthesized_laid_met (os : Os) (args : Array Value) : laidMet Tryz.prog Rows.formulaParenthesizedUptoRow.laid ((formulaParenthesized_laidWorld os).forCall (fun _ _ => 0) ⟨#[], args, []⟩).memory :=
  laidMet_laidAll args (by kernel_rfl) (by kernel_rfl)

set_option maxRecDepth 100000 in
theorem formulaParenthesized_contract (H : Type) (enc : TypeId × Value → H) (W : World) (base : Nat) (args : Array Value) (ds gs : List (DataW H)) (before : List MemPlace)
    (hval : ∀ (j : Nat) t v, Tryz.f7.params[j]? = some t → args[j]? = some v → Value.okWide Tryz.prog W .any base t v)
    (hW : DataW.Whole enc Tryz.prog Tryz.f7.params.toList Rows.formulaParenthesizedSpec.vars false W args.toList ds gs before) (hL : laidMetH Tryz.prog Rows.formulaParenthesizedUptoRow.laid W) (hk : Rows.uptoBulkAll (ds ++ gs) ≤ 1048576) :
    Calls Tryz.prog 7 args W fun e W' => ∃ v, e = .returned v ∧ Rows.formulaParenthesizedSpec.post enc Tryz.prog Tryz.f7 false true false false W args v W' := by
  rw [MakeChecks.laidMetH_plain _ _ _ (by kernel_rfl)] at hL
  have hE := (⟨env_of hL (by kernel_rfl) (by kernel_rfl), senv_of hL (by kernel_rfl), fenv_of hL (by kernel_rfl)⟩ : Env W ∧ SEnv W ∧ FEnv W)
  have hW' := hW
  obtain ⟨p, q, hA0, hV, rfl, hfz, hnd⟩ := hW
  have hA : DataW.TrodAll enc Tryz.prog W 0 (fun _ => true) true Tryz.f7.params.toList args.toList ds p := hA0
  rw [Tryz.params7] at hA hval
  obtain ⟨v0, vs0, d0, ds0, p0, q0, hargs, rfl, rfl, h0, r0⟩ := trodAll_cons hA
  obtain ⟨rfl, rfl, rfl⟩ := trodAll_nil r0
  simp only [bulk_app, Rows.uptoBulkAll] at hk
  obtain rfl : args = #[v0] := by cases args; simp_all
  have walk : Calls Tryz.prog 7 #[v0] W fun e w' => e = .returned (.bool true) ∧ Upto [] W w' := by
    obtain ⟨qq0, hq0⟩ := open_question (okWide_struct Tryz.underlying45 (hval 0 45 v0 rfl rfl)) h0 (by omega)
    exact formulaParenthesized_walk qq0 v0 W hq0 hE
  exact walk.mono fun e W' ⟨he, hu⟩ => ⟨_, he, post_true (hv := rfl) (by kernel_rfl) (by kernel_rfl) (by kernel_rfl) hW' (fun _ => rfl) hu⟩

set_option maxRecDepth 100000 in
theorem formulaParenthesized_reads (os : Os) {H : Type} (enc : TypeId × Value → H) : ∃ places, DataW.whole enc Tryz.prog ((formulaParenthesized_laidWorld os).forCall (fun _ _ => 0) ⟨#[], #[.agg #[.slice none 0 0, .int .i64 0, .slice none 0 0, .int .i64 0, .int .i64 0, .int .i64 0, .slice none 0 0]], []⟩).memory Tryz.f7.params.toList Rows.formulaParenthesizedSpec.vars false #[.agg #[.slice none 0 0, .int .i64 0, .slice none 0 0, .int .i64 0, .int .i64 0, .int .i64 0, .slice none 0 0]].toList 8 = some ([.agg [.nil, .agg [.lit (.int .i64 0), .nil, .lit (.int .i64 0), .lit (.int .i64 0), .lit (.int .i64 0), .nil]]], [], places) :=
  ⟨[], by kernel_rfl⟩
set_option maxRecDepth 100000 in
theorem formulaParenthesized_lifted (os : Os) (started : os.Started) (H : Type) (enc : TypeId × Value → H) (F : Stop.Interp) :
    ReturnsInHanded {} Tryz.checked os 7 .any ((Rows.OpenSpec.upto Rows.formulaParenthesizedSpec).preRow enc Tryz.prog Tryz.f7 Rows.formulaParenthesizedUptoRow.domain false Rows.formulaParenthesizedUptoRow.laid) (((Rows.OpenSpec.upto Rows.formulaParenthesizedSpec).at F).post enc Tryz.prog Tryz.f7 false true false false) := by
  obtain ⟨places, hx⟩ := formulaParenthesized_reads os enc
  refine returnsInHanded_of_row (C := Tryz.checked) (s := (Rows.OpenSpec.upto Rows.formulaParenthesizedSpec)) own started (by kernel_rfl) Tryz.func7
    (witness_row_atRef (enc := enc) (C := Tryz.checked) false (formulaParenthesized_laidWorld os) #[.agg #[.slice none 0 0, .int .i64 0, .slice none 0 0, .int .i64 0, .int .i64 0, .int .i64 0, .slice none 0 0]] (formulaParenthesized_laidWorld_os os) (by kernel_rfl) (by kernel_rfl) (by kernel_rfl)
      (OpenSpec.preRow_of_cond 8 hx (by kernel_rfl) (fun k hk => by cases hk; kernel_rfl) (by kernel_rfl) (formulaParenthesized_laid_met os _))) ?_
  intro W base args ds gs before hval hW _ hcond _ hL _ _
  exact formulaParenthesized_contract H enc W base args ds gs before hval hW hL (of_decide_eq_true (hcond _ rfl))

theorem formulaParenthesized_and {a b : Bool} (h : a = true) (k : b = true) : (a && b) = true := by rw [h, k]; rfl
theorem formulaParenthesized_k0 : (Rows.formulaParenthesizedUptoRow.wf (OpenSpec.ofChange (Rows.OpenSpec.upto Rows.formulaParenthesizedSpec).bare)) = true := by kernel_rfl
theorem formulaParenthesized_k1 : (laidOutB Tryz.pinned.checked.prog) = true := by kernel_rfl
theorem formulaParenthesized_k2 : (mapsRowed Tryz.pinned.checked.prog) = true := by kernel_rfl
theorem formulaParenthesized_k3 : (Tryz.f7.params.all (Tryz.pinned.checked.prog.readableRec ·)) = true := by kernel_rfl
theorem formulaParenthesized_k4 : (namedTie Tryz.pinned.checked.prog Rows.formulaParenthesizedUptoRow.named (Rows.OpenSpec.upto Rows.formulaParenthesizedSpec).bare.vars) = true := by kernel_rfl
theorem formulaParenthesized_k5 : (Rows.formulaParenthesizedUptoRow.stops == []) = true := by kernel_rfl
theorem formulaParenthesized_k6 : (Tryz.pinned.checked.prog.stops == []) = true := by kernel_rfl
theorem formulaParenthesized_k7 : (Rows.formulaParenthesizedUptoRow.knobs == []) = true := by kernel_rfl
theorem formulaParenthesized_k8 : (Tryz.pinned.checked.prog.stopKnobs == []) = true := by kernel_rfl
theorem formulaParenthesized_k9 : (Rows.formulaParenthesizedUptoRow.inPlace == Tryz.pinned.checked.prog.inPlace 7) = true := by kernel_rfl
theorem formulaParenthesized_k10 : (Rows.formulaParenthesizedUptoRow.unfollowed == Tryz.pinned.checked.prog.unfollowed 7) = true := by kernel_rfl
theorem formulaParenthesized_k11 : (Rows.formulaParenthesizedUptoRow.recurses == Tryz.pinned.checked.prog.recurses 7) = true := by kernel_rfl
theorem formulaParenthesized_k12 : (Rows.formulaParenthesizedUptoRow.named == Tryz.pinned.checked.prog.varsNamed 7) = true := by kernel_rfl
theorem formulaParenthesized_k13 : (Rows.formulaParenthesizedUptoRow.maps == (Tryz.f7.params.toList ++ (Rows.OpenSpec.upto Rows.formulaParenthesizedSpec).bare.plain.varTypes Tryz.pinned.checked.prog).any (Tryz.pinned.checked.prog.mapsRec ·)) = true := by kernel_rfl
theorem formulaParenthesized_k14 : (Rows.formulaParenthesizedUptoRow.ifaces == (Tryz.f7.params.toList ++ (Rows.OpenSpec.upto Rows.formulaParenthesizedSpec).bare.plain.varTypes Tryz.pinned.checked.prog).any (Tryz.pinned.checked.prog.ifacesRec ·)) = true := by kernel_rfl
theorem formulaParenthesized_k15 : (Rows.formulaParenthesizedUptoRow.mapsOut == Tryz.pinned.checked.prog.mapsAmong Tryz.f7.resultTypes.toList) = true := by kernel_rfl
theorem formulaParenthesized_k16 : (Rows.formulaParenthesizedUptoRow.loops == (Tryz.f7.params.toList ++ (Rows.OpenSpec.upto Rows.formulaParenthesizedSpec).bare.plain.varTypes Tryz.pinned.checked.prog).any (Tryz.pinned.checked.prog.loopsFrom ·)) = true := by kernel_rfl
theorem formulaParenthesized_k17 : (Rows.formulaParenthesizedUptoRow.wideKeys == (Tryz.f7.params.toList ++ (Rows.OpenSpec.upto Rows.formulaParenthesizedSpec).bare.plain.varTypes Tryz.pinned.checked.prog ++ Tryz.f7.resultTypes.toList).any (Tryz.pinned.checked.prog.wideKeysFrom ·)) = true := by kernel_rfl
theorem formulaParenthesized_k18 : ((Rows.OpenSpec.upto Rows.formulaParenthesizedSpec).bare.vars.all (Tryz.pinned.checked.prog.varReadable ·)) = true := by kernel_rfl
theorem formulaParenthesized_k19 : (Tryz.f7.resultTypes.all (fun t => Tryz.pinned.checked.prog.readableRec t && decide (t < Tryz.pinned.checked.prog.types.size))) = true := by kernel_rfl
theorem formulaParenthesized_k20 : (Rows.formulaParenthesizedUptoRow.ifacesOut == Tryz.f7.resultTypes.toList.any (Tryz.pinned.checked.prog.ifacesRec ·)) = true := by kernel_rfl
theorem formulaParenthesized_k21 : (Rows.formulaParenthesizedUptoRow.loopsOut == Tryz.f7.resultTypes.toList.any (Tryz.pinned.checked.prog.loopsFrom ·)) = true := by kernel_rfl
theorem formulaParenthesized_k22 : (Rows.formulaParenthesizedUptoRow.plainKeys == Tryz.pinned.checked.prog.plainKeys) = true := by kernel_rfl
theorem formulaParenthesized_k23 : (Rows.formulaParenthesizedUptoRow.shortTexts.isNone) = true := by kernel_rfl
theorem formulaParenthesized_k24 : (Tryz.pinned.checked.prog.stopsHeard) = true := by kernel_rfl
theorem formulaParenthesized_k25 : (Tryz.pinned.checked.prog.mayEnter) = true := by kernel_rfl
theorem formulaParenthesized_k26 : (Rows.formulaParenthesizedUptoRow.lifted == Tryz.pinned.checked.prog.liftsFinal) = true := by kernel_rfl
theorem formulaParenthesized_k27 : (Tryz.pinned.checked.prog.make == some Rows.formulaParenthesizedUptoRow.make) = true := by kernel_rfl
theorem formulaParenthesized_k28 : (Rows.formulaParenthesizedUptoRow.kinds == (if Rows.formulaParenthesizedUptoRow.domain.isEmpty then [] else Tryz.f7.params.toList.map fun t => match Tryz.pinned.checked.prog.underlying t with | some (.int k) => some k | _ => none)) = true := by kernel_rfl
theorem formulaParenthesized_k29 : (Rows.formulaParenthesizedUptoRow.pinned == Rows.formulaParenthesizedUptoRow.pinnedBy) = true := by kernel_rfl
theorem formulaParenthesized_k30 : (Rows.formulaParenthesizedUptoRow.veiled == (Tryz.f7.params.toList ++ (Rows.OpenSpec.upto Rows.formulaParenthesizedSpec).bare.plain.varTypes Tryz.pinned.checked.prog ++ Tryz.f7.resultTypes.toList).any (Tryz.pinned.checked.prog.veiledRec ·)) = true := by kernel_rfl
theorem formulaParenthesized_k31 : (Rows.formulaParenthesizedUptoRow.veiledFits Tryz.pinned.checked.prog Tryz.f7.params.toList (Tryz.f7.params.toList ++ (Rows.OpenSpec.upto Rows.formulaParenthesizedSpec).bare.plain.varTypes Tryz.pinned.checked.prog ++ Tryz.f7.resultTypes.toList)) = true := by kernel_rfl
set_option maxRecDepth 100000 in
theorem formulaParenthesized_closed : joinedFacts Tryz.pinned.checked.prog 7 Tryz.f7 (Rows.OpenSpec.upto Rows.formulaParenthesizedSpec).bare Rows.formulaParenthesizedUptoRow = true := by
  unfold joinedFacts
  exact (formulaParenthesized_and (formulaParenthesized_and (formulaParenthesized_and (formulaParenthesized_and (formulaParenthesized_and (formulaParenthesized_and (formulaParenthesized_and (formulaParenthesized_and (formulaParenthesized_and (formulaParenthesized_and (formulaParenthesized_and (formulaParenthesized_and (formulaParenthesized_and (formulaParenthesized_and (formulaParenthesized_and (formulaParenthesized_and (formulaParenthesized_and (formulaParenthesized_and (formulaParenthesized_and (formulaParenthesized_and (formulaParenthesized_and (formulaParenthesized_and (formulaParenthesized_and (formulaParenthesized_and (formulaParenthesized_and (formulaParenthesized_and (formulaParenthesized_and (formulaParenthesized_and (formulaParenthesized_and (formulaParenthesized_and (formulaParenthesized_and formulaParenthesized_k0 formulaParenthesized_k1) formulaParenthesized_k2) formulaParenthesized_k3) formulaParenthesized_k4) formulaParenthesized_k5) formulaParenthesized_k6) formulaParenthesized_k7) formulaParenthesized_k8) formulaParenthesized_k9) formulaParenthesized_k10) formulaParenthesized_k11) formulaParenthesized_k12) formulaParenthesized_k13) formulaParenthesized_k14) formulaParenthesized_k15) formulaParenthesized_k16) formulaParenthesized_k17) formulaParenthesized_k18) formulaParenthesized_k19) formulaParenthesized_k20) formulaParenthesized_k21) formulaParenthesized_k22) formulaParenthesized_k23) formulaParenthesized_k24) formulaParenthesized_k25) formulaParenthesized_k26) formulaParenthesized_k27) formulaParenthesized_k28) formulaParenthesized_k29) formulaParenthesized_k30) formulaParenthesized_k31)

theorem formulaParenthesized_said : Rows.FormulaParenthesizedUptoSaid :=
  OpenClaim.holds_of_cond 7 Tryz.f7 rfl rfl rfl rfl rfl rfl rfl ⟨rfl, rfl, rfl, rfl, rfl⟩ rfl rfl rfl rfl rfl (by kernel_rfl) Tryz.func7 formulaParenthesized_closed
    (of_decide_eq_true (by kernel_rfl)) (by unfold Func.isWrapper; first | (rw [if_pos (by decide +kernel)]; kernel_rfl) | (rw [if_neg (by decide +kernel)]; exact ⟨rfl, rfl⟩))
    (fun os started H enc _ F => by rw [OpenClaim.pre_eq_preRow]; exact formulaParenthesized_lifted os started H enc F)
theorem formulaParenthesized_plain (f : FuncId) (fn : Func) (hf : Tryz.pinned.checked.prog.funcNamed "palmette/palmettelaw10.FormulaParenthesized" = some f) (hfn : Tryz.pinned.checked.prog.funcs[f]? = some fn) :
    true = Tryz.pinned.checked.prog.looks [] ∧ ∀ (j : Nat) t, fn.params[j]? = some t → Tryz.pinned.checked.prog.wantsStandIn t = false := by
  obtain rfl : f = 7 := Option.some.inj ((show Tryz.prog.funcNamed "palmette/palmettelaw10.FormulaParenthesized" = some 7 by kernel_rfl).symm.trans hf) |>.symm
  obtain rfl : fn = Tryz.f7 := (Option.some.inj (Tryz.func7.symm.trans hfn)).symm
  refine ⟨by kernel_rfl, fun j t ht => ?_⟩
  rw [Tryz.params7] at ht
  have hm : t ∈ [45] := by simpa using Array.mem_of_getElem? ht
  simp only [List.mem_cons, List.not_mem_nil, or_false] at hm
  rcases hm with rfl
  · exact (show Tryz.prog.wantsStandIn 45 = false by kernel_rfl)

/-- the law's card -/
theorem formulaParenthesized : Rows.FormulaParenthesizedUptoCardSaid :=
  Claim7.holds_tied_plain_at .later [] _ _ _ _ formulaParenthesized_said (fun _ h => by cases h) (by kernel_rfl) (fun _ h => by cases h) formulaParenthesizedUpto_row_tie rfl ⟨rfl, rfl⟩ (by kernel_rfl) rfl formulaParenthesized_plain (by kernel_rfl)
end Go.Proofs.YtkhbpebpljdifaaGreatDoor
