/- FormulaQuantifierScope: true for every formula and three bytes. Conditions: the row of its statement (tables and errors of the standard library read as their texts lay them; the arguments are together of bulk at most 1048576). -/
import Derived.Test.YtkhbpebpljdifaaGreatDoorMFooD
import Derived.Deep.DeepWitnessRowRef
namespace Go.Proofs.YtkhbpebpljdifaaGreatDoor
open Go.ChangeShapes Go.WideShapes Go.ChangeAt Go.RowKit Go.PL Go.Deep
open Go.ChangeMaps (open_string)

theorem bulk_app {H : Type} (a b : List (DataW H)) : Rows.uptoBulkAll (a ++ b) = Rows.uptoBulkAll a + Rows.uptoBulkAll b := by
  induction a with
  | nil => simp [Rows.uptoBulkAll]
  | cons x xs ih => simp only [List.cons_append, Rows.uptoBulkAll, ih]; omega
/-- A world for the witness: the settled one, the tables holding what their initialisers lay. -/
noncomputable def formulaQuantifierScope_laidWorld (os : Os) : World := World.laidAll Tryz.prog os Rows.formulaQuantifierScopeUptoRow.laid
theorem formulaQuantifierScope_laidWorld_os (os : Os) : (formulaQuantifierScope_laidWorld os).os = os := World.laidAll_os _ _ _
theorem formulaQuantifierScope_laid_met (os : Os) (args : Array Value) : laidMet Tryz.prog Rows.formulaQuantifierScopeUptoRow.laid ((formulaQuantifierScope_laidWorld os).forCall (fun _ _ => 0) ⟨#[], args, []⟩).memory :=
  laidMet_laidAll args (by kernel_rfl) (by kernel_rfl)

set_option maxRecDepth 100000 in
theorem formulaQuantifierScope_contract (H : Type) (enc : TypeId × Value → H) (W : World) (base : Nat) (args : Array Value) (ds gs : List (DataW H)) (before : List MemPlace)
    (hval : ∀ (j : Nat) t v, Tryz.f3.params[j]? = some t → args[j]? = some v → Value.okWide Tryz.prog W .any base t v)
    (hW : DataW.Whole enc Tryz.prog Tryz.f3.params.toList Rows.formulaQuantifierScopeSpec.vars false W args.toList ds gs before) (hL : laidMetH Tryz.prog Rows.formulaQuantifierScopeUptoRow.laid W) (hk : Rows.uptoBulkAll (ds ++ gs) ≤ 1048576) :
    Calls Tryz.prog 3 args W fun e W' => ∃ v, e = .returned v ∧ Rows.formulaQuantifierScopeSpec.post enc Tryz.prog Tryz.f3 false true false false W args v W' := by
  rw [MakeChecks.laidMetH_plain _ _ _ (by kernel_rfl)] at hL
  have hE := (⟨env_of hL (by kernel_rfl) (by kernel_rfl), senv_of hL (by kernel_rfl)⟩ : Env W ∧ SEnv W)
  have hW' := hW
  obtain ⟨p, q, hA0, hV, rfl, hfz, hnd⟩ := hW
  have hA : DataW.TrodAll enc Tryz.prog W 0 (fun _ => true) true Tryz.f3.params.toList args.toList ds p := hA0
  rw [Tryz.params3] at hA hval
  obtain ⟨v0, vs0, d0, ds0, p0, q0, hargs, rfl, rfl, h0, r0⟩ := trodAll_cons hA
  obtain ⟨v1, vs1, d1, ds1, p1, q1, rfl, rfl, rfl, h1, r1⟩ := trodAll_cons r0
  obtain ⟨rfl, rfl, rfl⟩ := trodAll_nil r1
  simp only [bulk_app, Rows.uptoBulkAll] at hk
  obtain rfl : args = #[v0, v1] := by cases args; simp_all
  have walk : Calls Tryz.prog 3 #[v0, v1] W fun e w' => e = .returned (.bool true) ∧ Upto [] W w' := by
    obtain ⟨qq0, hq0⟩ := open_formula (okWide_struct Tryz.underlying25 (hval 0 25 v0 rfl rfl)) h0 (by omega)
    obtain ⟨za1, zb1, zc1, rfl, wa1, wb1, wc1⟩ := open_three (okw_array Tryz.underlying26 (hval 1 26 v1 rfl rfl)) h1
    exact formulaQuantifierScope_walk qq0 v0 za1 zb1 zc1 W hq0 wa1 wb1 wc1 hE
  exact walk.mono fun e W' ⟨he, hu⟩ => ⟨_, he, post_true (hv := rfl) (by kernel_rfl) (by kernel_rfl) (by kernel_rfl) hW' (fun _ => rfl) hu⟩

set_option maxRecDepth 100000 in
theorem formulaQuantifierScope_reads (os : Os) {H : Type} (enc : TypeId × Value → H) : ∃ places, DataW.whole enc Tryz.prog ((formulaQuantifierScope_laidWorld os).forCall (fun _ _ => 0) ⟨#[], #[.agg #[.int .i64 0, .slice none 0 0, .int .i64 0, .int .i64 0, .int .i64 0, .slice none 0 0], .agg #[.int .u8 0, .int .u8 0, .int .u8 0]], []⟩).memory Tryz.f3.params.toList Rows.formulaQuantifierScopeSpec.vars false #[.agg #[.int .i64 0, .slice none 0 0, .int .i64 0, .int .i64 0, .int .i64 0, .slice none 0 0], .agg #[.int .u8 0, .int .u8 0, .int .u8 0]].toList 8 = some ([.agg [.lit (.int .i64 0), .nil, .lit (.int .i64 0), .lit (.int .i64 0), .lit (.int .i64 0), .nil], .agg [.lit (.int .u8 0), .lit (.int .u8 0), .lit (.int .u8 0)]], [], places) :=
  ⟨[], by kernel_rfl⟩
set_option maxRecDepth 100000 in
theorem formulaQuantifierScope_lifted (os : Os) (started : os.Started) (H : Type) (enc : TypeId × Value → H) (F : Stop.Interp) :
    ReturnsInHanded {} Tryz.checked os 3 .any ((Rows.OpenSpec.upto Rows.formulaQuantifierScopeSpec).preRow enc Tryz.prog Tryz.f3 Rows.formulaQuantifierScopeUptoRow.domain false Rows.formulaQuantifierScopeUptoRow.laid) (((Rows.OpenSpec.upto Rows.formulaQuantifierScopeSpec).at F).post enc Tryz.prog Tryz.f3 false true false false) := by
  obtain ⟨places, hx⟩ := formulaQuantifierScope_reads os enc
  refine returnsInHanded_of_row (C := Tryz.checked) (s := (Rows.OpenSpec.upto Rows.formulaQuantifierScopeSpec)) own started (by kernel_rfl) Tryz.func3
    (witness_row_atRef (enc := enc) (C := Tryz.checked) false (formulaQuantifierScope_laidWorld os) #[.agg #[.int .i64 0, .slice none 0 0, .int .i64 0, .int .i64 0, .int .i64 0, .slice none 0 0], .agg #[.int .u8 0, .int .u8 0, .int .u8 0]] (formulaQuantifierScope_laidWorld_os os) (by kernel_rfl) (by kernel_rfl) (by kernel_rfl)
      (OpenSpec.preRow_of_cond 8 hx (by kernel_rfl) (fun k hk => by cases hk; kernel_rfl) (by kernel_rfl) (formulaQuantifierScope_laid_met os _))) ?_
  intro W base args ds gs before hval hW _ hcond _ hL _ _
  exact formulaQuantifierScope_contract H enc W base args ds gs before hval hW hL (of_decide_eq_true (hcond _ rfl))

theorem formulaQuantifierScope_and {a b : Bool} (h : a = true) (k : b = true) : (a && b) = true := by rw [h, k]; rfl
theorem formulaQuantifierScope_k0 : (Rows.formulaQuantifierScopeUptoRow.wf (OpenSpec.ofChange (Rows.OpenSpec.upto Rows.formulaQuantifierScopeSpec).bare)) = true := by kernel_rfl
theorem formulaQuantifierScope_k1 : (laidOutB Tryz.pinned.checked.prog) = true := by kernel_rfl
theorem formulaQuantifierScope_k2 : (mapsRowed Tryz.pinned.checked.prog) = true := by kernel_rfl
theorem formulaQuantifierScope_k3 : (Tryz.f3.params.all (Tryz.pinned.checked.prog.readableRec ·)) = true := by kernel_rfl
theorem formulaQuantifierScope_k4 : (namedTie Tryz.pinned.checked.prog Rows.formulaQuantifierScopeUptoRow.named (Rows.OpenSpec.upto Rows.formulaQuantifierScopeSpec).bare.vars) = true := by kernel_rfl
theorem formulaQuantifierScope_k5 : (Rows.formulaQuantifierScopeUptoRow.stops == []) = true := by kernel_rfl
theorem formulaQuantifierScope_k6 : (Tryz.pinned.checked.prog.stops == []) = true := by kernel_rfl
theorem formulaQuantifierScope_k7 : (Rows.formulaQuantifierScopeUptoRow.knobs == []) = true := by kernel_rfl
theorem formulaQuantifierScope_k8 : (Tryz.pinned.checked.prog.stopKnobs == []) = true := by kernel_rfl
theorem formulaQuantifierScope_k9 : (Rows.formulaQuantifierScopeUptoRow.inPlace == Tryz.pinned.checked.prog.inPlace 3) = true := by kernel_rfl
theorem formulaQuantifierScope_k10 : (Rows.formulaQuantifierScopeUptoRow.unfollowed == Tryz.pinned.checked.prog.unfollowed 3) = true := by kernel_rfl
theorem formulaQuantifierScope_k11 : (Rows.formulaQuantifierScopeUptoRow.recurses == Tryz.pinned.checked.prog.recurses 3) = true := by kernel_rfl
theorem formulaQuantifierScope_k12 : (Rows.formulaQuantifierScopeUptoRow.named == Tryz.pinned.checked.prog.varsNamed 3) = true := by kernel_rfl
theorem formulaQuantifierScope_k13 : (Rows.formulaQuantifierScopeUptoRow.maps == (Tryz.f3.params.toList ++ (Rows.OpenSpec.upto Rows.formulaQuantifierScopeSpec).bare.plain.varTypes Tryz.pinned.checked.prog).any (Tryz.pinned.checked.prog.mapsRec ·)) = true := by kernel_rfl
theorem formulaQuantifierScope_k14 : (Rows.formulaQuantifierScopeUptoRow.ifaces == (Tryz.f3.params.toList ++ (Rows.OpenSpec.upto Rows.formulaQuantifierScopeSpec).bare.plain.varTypes Tryz.pinned.checked.prog).any (Tryz.pinned.checked.prog.ifacesRec ·)) = true := by kernel_rfl
theorem formulaQuantifierScope_k15 : (Rows.formulaQuantifierScopeUptoRow.mapsOut == Tryz.pinned.checked.prog.mapsAmong Tryz.f3.resultTypes.toList) = true := by kernel_rfl
theorem formulaQuantifierScope_k16 : (Rows.formulaQuantifierScopeUptoRow.loops == (Tryz.f3.params.toList ++ (Rows.OpenSpec.upto Rows.formulaQuantifierScopeSpec).bare.plain.varTypes Tryz.pinned.checked.prog).any (Tryz.pinned.checked.prog.loopsFrom ·)) = true := by kernel_rfl
theorem formulaQuantifierScope_k17 : (Rows.formulaQuantifierScopeUptoRow.wideKeys == (Tryz.f3.params.toList ++ (Rows.OpenSpec.upto Rows.formulaQuantifierScopeSpec).bare.plain.varTypes Tryz.pinned.checked.prog ++ Tryz.f3.resultTypes.toList).any (Tryz.pinned.checked.prog.wideKeysFrom ·)) = true := by kernel_rfl
theorem formulaQuantifierScope_k18 : ((Rows.OpenSpec.upto Rows.formulaQuantifierScopeSpec).bare.vars.all (Tryz.pinned.checked.prog.varReadable ·)) = true := by kernel_rfl
theorem formulaQuantifierScope_k19 : (Tryz.f3.resultTypes.all (fun t => Tryz.pinned.checked.prog.readableRec t && decide (t < Tryz.pinned.checked.prog.types.size))) = true := by kernel_rfl
theorem formulaQuantifierScope_k20 : (Rows.formulaQuantifierScopeUptoRow.ifacesOut == Tryz.f3.resultTypes.toList.any (Tryz.pinned.checked.prog.ifacesRec ·)) = true := by kernel_rfl
theorem formulaQuantifierScope_k21 : (Rows.formulaQuantifierScopeUptoRow.loopsOut == Tryz.f3.resultTypes.toList.any (Tryz.pinned.checked.prog.loopsFrom ·)) = true := by kernel_rfl
theorem formulaQuantifierScope_k22 : (Rows.formulaQuantifierScopeUptoRow.plainKeys == Tryz.pinned.checked.prog.plainKeys) = true := by kernel_rfl
theorem formulaQuantifierScope_k23 : (Rows.formulaQuantifierScopeUptoRow.shortTexts.isNone) = true := by kernel_rfl
theorem formulaQuantifierScope_k24 : (Tryz.pinned.checked.prog.stopsHeard) = true := by kernel_rfl
theorem formulaQuantifierScope_k25 : (Tryz.pinned.checked.prog.mayEnter) = true := by kernel_rfl
theorem formulaQuantifierScope_k26 : (Rows.formulaQuantifierScopeUptoRow.lifted == Tryz.pinned.checked.prog.liftsFinal) = true := by kernel_rfl
theorem formulaQuantifierScope_k27 : (Tryz.pinned.checked.prog.make == some Rows.formulaQuantifierScopeUptoRow.make) = true := by kernel_rfl
theorem formulaQuantifierScope_k28 : (Rows.formulaQuantifierScopeUptoRow.kinds == (if Rows.formulaQuantifierScopeUptoRow.domain.isEmpty then [] else Tryz.f3.params.toList.map fun t => match Tryz.pinned.checked.prog.underlying t with | some (.int k) => some k | _ => none)) = true := by kernel_rfl
theorem formulaQuantifierScope_k29 : (Rows.formulaQuantifierScopeUptoRow.pinned == Rows.formulaQuantifierScopeUptoRow.pinnedBy) = true := by kernel_rfl
theorem formulaQuantifierScope_k30 : (Rows.formulaQuantifierScopeUptoRow.veiled == (Tryz.f3.params.toList ++ (Rows.OpenSpec.upto Rows.formulaQuantifierScopeSpec).bare.plain.varTypes Tryz.pinned.checked.prog ++ Tryz.f3.resultTypes.toList).any (Tryz.pinned.checked.prog.veiledRec ·)) = true := by kernel_rfl
theorem formulaQuantifierScope_k31 : (Rows.formulaQuantifierScopeUptoRow.veiledFits Tryz.pinned.checked.prog Tryz.f3.params.toList (Tryz.f3.params.toList ++ (Rows.OpenSpec.upto Rows.formulaQuantifierScopeSpec).bare.plain.varTypes Tryz.pinned.checked.prog ++ Tryz.f3.resultTypes.toList)) = true := by kernel_rfl
set_option maxRecDepth 100000 in
theorem formulaQuantifierScope_closed : joinedFacts Tryz.pinned.checked.prog 3 Tryz.f3 (Rows.OpenSpec.upto Rows.formulaQuantifierScopeSpec).bare Rows.formulaQuantifierScopeUptoRow = true := by
  unfold joinedFacts
  exact (formulaQuantifierScope_and (formulaQuantifierScope_and (formulaQuantifierScope_and (formulaQuantifierScope_and (formulaQuantifierScope_and (formulaQuantifierScope_and (formulaQuantifierScope_and (formulaQuantifierScope_and (formulaQuantifierScope_and (formulaQuantifierScope_and (formulaQuantifierScope_and (formulaQuantifierScope_and (formulaQuantifierScope_and (formulaQuantifierScope_and (formulaQuantifierScope_and (formulaQuantifierScope_and (formulaQuantifierScope_and (formulaQuantifierScope_and (formulaQuantifierScope_and (formulaQuantifierScope_and (formulaQuantifierScope_and (formulaQuantifierScope_and (formulaQuantifierScope_and (formulaQuantifierScope_and (formulaQuantifierScope_and (formulaQuantifierScope_and (formulaQuantifierScope_and (formulaQuantifierScope_and (formulaQuantifierScope_and (formulaQuantifierScope_and (formulaQuantifierScope_and formulaQuantifierScope_k0 formulaQuantifierScope_k1) formulaQuantifierScope_k2) formulaQuantifierScope_k3) formulaQuantifierScope_k4) formulaQuantifierScope_k5) formulaQuantifierScope_k6) formulaQuantifierScope_k7) formulaQuantifierScope_k8) formulaQuantifierScope_k9) formulaQuantifierScope_k10) formulaQuantifierScope_k11) formulaQuantifierScope_k12) formulaQuantifierScope_k13) formulaQuantifierScope_k14) formulaQuantifierScope_k15) formulaQuantifierScope_k16) formulaQuantifierScope_k17) formulaQuantifierScope_k18) formulaQuantifierScope_k19) formulaQuantifierScope_k20) formulaQuantifierScope_k21) formulaQuantifierScope_k22) formulaQuantifierScope_k23) formulaQuantifierScope_k24) formulaQuantifierScope_k25) formulaQuantifierScope_k26) formulaQuantifierScope_k27) formulaQuantifierScope_k28) formulaQuantifierScope_k29) formulaQuantifierScope_k30) formulaQuantifierScope_k31)

theorem formulaQuantifierScope_said : Rows.FormulaQuantifierScopeUptoSaid :=
  OpenClaim.holds_of_cond 3 Tryz.f3 rfl rfl rfl rfl rfl rfl rfl ⟨rfl, rfl, rfl, rfl, rfl⟩ rfl rfl rfl rfl rfl (by kernel_rfl) Tryz.func3 formulaQuantifierScope_closed
    (of_decide_eq_true (by kernel_rfl)) (by unfold Func.isWrapper; first | (rw [if_pos (by decide +kernel)]; kernel_rfl) | (rw [if_neg (by decide +kernel)]; exact ⟨rfl, rfl⟩))
    (fun os started H enc _ F => by rw [OpenClaim.pre_eq_preRow]; exact formulaQuantifierScope_lifted os started H enc F)
theorem formulaQuantifierScope_plain (f : FuncId) (fn : Func) (hf : Tryz.pinned.checked.prog.funcNamed "palmette/palmettelaw10.FormulaQuantifierScope" = some f) (hfn : Tryz.pinned.checked.prog.funcs[f]? = some fn) :
    true = Tryz.pinned.checked.prog.looks [] ∧ ∀ (j : Nat) t, fn.params[j]? = some t → Tryz.pinned.checked.prog.wantsStandIn t = false := by
  obtain rfl : f = 3 := Option.some.inj ((show Tryz.prog.funcNamed "palmette/palmettelaw10.FormulaQuantifierScope" = some 3 by kernel_rfl).symm.trans hf) |>.symm
  obtain rfl : fn = Tryz.f3 := (Option.some.inj (Tryz.func3.symm.trans hfn)).symm
  refine ⟨by kernel_rfl, fun j t ht => ?_⟩
  rw [Tryz.params3] at ht
  have hm : t ∈ [25, 26] := by simpa using Array.mem_of_getElem? ht
  simp only [List.mem_cons, List.not_mem_nil, or_false] at hm
  rcases hm with rfl | rfl
  · exact (show Tryz.prog.wantsStandIn 25 = false by kernel_rfl)
  · exact (show Tryz.prog.wantsStandIn 26 = false by kernel_rfl)

/-- the law's card -/
theorem formulaQuantifierScope : Rows.FormulaQuantifierScopeUptoCardSaid :=
  Claim7.holds_tied_plain_at .later [] _ _ _ _ formulaQuantifierScope_said (fun _ h => by cases h) (by kernel_rfl) (fun _ h => by cases h) formulaQuantifierScopeUpto_row_tie rfl ⟨rfl, rfl⟩ (by kernel_rfl) rfl formulaQuantifierScope_plain (by kernel_rfl)
end Go.Proofs.YtkhbpebpljdifaaGreatDoor
