/- ScopeNames: ScopeNames: Free, Bound and the quantifier counts agree with the reference for all valid formulas. Conditions: the row of its statement (tables and errors of the standard library read as their texts lay them; the arguments are together of bulk at most 1048576). -/
import Derived.Test.YtbnebkkpmcjmbaaGreatDoorMSnf
import Derived.Deep.DeepWitnessRowRef
namespace Go.Proofs.YtbnebkkpmcjmbaaGreatDoor
open Go.ChangeShapes Go.WideShapes Go.ChangeAt Go.RowKit Go.PL Go.Deep
open Go.ChangeMaps (open_string)

theorem bulk_app {H : Type} (a b : List (DataW H)) : Rows.uptoBulkAll (a ++ b) = Rows.uptoBulkAll a + Rows.uptoBulkAll b := by
  induction a with
  | nil => simp [Rows.uptoBulkAll]
  | cons x xs ih => simp only [List.cons_append, Rows.uptoBulkAll, ih]; omega
/-- A world for the witness: the settled one, the tables holding what their initialisers lay. -/
noncomputable def scopeNames_laidWorld (os : Os) : World := World.laidAll Tryz.prog os Rows.scopeNamesUptoRow.laid
theorem scopeNames_laidWorld_os (os : Os) : (scopeNames_laidWorld os).os = os := World.laidAll_os _ _ _
theorem scopeNames_laid_met (os : Os) (args : Array Value) : laidMet Tryz.prog Rows.scopeNamesUptoRow.laid ((scopeNames_laidWorld os).forCall (fun _ _ => 0) ⟨#[], args, []⟩).memory :=
  laidMet_laidAll args (by kernel_rfl) (by kernel_rfl)

set_option maxRecDepth 100000 in
theorem scopeNames_contract (H : Type) (enc : TypeId × Value → H) (W : World) (base : Nat) (args : Array Value) (ds gs : List (DataW H)) (before : List MemPlace)
    (hval : ∀ (j : Nat) t v, Tryz.f6.params[j]? = some t → args[j]? = some v → Value.okWide Tryz.prog W .any base t v)
    (hW : DataW.Whole enc Tryz.prog Tryz.f6.params.toList Rows.scopeNamesSpec.vars false W args.toList ds gs before) (hL : laidMetH Tryz.prog Rows.scopeNamesUptoRow.laid W) (hk : Rows.uptoBulkAll (ds ++ gs) ≤ 1048576) :
    Calls Tryz.prog 6 args W fun e W' => ∃ v, e = .returned v ∧ Rows.scopeNamesSpec.post enc Tryz.prog Tryz.f6 false true false false W args v W' := by
  rw [MakeChecks.laidMetH_plain _ _ _ (by kernel_rfl)] at hL
  have hE := (⟨env_of hL (by kernel_rfl) (by kernel_rfl), senv_of hL (by kernel_rfl), fenv_of hL (by kernel_rfl)⟩ : Env W ∧ SEnv W ∧ FEnv W)
  have hW' := hW
  obtain ⟨p, q, hA0, hV, rfl, hfz, hnd⟩ := hW
  have hA : DataW.TrodAll enc Tryz.prog W 0 (fun _ => true) true Tryz.f6.params.toList args.toList ds p := hA0
  rw [Tryz.params6] at hA hval
  obtain ⟨v0, vs0, d0, ds0, p0, q0, hargs, rfl, rfl, h0, r0⟩ := trodAll_cons hA
  obtain ⟨rfl, rfl, rfl⟩ := trodAll_nil r0
  simp only [bulk_app, Rows.uptoBulkAll] at hk
  obtain rfl : args = #[v0] := by cases args; simp_all
  have walk : Calls Tryz.prog 6 #[v0] W fun e w' => e = .returned (.bool true) ∧ Upto [] W w' := by
    obtain ⟨qq0, hq0⟩ := open_formula (okWide_struct Tryz.underlying25 (hval 0 25 v0 rfl rfl)) h0 (by omega)
    exact scopeNames_walk qq0 v0 W hq0 hE
  exact walk.mono fun e W' ⟨he, hu⟩ => ⟨_, he, post_true (hv := rfl) (by kernel_rfl) (by kernel_rfl) (by kernel_rfl) hW' (fun _ => rfl) hu⟩

set_option maxRecDepth 100000 in
theorem scopeNames_reads (os : Os) {H : Type} (enc : TypeId × Value → H) : ∃ places, DataW.whole enc Tryz.prog ((scopeNames_laidWorld os).forCall (fun _ _ => 0) ⟨#[], #[.agg #[.int .i64 0, .slice none 0 0, .int .i64 0, .int .i64 0, .int .i64 0, .slice none 0 0]], []⟩).memory Tryz.f6.params.toList Rows.scopeNamesSpec.vars false #[.agg #[.int .i64 0, .slice none 0 0, .int .i64 0, .int .i64 0, .int .i64 0, .slice none 0 0]].toList 8 = some ([.agg [.lit (.int .i64 0), .nil, .lit (.int .i64 0), .lit (.int .i64 0), .lit (.int .i64 0), .nil]], [], places) :=
  ⟨[], by kernel_rfl⟩
set_option maxRecDepth 100000 in
theorem scopeNames_lifted (os : Os) (started : os.Started) (H : Type) (enc : TypeId × Value → H) (F : Stop.Interp) :
    ReturnsInHanded {} Tryz.checked os 6 .any ((Rows.OpenSpec.upto Rows.scopeNamesSpec).preRow enc Tryz.prog Tryz.f6 Rows.scopeNamesUptoRow.domain false Rows.scopeNamesUptoRow.laid) (((Rows.OpenSpec.upto Rows.scopeNamesSpec).at F).post enc Tryz.prog Tryz.f6 false true false false) := by
  obtain ⟨places, hx⟩ := scopeNames_reads os enc
  refine returnsInHanded_of_row (C := Tryz.checked) (s := (Rows.OpenSpec.upto Rows.scopeNamesSpec)) own started (by kernel_rfl) Tryz.func6
    (witness_row_atRef (enc := enc) (C := Tryz.checked) false (scopeNames_laidWorld os) #[.agg #[.int .i64 0, .slice none 0 0, .int .i64 0, .int .i64 0, .int .i64 0, .slice none 0 0]] (scopeNames_laidWorld_os os) (by kernel_rfl) (by kernel_rfl) (by kernel_rfl)
      (OpenSpec.preRow_of_cond 8 hx (by kernel_rfl) (fun k hk => by cases hk; kernel_rfl) (by kernel_rfl) (scopeNames_laid_met os _))) ?_
  intro W base args ds gs before hval hW _ hcond _ hL _ _
  exact scopeNames_contract H enc W base args ds gs before hval hW hL (of_decide_eq_true (hcond _ rfl))

theorem scopeNames_and {a b : Bool} (h : a = true) (k : b = true) : (a && b) = true := by rw [h, k]; rfl
theorem scopeNames_k0 : (Rows.scopeNamesUptoRow.wf (OpenSpec.ofChange (Rows.OpenSpec.upto Rows.scopeNamesSpec).bare)) = true := by kernel_rfl
theorem scopeNames_k1 : (laidOutB Tryz.pinned.checked.prog) = true := by kernel_rfl
theorem scopeNames_k2 : (mapsRowed Tryz.pinned.checked.prog) = true := by kernel_rfl
theorem scopeNames_k3 : (Tryz.f6.params.all (Tryz.pinned.checked.prog.readableRec ·)) = true := by kernel_rfl
theorem scopeNames_k4 : (namedTie Tryz.pinned.checked.prog Rows.scopeNamesUptoRow.named (Rows.OpenSpec.upto Rows.scopeNamesSpec).bare.vars) = true := by kernel_rfl
theorem scopeNames_k5 : (Rows.scopeNamesUptoRow.stops == []) = true := by kernel_rfl
theorem scopeNames_k6 : (Tryz.pinned.checked.prog.stops == []) = true := by kernel_rfl
theorem scopeNames_k7 : (Rows.scopeNamesUptoRow.knobs == []) = true := by kernel_rfl
theorem scopeNames_k8 : (Tryz.pinned.checked.prog.stopKnobs == []) = true := by kernel_rfl
theorem scopeNames_k9 : (Rows.scopeNamesUptoRow.inPlace == Tryz.pinned.checked.prog.inPlace 6) = true := by kernel_rfl
theorem scopeNames_k10 : (Rows.scopeNamesUptoRow.unfollowed == Tryz.pinned.checked.prog.unfollowed 6) = true := by kernel_rfl
theorem scopeNames_k11 : (Rows.scopeNamesUptoRow.recurses == Tryz.pinned.checked.prog.recurses 6) = true := by kernel_rfl
theorem scopeNames_k12 : (Rows.scopeNamesUptoRow.named == Tryz.pinned.checked.prog.varsNamed 6) = true := by kernel_rfl
theorem scopeNames_k13 : (Rows.scopeNamesUptoRow.maps == (Tryz.f6.params.toList ++ (Rows.OpenSpec.upto Rows.scopeNamesSpec).bare.plain.varTypes Tryz.pinned.checked.prog).any (Tryz.pinned.checked.prog.mapsRec ·)) = true := by kernel_rfl
theorem scopeNames_k14 : (Rows.scopeNamesUptoRow.ifaces == (Tryz.f6.params.toList ++ (Rows.OpenSpec.upto Rows.scopeNamesSpec).bare.plain.varTypes Tryz.pinned.checked.prog).any (Tryz.pinned.checked.prog.ifacesRec ·)) = true := by kernel_rfl
theorem scopeNames_k15 : (Rows.scopeNamesUptoRow.mapsOut == Tryz.pinned.checked.prog.mapsAmong Tryz.f6.resultTypes.toList) = true := by kernel_rfl
theorem scopeNames_k16 : (Rows.scopeNamesUptoRow.loops == (Tryz.f6.params.toList ++ (Rows.OpenSpec.upto Rows.scopeNamesSpec).bare.plain.varTypes Tryz.pinned.checked.prog).any (Tryz.pinned.checked.prog.loopsFrom ·)) = true := by kernel_rfl
theorem scopeNames_k17 : (Rows.scopeNamesUptoRow.wideKeys == (Tryz.f6.params.toList ++ (Rows.OpenSpec.upto Rows.scopeNamesSpec).bare.plain.varTypes Tryz.pinned.checked.prog ++ Tryz.f6.resultTypes.toList).any (Tryz.pinned.checked.prog.wideKeysFrom ·)) = true := by kernel_rfl
theorem scopeNames_k18 : ((Rows.OpenSpec.upto Rows.scopeNamesSpec).bare.vars.all (Tryz.pinned.checked.prog.varReadable ·)) = true := by kernel_rfl
theorem scopeNames_k19 : (Tryz.f6.resultTypes.all (fun t => Tryz.pinned.checked.prog.readableRec t && decide (t < Tryz.pinned.checked.prog.types.size))) = true := by kernel_rfl
theorem scopeNames_k20 : (Rows.scopeNamesUptoRow.ifacesOut == Tryz.f6.resultTypes.toList.any (Tryz.pinned.checked.prog.ifacesRec ·)) = true := by kernel_rfl
theorem scopeNames_k21 : (Rows.scopeNamesUptoRow.loopsOut == Tryz.f6.resultTypes.toList.any (Tryz.pinned.checked.prog.loopsFrom ·)) = true := by kernel_rfl
theorem scopeNames_k22 : (Rows.scopeNamesUptoRow.plainKeys == Tryz.pinned.checked.prog.plainKeys) = true := by kernel_rfl
theorem scopeNames_k23 : (Rows.scopeNamesUptoRow.shortTexts.isNone) = true := by kernel_rfl
theorem scopeNames_k24 : (Tryz.pinned.checked.prog.stopsHeard) = true := by kernel_rfl
theorem scopeNames_k25 : (Tryz.pinned.checked.prog.mayEnter) = true := by kernel_rfl
theorem scopeNames_k26 : (Rows.scopeNamesUptoRow.lifted == Tryz.pinned.checked.prog.liftsFinal) = true := by kernel_rfl
theorem scopeNames_k27 : (Tryz.pinned.checked.prog.make == some Rows.scopeNamesUptoRow.make) = true := by kernel_rfl
theorem scopeNames_k28 : (Rows.scopeNamesUptoRow.kinds == (if Rows.scopeNamesUptoRow.domain.isEmpty then [] else Tryz.f6.params.toList.map fun t => match Tryz.pinned.checked.prog.underlying t with | some (.int k) => some k | _ => none)) = true := by kernel_rfl
theorem scopeNames_k29 : (Rows.scopeNamesUptoRow.pinned == Rows.scopeNamesUptoRow.pinnedBy) = true := by kernel_rfl
theorem scopeNames_k30 : (Rows.scopeNamesUptoRow.veiled == (Tryz.f6.params.toList ++ (Rows.OpenSpec.upto Rows.scopeNamesSpec).bare.plain.varTypes Tryz.pinned.checked.prog ++ Tryz.f6.resultTypes.toList).any (Tryz.pinned.checked.prog.veiledRec ·)) = true := by kernel_rfl
theorem scopeNames_k31 : (Rows.scopeNamesUptoRow.veiledFits Tryz.pinned.checked.prog Tryz.f6.params.toList (Tryz.f6.params.toList ++ (Rows.OpenSpec.upto Rows.scopeNamesSpec).bare.plain.varTypes Tryz.pinned.checked.prog ++ Tryz.f6.resultTypes.toList)) = true := by kernel_rfl
set_option maxRecDepth 100000 in
theorem scopeNames_closed : joinedFacts Tryz.pinned.checked.prog 6 Tryz.f6 (Rows.OpenSpec.upto Rows.scopeNamesSpec).bare Rows.scopeNamesUptoRow = true := by
  unfold joinedFacts
  exact (scopeNames_and (scopeNames_and (scopeNames_and (scopeNames_and (scopeNames_and (scopeNames_and (scopeNames_and (scopeNames_and (scopeNames_and (scopeNames_and (scopeNames_and (scopeNames_and (scopeNames_and (scopeNames_and (scopeNames_and (scopeNames_and (scopeNames_and (scopeNames_and (scopeNames_and (scopeNames_and (scopeNames_and (scopeNames_and (scopeNames_and (scopeNames_and (scopeNames_and (scopeNames_and (scopeNames_and (scopeNames_and (scopeNames_and (scopeNames_and (scopeNames_and scopeNames_k0 scopeNames_k1) scopeNames_k2) scopeNames_k3) scopeNames_k4) scopeNames_k5) scopeNames_k6) scopeNames_k7) scopeNames_k8) scopeNames_k9) scopeNames_k10) scopeNames_k11) scopeNames_k12) scopeNames_k13) scopeNames_k14) scopeNames_k15) scopeNames_k16) scopeNames_k17) scopeNames_k18) scopeNames_k19) scopeNames_k20) scopeNames_k21) scopeNames_k22) scopeNames_k23) scopeNames_k24) scopeNames_k25) scopeNames_k26) scopeNames_k27) scopeNames_k28) scopeNames_k29) scopeNames_k30) scopeNames_k31)

theorem scopeNames_said : Rows.ScopeNamesUptoSaid :=
  OpenClaim.holds_of_cond 6 Tryz.f6 rfl rfl rfl rfl rfl rfl rfl ⟨rfl, rfl, rfl, rfl, rfl⟩ rfl rfl rfl rfl rfl (by kernel_rfl) Tryz.func6 scopeNames_closed
    (of_decide_eq_true (by kernel_rfl)) (by unfold Func.isWrapper; first | (rw [if_pos (by decide +kernel)]; kernel_rfl) | (rw [if_neg (by decide +kernel)]; exact ⟨rfl, rfl⟩))
    (fun os started H enc _ F => by rw [OpenClaim.pre_eq_preRow]; exact scopeNames_lifted os started H enc F)
theorem scopeNames_plain (f : FuncId) (fn : Func) (hf : Tryz.pinned.checked.prog.funcNamed "palmette/palmettelaw12.ScopeNames" = some f) (hfn : Tryz.pinned.checked.prog.funcs[f]? = some fn) :
    true = Tryz.pinned.checked.prog.looks [] ∧ ∀ (j : Nat) t, fn.params[j]? = some t → Tryz.pinned.checked.prog.wantsStandIn t = false := by
  obtain rfl : f = 6 := Option.some.inj ((show Tryz.prog.funcNamed "palmette/palmettelaw12.ScopeNames" = some 6 by kernel_rfl).symm.trans hf) |>.symm
  obtain rfl : fn = Tryz.f6 := (Option.some.inj (Tryz.func6.symm.trans hfn)).symm
  refine ⟨by kernel_rfl, fun j t ht => ?_⟩
  rw [Tryz.params6] at ht
  have hm : t ∈ [25] := by simpa using Array.mem_of_getElem? ht
  simp only [List.mem_cons, List.not_mem_nil, or_false] at hm
  rcases hm with rfl
  · exact (show Tryz.prog.wantsStandIn 25 = false by kernel_rfl)

/-- the law's card -/
theorem scopeNames : Rows.ScopeNamesUptoCardSaid :=
  Claim7.holds_tied_plain_at .later [] _ _ _ _ scopeNames_said (fun _ h => by cases h) (by kernel_rfl) (fun _ h => by cases h) scopeNamesUpto_row_tie rfl ⟨rfl, rfl⟩ (by kernel_rfl) rfl scopeNames_plain (by kernel_rfl)
end Go.Proofs.YtbnebkkpmcjmbaaGreatDoor
