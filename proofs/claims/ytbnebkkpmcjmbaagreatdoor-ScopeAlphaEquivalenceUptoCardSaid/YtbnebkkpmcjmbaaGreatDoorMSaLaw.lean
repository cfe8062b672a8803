/- ScopeAlphaEquivalence: whether two questions are equal but for the names of their quantified variables, once as the program says and once as the reference says it, before and after all binders have been given names of their own. Conditions: the row of its statement (tables and errors of the standard library read as their texts lay them; the arguments are together of bulk at most 1048576). -/
import Derived.Test.YtbnebkkpmcjmbaaGreatDoorMSah
import Derived.Deep.DeepWitnessRowRef
namespace Go.Proofs.YtbnebkkpmcjmbaaGreatDoor
open Go.ChangeShapes Go.WideShapes Go.ChangeAt Go.RowKit Go.PL Go.Deep
open Go.ChangeMaps (open_string)

theorem bulk_app {H : Type} (a b : List (DataW H)) : Rows.uptoBulkAll (a ++ b) = Rows.uptoBulkAll a + Rows.uptoBulkAll b := by
  induction a with
  | nil => simp [Rows.uptoBulkAll]
  | cons x xs ih => simp only [List.cons_append, Rows.uptoBulkAll, ih]; omega
/-- A world for the witness: the settled one, the tables holding what their initialisers lay. -/
noncomputable def scopeAlphaEquivalence_laidWorld (os : Os) : World := World.laidAll Tryz.prog os Rows.scopeAlphaEquivalenceUptoRow.laid
theorem scopeAlphaEquivalence_laidWorld_os (os : Os) : (scopeAlphaEquivalence_laidWorld os).os = os := World.laidAll_os _ _ _
theorem scopeAlphaEquivalence_laid_met (os : Os) (args : Array Value) : laidMet Tryz.prog Rows.scopeAlphaEquivalenceUptoRow.laid ((scopeAlphaEquivalence_laidWorld os).forCall (fun _ _ => 0) ⟨#[], args, []⟩).memory :=
  laidMet_laidAll args (by kernel_rfl) (by kernel_rfl)

set_option maxRecDepth 100000 in
theorem scopeAlphaEquivalence_contract (H : Type) (enc : TypeId × Value → H) (W : World) (base : Nat) (args : Array Value) (ds gs : List (DataW H)) (before : List MemPlace)
    (hval : ∀ (j : Nat) t v, Tryz.f8.params[j]? = some t → args[j]? = some v → Value.okWide Tryz.prog W .any base t v)
    (hW : DataW.Whole enc Tryz.prog Tryz.f8.params.toList Rows.scopeAlphaEquivalenceSpec.vars false W args.toList ds gs before) (hL : laidMetH Tryz.prog Rows.scopeAlphaEquivalenceUptoRow.laid W) (hk : Rows.uptoBulkAll (ds ++ gs) ≤ 1048576) :
    Calls Tryz.prog 8 args W fun e W' => ∃ v, e = .returned v ∧ Rows.scopeAlphaEquivalenceSpec.post enc Tryz.prog Tryz.f8 false true false false W args v W' := by
  rw [MakeChecks.laidMetH_plain _ _ _ (by kernel_rfl)] at hL
  have hE := (⟨env_of hL (by kernel_rfl) (by kernel_rfl), senv_of hL (by kernel_rfl), fenv_of hL (by kernel_rfl)⟩ : Env W ∧ SEnv W ∧ FEnv W)
  have hW' := hW
  obtain ⟨p, q, hA0, hV, rfl, hfz, hnd⟩ := hW
  have hA : DataW.TrodAll enc Tryz.prog W 0 (fun _ => true) true Tryz.f8.params.toList args.toList ds p := hA0
  rw [Tryz.params8] at hA hval
  obtain ⟨v0, vs0, d0, ds0, p0, q0, hargs, rfl, rfl, h0, r0⟩ := trodAll_cons hA
  obtain ⟨v1, vs1, d1, ds1, p1, q1, rfl, rfl, rfl, h1, r1⟩ := trodAll_cons r0
  obtain ⟨rfl, rfl, rfl⟩ := trodAll_nil r1
  simp only [bulk_app, Rows.uptoBulkAll] at hk
  obtain rfl : args = #[v0, v1] := by cases args; simp_all
  have walk : Calls Tryz.prog 8 #[v0, v1] W fun e w' => e = .returned (.bool true) ∧ Upto [] W w' := by
    obtain ⟨qq0, hq0⟩ := open_question (okWide_struct Tryz.underlying50 (hval 0 50 v0 rfl rfl)) h0 (by omega)
    obtain ⟨qq1, hq1⟩ := open_question (okWide_struct Tryz.underlying50 (hval 1 50 v1 rfl rfl)) h1 (by omega)
    exact scopeAlphaEquivalence_walk qq0 v0 qq1 v1 W hq0 hq1 hE (pow_of hL (by kernel_rfl))
  exact walk.mono fun e W' ⟨he, hu⟩ => ⟨_, he, post_true (hv := rfl) (by kernel_rfl) (by kernel_rfl) (by kernel_rfl) hW' (fun _ => rfl) hu⟩

set_option maxRecDepth 100000 in
theorem scopeAlphaEquivalence_reads (os : Os) {H : Type} (enc : TypeId × Value → H) : ∃ places, DataW.whole enc Tryz.prog ((scopeAlphaEquivalence_laidWorld os).forCall (fun _ _ => 0) ⟨#[], #[.agg #[.slice none 0 0, .int .i64 0, .slice none 0 0, .int .i64 0, .int .i64 0, .int .i64 0, .slice none 0 0], .agg #[.slice none 0 0, .int .i64 0, .slice none 0 0, .int .i64 0, .int .i64 0, .int .i64 0, .slice none 0 0]], []⟩).memory Tryz.f8.params.toList Rows.scopeAlphaEquivalenceSpec.vars false #[.agg #[.slice none 0 0, .int .i64 0, .slice none 0 0, .int .i64 0, .int .i64 0, .int .i64 0, .slice none 0 0], .agg #[.slice none 0 0, .int .i64 0, .slice none 0 0, .int .i64 0, .int .i64 0, .int .i64 0, .slice none 0 0]].toList 8 = some ([.agg [.nil, .agg [.lit (.int .i64 0), .nil, .lit (.int .i64 0), .lit (.int .i64 0), .lit (.int .i64 0), .nil]], .agg [.nil, .agg [.lit (.int .i64 0), .nil, .lit (.int .i64 0), .lit (.int .i64 0), .lit (.int .i64 0), .nil]]], [], places) :=
  ⟨[], by kernel_rfl⟩
set_option maxRecDepth 100000 in
theorem scopeAlphaEquivalence_lifted (os : Os) (started : os.Started) (H : Type) (enc : TypeId × Value → H) (F : Stop.Interp) :
    ReturnsInHanded {} Tryz.checked os 8 .any ((Rows.OpenSpec.upto Rows.scopeAlphaEquivalenceSpec).preRow enc Tryz.prog Tryz.f8 Rows.scopeAlphaEquivalenceUptoRow.domain false Rows.scopeAlphaEquivalenceUptoRow.laid) (((Rows.OpenSpec.upto Rows.scopeAlphaEquivalenceSpec).at F).post enc Tryz.prog Tryz.f8 false true false false) := by
  obtain ⟨places, hx⟩ := scopeAlphaEquivalence_reads os enc
  refine returnsInHanded_of_row (C := Tryz.checked) (s := (Rows.OpenSpec.upto Rows.scopeAlphaEquivalenceSpec)) own started (by kernel_rfl) Tryz.func8
    (witness_row_atRef (enc := enc) (C := Tryz.checked) false (scopeAlphaEquivalence_laidWorld os) #[.agg #[.slice none 0 0, .int .i64 0, .slice none 0 0, .int .i64 0, .int .i64 0, .int .i64 0, .slice none 0 0], .agg #[.slice none 0 0, .int .i64 0, .slice none 0 0, .int .i64 0, .int .i64 0, .int .i64 0, .slice none 0 0]] (scopeAlphaEquivalence_laidWorld_os os) (by kernel_rfl) (by kernel_rfl) (by kernel_rfl)
      (OpenSpec.preRow_of_cond 8 hx (by kernel_rfl) (fun k hk => by cases hk; kernel_rfl) (by kernel_rfl) (scopeAlphaEquivalence_laid_met os _))) ?_
  intro W base args ds gs before hval hW _ hcond _ hL _ _
  exact scopeAlphaEquivalence_contract H enc W base args ds gs before hval hW hL (of_decide_eq_true (hcond _ rfl))

theorem scopeAlphaEquivalence_and {a b : Bool} (h : a = true) (k : b = true) : (a && b) = true := by rw [h, k]; rfl
theorem scopeAlphaEquivalence_k0 : (Rows.scopeAlphaEquivalenceUptoRow.wf (OpenSpec.ofChange (Rows.OpenSpec.upto Rows.scopeAlphaEquivalenceSpec).bare)) = true := by kernel_rfl
theorem scopeAlphaEquivalence_k1 : (laidOutB Tryz.pinned.checked.prog) = true := by kernel_rfl
theorem scopeAlphaEquivalence_k2 : (mapsRowed Tryz.pinned.checked.prog) = true := by kernel_rfl
theorem scopeAlphaEquivalence_k3 : (Tryz.f8.params.all (Tryz.pinned.checked.prog.readableRec ·)) = true := by kernel_rfl
theorem scopeAlphaEquivalence_k4 : (namedTie Tryz.pinned.checked.prog Rows.scopeAlphaEquivalenceUptoRow.named (Rows.OpenSpec.upto Rows.scopeAlphaEquivalenceSpec).bare.vars) = true := by kernel_rfl
theorem scopeAlphaEquivalence_k5 : (Rows.scopeAlphaEquivalenceUptoRow.stops == []) = true := by kernel_rfl
theorem scopeAlphaEquivalence_k6 : (Tryz.pinned.checked.prog.stops == []) = true := by kernel_rfl
theorem scopeAlphaEquivalence_k7 : (Rows.scopeAlphaEquivalenceUptoRow.knobs == []) = true := by kernel_rfl
theorem scopeAlphaEquivalence_k8 : (Tryz.pinned.checked.prog.stopKnobs == []) = true := by kernel_rfl
theorem scopeAlphaEquivalence_k9 : (Rows.scopeAlphaEquivalenceUptoRow.inPlace == Tryz.pinned.checked.prog.inPlace 8) = true := by kernel_rfl
theorem scopeAlphaEquivalence_k10 : (Rows.scopeAlphaEquivalenceUptoRow.unfollowed == Tryz.pinned.checked.prog.unfollowed 8) = true := by kernel_rfl
theorem scopeAlphaEquivalence_k11 : (Rows.scopeAlphaEquivalenceUptoRow.recurses == Tryz.pinned.checked.prog.recurses 8) = true := by kernel_rfl
theorem scopeAlphaEquivalence_k12 : (Rows.scopeAlphaEquivalenceUptoRow.named == Tryz.pinned.checked.prog.varsNamed 8) = true := by kernel_rfl
theorem scopeAlphaEquivalence_k13 : (Rows.scopeAlphaEquivalenceUptoRow.maps == (Tryz.f8.params.toList ++ (Rows.OpenSpec.upto Rows.scopeAlphaEquivalenceSpec).bare.plain.varTypes Tryz.pinned.checked.prog).any (Tryz.pinned.checked.prog.mapsRec ·)) = true := by kernel_rfl
theorem scopeAlphaEquivalence_k14 : (Rows.scopeAlphaEquivalenceUptoRow.ifaces == (Tryz.f8.params.toList ++ (Rows.OpenSpec.upto Rows.scopeAlphaEquivalenceSpec).bare.plain.varTypes Tryz.pinned.checked.prog).any (Tryz.pinned.checked.prog.ifacesRec ·)) = true := by kernel_rfl
theorem scopeAlphaEquivalence_k15 : (Rows.scopeAlphaEquivalenceUptoRow.mapsOut == Tryz.pinned.checked.prog.mapsAmong Tryz.f8.resultTypes.toList) = true := by kernel_rfl
theorem scopeAlphaEquivalence_k16 : (Rows.scopeAlphaEquivalenceUptoRow.loops == (Tryz.f8.params.toList ++ (Rows.OpenSpec.upto Rows.scopeAlphaEquivalenceSpec).bare.plain.varTypes Tryz.pinned.checked.prog).any (Tryz.pinned.checked.prog.loopsFrom ·)) = true := by kernel_rfl
theorem scopeAlphaEquivalence_k17 : (Rows.scopeAlphaEquivalenceUptoRow.wideKeys == (Tryz.f8.params.toList ++ (Rows.OpenSpec.upto Rows.scopeAlphaEquivalenceSpec).bare.plain.varTypes Tryz.pinned.checked.prog ++ Tryz.f8.resultTypes.toList).any (Tryz.pinned.checked.prog.wideKeysFrom ·)) = true := by kernel_rfl
theorem scopeAlphaEquivalence_k18 : ((Rows.OpenSpec.upto Rows.scopeAlphaEquivalenceSpec).bare.vars.all (Tryz.pinned.checked.prog.varReadable ·)) = true := by kernel_rfl
theorem scopeAlphaEquivalence_k19 : (Tryz.f8.resultTypes.all (fun t => Tryz.pinned.checked.prog.readableRec t && decide (t < Tryz.pinned.checked.prog.types.size))) = true := by kernel_rfl
theorem scopeAlphaEquivalence_k20 : (Rows.scopeAlphaEquivalenceUptoRow.ifacesOut == Tryz.f8.resultTypes.toList.any (Tryz.pinned.checked.prog.ifacesRec ·)) = true := by kernel_rfl
theorem scopeAlphaEquivalence_k21 : (Rows.scopeAlphaEquivalenceUptoRow.loopsOut == Tryz.f8.resultTypes.toList.any (Tryz.pinned.checked.prog.loopsFrom ·)) = true := by kernel_rfl
theorem scopeAlphaEquivalence_k22 : (Rows.scopeAlphaEquivalenceUptoRow.plainKeys == Tryz.pinned.checked.prog.plainKeys) = true := by kernel_rfl
theorem scopeAlphaEquivalence_k23 : (Rows.scopeAlphaEquivalenceUptoRow.shortTexts.isNone) = true := by kernel_rfl
theorem scopeAlphaEquivalence_k24 : (Tryz.pinned.checked.prog.stopsHeard) = true := by kernel_rfl
theorem scopeAlphaEquivalence_k25 : (Tryz.pinned.checked.prog.mayEnter) = true := by kernel_rfl
theorem scopeAlphaEquivalence_k26 : (Rows.scopeAlphaEquivalenceUptoRow.lifted == Tryz.pinned.checked.prog.liftsFinal) = true := by kernel_rfl
theorem scopeAlphaEquivalence_k27 : (Tryz.pinned.checked.prog.make == some Rows.scopeAlphaEquivalenceUptoRow.make) = true := by kernel_rfl
theorem scopeAlphaEquivalence_k28 : (Rows.scopeAlphaEquivalenceUptoRow.kinds == (if Rows.scopeAlphaEquivalenceUptoRow.domain.isEmpty then [] else Tryz.f8.params.toList.map fun t => match Tryz.pinned.checked.prog.underlying t with | some (.int k) => some k | _ => none)) = true := by kernel_rfl
theorem scopeAlphaEquivalence_k29 : (Rows.scopeAlphaEquivalenceUptoRow.pinned == Rows.scopeAlphaEquivalenceUptoRow.pinnedBy) = true := by kernel_rfl
theorem scopeAlphaEquivalence_k30 : (Rows.scopeAlphaEquivalenceUptoRow.veiled == (Tryz.f8.params.toList ++ (Rows.OpenSpec.upto Rows.scopeAlphaEquivalenceSpec).bare.plain.varTypes Tryz.pinned.checked.prog ++ Tryz.f8.resultTypes.toList).any (Tryz.pinned.checked.prog.veiledRec ·)) = true := by kernel_rfl
theorem scopeAlphaEquivalence_k31 : (Rows.scopeAlphaEquivalenceUptoRow.veiledFits Tryz.pinned.checked.prog Tryz.f8.params.toList (Tryz.f8.params.toList ++ (Rows.OpenSpec.upto Rows.scopeAlphaEquivalenceSpec).bare.plain.varTypes Tryz.pinned.checked.prog ++ Tryz.f8.resultTypes.toList)) = true := by kernel_rfl
set_option maxRecDepth 100000 in
theorem scopeAlphaEquivalence_closed : joinedFacts Tryz.pinned.checked.prog 8 Tryz.f8 (Rows.OpenSpec.upto Rows.scopeAlphaEquivalenceSpec).bare Rows.scopeAlphaEquivalenceUptoRow = true := by
  unfold joinedFacts
  exact (scopeAlphaEquivalence_and (scopeAlphaEquivalence_and (scopeAlphaEquivalence_and (scopeAlphaEquivalence_and (scopeAlphaEquivalence_and (scopeAlphaEquivalence_and (scopeAlphaEquivalence_and (scopeAlphaEquivalence_and (scopeAlphaEquivalence_and (scopeAlphaEquivalence_and (scopeAlphaEquivalence_and (scopeAlphaEquivalence_and (scopeAlphaEquivalence_and (scopeAlphaEquivalence_and (scopeAlphaEquivalence_and (scopeAlphaEquivalence_and (scopeAlphaEquivalence_and (scopeAlphaEquivalence_and (scopeAlphaEquivalence_and (scopeAlphaEquivalence_and (scopeAlphaEquivalence_and (scopeAlphaEquivalence_and (scopeAlphaEquivalence_and (scopeAlphaEquivalence_and (scopeAlphaEquivalence_and (scopeAlphaEquivalence_and (scopeAlphaEquivalence_and (scopeAlphaEquivalence_and (scopeAlphaEquivalence_and (scopeAlphaEquivalence_and (scopeAlphaEquivalence_and scopeAlphaEquivalence_k0 scopeAlphaEquivalence_k1) scopeAlphaEquivalence_k2) scopeAlphaEquivalence_k3) scopeAlphaEquivalence_k4) scopeAlphaEquivalence_k5) scopeAlphaEquivalence_k6) scopeAlphaEquivalence_k7) scopeAlphaEquivalence_k8) scopeAlphaEquivalence_k9) scopeAlphaEquivalence_k10) scopeAlphaEquivalence_k11) scopeAlphaEquivalence_k12) scopeAlphaEquivalence_k13) scopeAlphaEquivalence_k14) scopeAlphaEquivalence_k15) scopeAlphaEquivalence_k16) scopeAlphaEquivalence_k17) scopeAlphaEquivalence_k18) scopeAlphaEquivalence_k19) scopeAlphaEquivalence_k20) scopeAlphaEquivalence_k21) scopeAlphaEquivalence_k22) scopeAlphaEquivalence_k23) scopeAlphaEquivalence_k24) scopeAlphaEquivalence_k25) scopeAlphaEquivalence_k26) scopeAlphaEquivalence_k27) scopeAlphaEquivalence_k28) scopeAlphaEquivalence_k29) scopeAlphaEquivalence_k30) scopeAlphaEquivalence_k31)

theorem scopeAlphaEquivalence_said : Rows.ScopeAlphaEquivalenceUptoSaid :=
  OpenClaim.holds_of_cond 8 Tryz.f8 rfl rfl rfl rfl rfl rfl rfl ⟨rfl, rfl, rfl, rfl, rfl⟩ rfl rfl rfl rfl rfl (by kernel_rfl) Tryz.func8 scopeAlphaEquivalence_closed
    (of_decide_eq_true (by kernel_rfl)) (by unfold Func.isWrapper; first | (rw [if_pos (by decide +kernel)]; kernel_rfl) | (rw [if_neg (by decide +kernel)]; exact ⟨rfl, rfl⟩))
    (fun os started H enc _ F => by rw [OpenClaim.pre_eq_preRow]; exact scopeAlphaEquivalence_lifted os started H enc F)
theorem scopeAlphaEquivalence_plain (f : FuncId) (fn : Func) (hf : Tryz.pinned.checked.prog.funcNamed "palmette/palmettelaw12.ScopeAlphaEquivalence" = some f) (hfn : Tryz.pinned.checked.prog.funcs[f]? = some fn) :
    true = Tryz.pinned.checked.prog.looks [] ∧ ∀ (j : Nat) t, fn.params[j]? = some t → Tryz.pinned.checked.prog.wantsStandIn t = false := by
  obtain rfl : f = 8 := Option.some.inj ((show Tryz.prog.funcNamed "palmette/palmettelaw12.ScopeAlphaEquivalence" = some 8 by kernel_rfl).symm.trans hf) |>.symm
  obtain rfl : fn = Tryz.f8 := (Option.some.inj (Tryz.func8.symm.trans hfn)).symm
  refine ⟨by kernel_rfl, fun j t ht => ?_⟩
  rw [Tryz.params8] at ht
  have hm : t ∈ [50, 50] := by simpa using Array.mem_of_getElem? ht
  simp only [List.mem_cons, List.not_mem_nil, or_false] at hm
  rcases hm with rfl | rfl
  · exact (show Tryz.prog.wantsStandIn 50 = false by kernel_rfl)
  · exact (show Tryz.prog.wantsStandIn 50 = false by kernel_rfl)

/-- the law's card -/
theorem scopeAlphaEquivalence : Rows.ScopeAlphaEquivalenceUptoCardSaid :=
  Claim7.holds_tied_plain_at .later [] _ _ _ _ scopeAlphaEquivalence_said (fun _ h => by cases h) (by kernel_rfl) (fun _ h => by cases h) scopeAlphaEquivalenceUpto_row_tie rfl ⟨rfl, rfl⟩ (by kernel_rfl) rfl scopeAlphaEquivalence_plain (by kernel_rfl)
end Go.Proofs.YtbnebkkpmcjmbaaGreatDoor
