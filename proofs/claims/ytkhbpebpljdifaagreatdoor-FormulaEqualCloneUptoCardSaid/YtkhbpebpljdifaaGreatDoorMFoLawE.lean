/- FormulaEqualClone: equality of questions and formulas is as the reference has it, and a clone is equal to its original and shares no memory with it. Conditions: the row of its statement (tables and errors of the standard library read as their texts lay them; the arguments are together of bulk at most 1048576). -/
import Derived.Test.YtkhbpebpljdifaaGreatDoorMFooE
import Derived.Deep.DeepWitnessRowRef
namespace Go.Proofs.YtkhbpebpljdifaaGreatDoor
open Go.ChangeShapes Go.WideShapes Go.ChangeAt Go.RowKit Go.PL Go.Deep
open Go.ChangeMaps (open_string)

theorem bulk_app {H : Type} (a b : List (DataW H)) : Rows.uptoBulkAll (a ++ b) = Rows.uptoBulkAll a + Rows.uptoBulkAll b := by
  induction a with
  | nil => simp [Rows.uptoBulkAll]
  | cons x xs ih => simp only [List.cons_append, Rows.uptoBulkAll, ih]; omega
/-- A world for the witness: the settled one, the tables holding what their initialisers lay. -/
noncomputable def formulaEqualClone_laidWorld (os : Os) : World := World.laidAll Tryz.prog os Rows.formulaEqualCloneUptoRow.laid
theorem formulaEqualClone_laidWorld_os (os : Os) : (formulaEqualClone_laidWorld os).os = os := World.laidAll_os _ _ _
theorem formulaEqualClone_laid_met (os : Os) (args : Array Value) : laidMet Tryz.prog Rows.formulaEqualCloneUptoRow.laid ((formulaEqualClone_laidWorld os).forCall (fun _ _ => 0) ⟨#[], args, []⟩).memory :=
  laidMet_laidAll args (by kernel_rfl) (by kernel_rfl)

set_option maxRecDepth 100000 in
theorem formulaEqualClone_contract (H : Type) (enc : TypeId × Value → H) (W : World) (base : Nat) (args : Array Value) (ds gs : List (DataW H)) (before : List MemPlace)
    (hval : ∀ (j : Nat) t v, Tryz.f4.params[j]? = some t → args[j]? = some v → Value.okWide Tryz.prog W .any base t v)
    (hW : DataW.Whole enc Tryz.prog Tryz.f4.params.toList Rows.formulaEqualCloneSpec.vars false W args.toList ds gs before) (hL : laidMetH Tryz.prog Rows.formulaEqualCloneUptoRow.laid W) (hk : Rows.uptoBulkAll (ds ++ gs) ≤ 1048576) :
    Calls Tryz.prog 4 args W fun e W' => ∃ v, e = .returned v ∧ Rows.formulaEqualCloneSpec.post enc Tryz.prog Tryz.f4 false true false false W args v W' := by
  rw [MakeChecks.laidMetH_plain _ _ _ (by kernel_rfl)] at hL
  have hE := (⟨env_of hL (by kernel_rfl) (by kernel_rfl), senv_of hL (by kernel_rfl)⟩ : Env W ∧ SEnv W)
  have hW' := hW
  obtain ⟨p, q, hA0, hV, rfl, hfz, hnd⟩ := hW
  have hA : DataW.TrodAll enc Tryz.prog W 0 (fun _ => true) true Tryz.f4.params.toList args.toList ds p := hA0
  rw [Tryz.params4] at hA hval
  obtain ⟨v0, vs0, d0, ds0, p0, q0, hargs, rfl, rfl, h0, r0⟩ := trodAll_cons hA
  obtain ⟨v1, vs1, d1, ds1, p1, q1, rfl, rfl, rfl, h1, r1⟩ := trodAll_cons r0
  obtain ⟨v2, vs2, d2, ds2, p2, q2, rfl, rfl, rfl, h2, r2⟩ := trodAll_cons r1
  obtain ⟨rfl, rfl, rfl⟩ := trodAll_nil r2
  simp only [bulk_app, Rows.uptoBulkAll] at hk
  obtain rfl : args = #[v0, v1, v2] := by cases args; simp_all
  have walk : Calls Tryz.prog 4 #[v0, v1, v2] W fun e w' => e = .returned (.bool true) ∧ Upto [] W w' := by
    obtain ⟨qq0, hq0⟩ := open_question (okWide_struct Tryz.underlying45 (hval 0 45 v0 rfl rfl)) h0 (by omega)
    obtain ⟨qq1, hq1⟩ := open_question (okWide_struct Tryz.underlying45 (hval 1 45 v1 rfl rfl)) h1 (by omega)
    obtain ⟨s2, rfl, hb2, -, l2⟩ := open_string Tryz.underlying9 (hval 2 9 v2 rfl rfl) h2
    have x2 : s2 = ⟨s2.data.toList.toArray⟩ := by cases s2; rfl
    rw [x2]
    exact formulaEqualClone_walk qq0 v0 qq1 v1 s2.data.toList W hq0 hq1 (by have h := l2; rw [x2] at h; exact h) hE
  exact walk.mono fun e W' ⟨he, hu⟩ => ⟨_, he, post_true (hv := rfl) (by kernel_rfl) (by kernel_rfl) (by kernel_rfl) hW' (fun _ => rfl) hu⟩

set_option maxRecDepth 100000 in
theorem formulaEqualClone_reads (os : Os) {H : Type} (enc : TypeId × Value → H) : ∃ places, DataW.whole enc Tryz.prog ((formulaEqualClone_laidWorld os).forCall (fun _ _ => 0) ⟨#[], #[.agg #[.slice none 0 0, .int .i64 0, .slice none 0 0, .int .i64 0, .int .i64 0, .int .i64 0, .slice none 0 0], .agg #[.slice none 0 0, .int .i64 0, .slice none 0 0, .int .i64 0, .int .i64 0, .int .i64 0, .slice none 0 0], .string ⟨#[]⟩], []⟩).memory Tryz.f4.params.toList Rows.formulaEqualCloneSpec.vars false #[.agg #[.slice none 0 0, .int .i64 0, .slice none 0 0, .int .i64 0, .int .i64 0, .int .i64 0, .slice none 0 0], .agg #[.slice none 0 0, .int .i64 0, .slice none 0 0, .int .i64 0, .int .i64 0, .int .i64 0, .slice none 0 0], .string ⟨#[]⟩].toList 8 = some ([.agg [.nil, .agg [.lit (.int .i64 0), .nil, .lit (.int .i64 0), .lit (.int .i64 0), .lit (.int .i64 0), .nil]], .agg [.nil, .agg [.lit (.int .i64 0), .nil, .lit (.int .i64 0), .lit (.int .i64 0), .lit (.int .i64 0), .nil]], .lit (.string [])], [], places) :=
  ⟨[], by kernel_rfl⟩
set_option maxRecDepth 100000 in
theorem formulaEqualClone_lifted (os : Os) (started : os.Started) (H : Type) (enc : TypeId × Value → H) (F : Stop.Interp) :
    ReturnsInHanded {} Tryz.checked os 4 .any ((Rows.OpenSpec.upto Rows.formulaEqualCloneSpec).preRow enc Tryz.prog Tryz.f4 Rows.formulaEqualCloneUptoRow.domain false Rows.formulaEqualCloneUptoRow.laid) (((Rows.OpenSpec.upto Rows.formulaEqualCloneSpec).at F).post enc Tryz.prog Tryz.f4 false true false false) := by
  obtain ⟨places, hx⟩ := formulaEqualClone_reads os enc
  refine returnsInHanded_of_row (C := Tryz.checked) (s := (Rows.OpenSpec.upto Rows.formulaEqualCloneSpec)) own started (by kernel_rfl) Tryz.func4
    (witness_row_atRef (enc := enc) (C := Tryz.checked) false (formulaEqualClone_laidWorld os) #[.agg #[.slice none 0 0, .int .i64 0, .slice none 0 0, .int .i64 0, .int .i64 0, .int .i64 0, .slice none 0 0], .agg #[.slice none 0 0, .int .i64 0, .slice none 0 0, .int .i64 0, .int .i64 0, .int .i64 0, .slice none 0 0], .string ⟨#[]⟩] (formulaEqualClone_laidWorld_os os) (by kernel_rfl) (by kernel_rfl) (by kernel_rfl)
      (OpenSpec.preRow_of_cond 8 hx (by kernel_rfl) (fun k hk => by cases hk; kernel_rfl) (by kernel_rfl) (formulaEqualClone_laid_met os _))) ?_
  intro W base args ds gs before hval hW _ hcond _ hL _ _
  exact formulaEqualClone_contract H enc W base args ds gs before hval hW hL (of_decide_eq_true (hcond _ rfl))

theorem formulaEqualClone_and {a b : Bool} (h : a = true) (k : b = true) : (a && b) = true := by rw [h, k]; rfl
theorem formulaEqualClone_k0 : (Rows.formulaEqualCloneUptoRow.wf (OpenSpec.ofChange (Rows.OpenSpec.upto Rows.formulaEqualCloneSpec).bare)) = true := by kernel_rfl
theorem formulaEqualClone_k1 : (laidOutB Tryz.pinned.checked.prog) = true := by kernel_rfl
theorem formulaEqualClone_k2 : (mapsRowed Tryz.pinned.checked.prog) = true := by kernel_rfl
theorem formulaEqualClone_k3 : (Tryz.f4.params.all (Tryz.pinned.checked.prog.readableRec ·)) = true := by kernel_rfl
theorem formulaEqualClone_k4 : (namedTie Tryz.pinned.checked.prog Rows.formulaEqualCloneUptoRow.named (Rows.OpenSpec.upto Rows.formulaEqualCloneSpec).bare.vars) = true := by kernel_rfl
theorem formulaEqualClone_k5 : (Rows.formulaEqualCloneUptoRow.stops == []) = true := by kernel_rfl
theorem formulaEqualClone_k6 : (Tryz.pinned.checked.prog.stops == []) = true := by kernel_rfl
theorem formulaEqualClone_k7 : (Rows.formulaEqualCloneUptoRow.knobs == []) = true := by kernel_rfl
theorem formulaEqualClone_k8 : (Tryz.pinned.checked.prog.stopKnobs == []) = true := by kernel_rfl
theorem formulaEqualClone_k9 : (Rows.formulaEqualCloneUptoRow.inPlace == Tryz.pinned.checked.prog.inPlace 4) = true := by kernel_rfl
theorem formulaEqualClone_k10 : (Rows.formulaEqualCloneUptoRow.unfollowed == Tryz.pinned.checked.prog.unfollowed 4) = true := by kernel_rfl
theorem formulaEqualClone_k11 : (Rows.formulaEqualCloneUptoRow.recurses == Tryz.pinned.checked.prog.recurses 4) = true := by kernel_rfl
theorem formulaEqualClone_k12 : (Rows.formulaEqualCloneUptoRow.named == Tryz.pinned.checked.prog.varsNamed 4) = true := by kernel_rfl
theorem formulaEqualClone_k13 : (Rows.formulaEqualCloneUptoRow.maps == (Tryz.f4.params.toList ++ (Rows.OpenSpec.upto Rows.formulaEqualCloneSpec).bare.plain.varTypes Tryz.pinned.checked.prog).any (Tryz.pinned.checked.prog.mapsRec ·)) = true := by kernel_rfl
theorem formulaEqualClone_k14 : (Rows.formulaEqualCloneUptoRow.ifaces == (Tryz.f4.params.toList ++ (Rows.OpenSpec.upto Rows.formulaEqualCloneSpec).bare.plain.varTypes Tryz.pinned.checked.prog).any (Tryz.pinned.checked.prog.ifacesRec ·)) = true := by kernel_rfl
theorem formulaEqualClone_k15 : (Rows.formulaEqualCloneUptoRow.mapsOut == Tryz.pinned.checked.prog.mapsAmong Tryz.f4.resultTypes.toList) = true := by kernel_rfl
theorem formulaEqualClone_k16 : (Rows.formulaEqualCloneUptoRow.loops == (Tryz.f4.params.toList ++ (Rows.OpenSpec.upto Rows.formulaEqualCloneSpec).bare.plain.varTypes Tryz.pinned.checked.prog).any (Tryz.pinned.checked.prog.loopsFrom ·)) = true := by kernel_rfl
theorem formulaEqualClone_k17 : (Rows.formulaEqualCloneUptoRow.wideKeys == (Tryz.f4.params.toList ++ (Rows.OpenSpec.upto Rows.formulaEqualCloneSpec).bare.plain.varTypes Tryz.pinned.checked.prog ++ Tryz.f4.resultTypes.toList).any (Tryz.pinned.checked.prog.wideKeysFrom ·)) = true := by kernel_rfl
theorem formulaEqualClone_k18 : ((Rows.OpenSpec.upto Rows.formulaEqualCloneSpec).bare.vars.all (Tryz.pinned.checked.prog.varReadable ·)) = true := by kernel_rfl
theorem formulaEqualClone_k19 : (Tryz.f4.resultTypes.all (fun t => Tryz.pinned.checked.prog.readableRec t && decide (t < Tryz.pinned.checked.prog.types.size))) = true := by kernel_rfl
theorem formulaEqualClone_k20 : (Rows.formulaEqualCloneUptoRow.ifacesOut == Tryz.f4.resultTypes.toList.any (Tryz.pinned.checked.prog.ifacesRec ·)) = true := by kernel_rfl
theorem formulaEqualClone_k21 : (Rows.formulaEqualCloneUptoRow.loopsOut == Tryz.f4.resultTypes.toList.any (Tryz.pinned.checked.prog.loopsFrom ·)) = true := by kernel_rfl
theorem formulaEqualClone_k22 : (Rows.formulaEqualCloneUptoRow.plainKeys == Tryz.pinned.checked.prog.plainKeys) = true := by kernel_rfl
theorem formulaEqualClone_k23 : (Rows.formulaEqualCloneUptoRow.shortTexts.isNone) = true := by kernel_rfl
theorem formulaEqualClone_k24 : (Tryz.pinned.checked.prog.stopsHeard) = true := by kernel_rfl
theorem formulaEqualClone_k25 : (Tryz.pinned.checked.prog.mayEnter) = true := by kernel_rfl
theorem formulaEqualClone_k26 : (Rows.formulaEqualCloneUptoRow.lifted == Tryz.pinned.checked.prog.liftsFinal) = true := by kernel_rfl
theorem formulaEqualClone_k27 : (Tryz.pinned.checked.prog.make == some Rows.formulaEqualCloneUptoRow.make) = true := by kernel_rfl
theorem formulaEqualClone_k28 : (Rows.formulaEqualCloneUptoRow.kinds == (if Rows.formulaEqualCloneUptoRow.domain.isEmpty then [] else Tryz.f4.params.toList.map fun t => match Tryz.pinned.checked.prog.underlying t with | some (.int k) => some k | _ => none)) = true := by kernel_rfl
theorem formulaEqualClone_k29 : (Rows.formulaEqualCloneUptoRow.pinned == Rows.formulaEqualCloneUptoRow.pinnedBy) = true := by kernel_rfl
theorem formulaEqualClone_k30 : (Rows.formulaEqualCloneUptoRow.veiled == (Tryz.f4.params.toList ++ (Rows.OpenSpec.upto Rows.formulaEqualCloneSpec).bare.plain.varTypes Tryz.pinned.checked.prog ++ Tryz.f4.resultTypes.toList).any (Tryz.pinned.checked.prog.veiledRec ·)) = true := by kernel_rfl
theorem formulaEqualClone_k31 : (Rows.formulaEqualCloneUptoRow.veiledFits Tryz.pinned.checked.prog Tryz.f4.params.toList (Tryz.f4.params.toList ++ (Rows.OpenSpec.upto Rows.formulaEqualCloneSpec).bare.plain.varTypes Tryz.pinned.checked.prog ++ Tryz.f4.resultTypes.toList)) = true := by kernel_rfl
set_option maxRecDepth 100000 in
theorem formulaEqualClone_closed : joinedFacts Tryz.pinned.checked.prog 4 Tryz.f4 (Rows.OpenSpec.upto Rows.formulaEqualCloneSpec).bare Rows.formulaEqualCloneUptoRow = true := by
  unfold joinedFacts
  exact (formulaEqualClone_and (formulaEqualClone_and (formulaEqualClone_and (formulaEqualClone_and (formulaEqualClone_and (formulaEqualClone_and (formulaEqualClone_and (formulaEqualClone_and (formulaEqualClone_and (formulaEqualClone_and (formulaEqualClone_and (formulaEqualClone_and (formulaEqualClone_and (formulaEqualClone_and (formulaEqualClone_and (formulaEqualClone_and (formulaEqualClone_and (formulaEqualClone_and (formulaEqualClone_and (formulaEqualClone_and (formulaEqualClone_and (formulaEqualClone_and (formulaEqualClone_and (formulaEqualClone_and (formulaEqualClone_and (formulaEqualClone_and (formulaEqualClone_and (formulaEqualClone_and (formulaEqualClone_and (formulaEqualClone_and (formulaEqualClone_and formulaEqualClone_k0 formulaEqualClone_k1) formulaEqualClone_k2) formulaEqualClone_k3) formulaEqualClone_k4) formulaEqualClone_k5) formulaEqualClone_k6) formulaEqualClone_k7) formulaEqualClone_k8) formulaEqualClone_k9) formulaEqualClone_k10) formulaEqualClone_k11) formulaEqualClone_k12) formulaEqualClone_k13) formulaEqualClone_k14) formulaEqualClone_k15) formulaEqualClone_k16) formulaEqualClone_k17) formulaEqualClone_k18) formulaEqualClone_k19) formulaEqualClone_k20) formulaEqualClone_k21) formulaEqualClone_k22) formulaEqualClone_k23) formulaEqualClone_k24) formulaEqualClone_k25) formulaEqualClone_k26) formulaEqualClone_k27) formulaEqualClone_k28) formulaEqualClone_k29) formulaEqualClone_k30) formulaEqualClone_k31)

theorem formulaEqualClone_said : Rows.FormulaEqualCloneUptoSaid :=
  OpenClaim.holds_of_cond 4 Tryz.f4 rfl rfl rfl rfl rfl rfl rfl ⟨rfl, rfl, rfl, rfl, rfl⟩ rfl rfl rfl rfl rfl (by kernel_rfl) Tryz.func4 formulaEqualClone_closed
    (of_decide_eq_true (by kernel_rfl)) (by unfold Func.isWrapper; first | (rw [if_pos (by decide +kernel)]; kernel_rfl) | (rw [if_neg (by decide +kernel)]; exact ⟨rfl, rfl⟩))
    (fun os started H enc _ F => by rw [OpenClaim.pre_eq_preRow]; exact formulaEqualClone_lifted os started H enc F)
theorem formulaEqualClone_plain (f : FuncId) (fn : Func) (hf : Tryz.pinned.checked.prog.funcNamed "palmette/palmettelaw10.FormulaEqualClone" = some f) (hfn : Tryz.pinned.checked.prog.funcs[f]? = some fn) :
    true = Tryz.pinned.checked.prog.looks [] ∧ ∀ (j : Nat) t, fn.params[j]? = some t → Tryz.pinned.checked.prog.wantsStandIn t = false := by
  obtain rfl : f = 4 := Option.some.inj ((show Tryz.prog.funcNamed "palmette/palmettelaw10.FormulaEqualClone" = some 4 by kernel_rfl).symm.trans hf) |>.symm
  obtain rfl : fn = Tryz.f4 := (Option.some.inj (Tryz.func4.symm.trans hfn)).symm
  refine ⟨by kernel_rfl, fun j t ht => ?_⟩
  rw [Tryz.params4] at ht
  have hm : t ∈ [45, 45, 9] := by simpa using Array.mem_of_getElem? ht
  simp only [List.mem_cons, List.not_mem_nil, or_false] at hm
  rcases hm with rfl | rfl | rfl
  · exact (show Tryz.prog.wantsStandIn 45 = false by kernel_rfl)
  · exact (show Tryz.prog.wantsStandIn 45 = false by kernel_rfl)
  · exact (show Tryz.prog.wantsStandIn 9 = false by kernel_rfl)

/-- the law's card -/
theorem formulaEqualClone : Rows.FormulaEqualCloneUptoCardSaid :=
  Claim7.holds_tied_plain_at .later [] _ _ _ _ formulaEqualClone_said (fun _ h => by cases h) (by kernel_rfl) (fun _ h => by cases h) formulaEqualCloneUpto_row_tie rfl ⟨rfl, rfl⟩ (by kernel_rfl) rfl formulaEqualClone_plain (by kernel_rfl)
end Go.Proofs.YtkhbpebpljdifaaGreatDoor
