/- ScopeRenameInverse: renaming a name to an unused name and back restores the formula, and changes the free names accordingly. Conditions: the row of its statement (tables and errors of the standard library read as their texts lay them; the arguments are together of bulk at most 1048576). -/
import Derived.Test.YtbnebkkpmcjmbaaGreatDoorMRnnA
import Derived.Deep.DeepWitnessRowRef
namespace Go.Proofs.YtbnebkkpmcjmbaaGreatDoor
open Go.ChangeShapes Go.WideShapes Go.ChangeAt Go.RowKit Go.PL Go.Deep
open Go.ChangeMaps (open_string)

theorem bulk_app {H : Type} (a b : List (DataW H)) : Rows.uptoBulkAll (a ++ b) = Rows.uptoBulkAll a + Rows.uptoBulkAll b := by
  induction a with
  | nil => simp [Rows.uptoBulkAll]
  | cons x xs ih => simp only [List.cons_append, Rows.uptoBulkAll, ih]; omega
/-- A world for the witness: the settled one, the tables holding what their initialisers lay. -/
noncomputable def scopeRenameInverse_laidWorld (os : Os) : World := World.laidAll Tryz.prog os Rows.scopeRenameInverseUptoRow.laid
theorem scopeRenameInverse_laidWorld_os (os : Os) : (scopeRenameInverse_laidWorld os).os = os := World.laidAll_os _ _ _
theorem scopeRenameInverse_laid_met (os : Os) (args : Array Value) : laidMet Tryz.prog Rows.scopeRenameInverseUptoRow.laid ((scopeRenameInverse_laidWorld os).forCall (fun _ _ => 0) ⟨#[], args, []⟩).memory :=
  laidMet_laidAll args (by kernel_rfl) (by kernel_rfl)

set_option maxRecDepth 100000 in
theorem scopeRenameInverse_contract (H : Type) (enc : TypeId × Value → H) (W : World) (base : Nat) (args : Array Value) (ds gs : List (DataW H)) (before : List MemPlace)
    (hval : ∀ (j : Nat) t v, Tryz.f4.params[j]? = some t → args[j]? = some v → Value.okWide Tryz.prog W .any base t v)
    (hW : DataW.Whole enc Tryz.prog Tryz.f4.params.toList Rows.scopeRenameInverseSpec.vars false W args.toList ds gs before) (hL : laidMetH Tryz.prog Rows.scopeRenameInverseUptoRow.laid W) (hk : Rows.uptoBulkAll (ds ++ gs) ≤ 1048576) :
    Calls Tryz.prog 4 args W fun e W' => ∃ v, e = .returned v ∧ Rows.scopeRenameInverseSpec.post enc Tryz.prog Tryz.f4 false true false false W args v W' := by
  rw [MakeChecks.laidMetH_plain _ _ _ (by kernel_rfl)] at hL
  have hE := (⟨env_of hL (by kernel_rfl) (by kernel_rfl), senv_of hL (by kernel_rfl), fenv_of hL (by kernel_rfl)⟩ : Env W ∧ SEnv W ∧ FEnv W)
  have hW' := hW
  obtain ⟨p, q, hA0, hV, rfl, hfz, hnd⟩ := hW
  have hA : DataW.TrodAll enc Tryz.prog W 0 (fun _ => true) true Tryz.f4.params.toList args.toList ds p := hA0
  rw [Tryz.params4] at hA hval
  obtain ⟨v0, vs0, d0, ds0, p0, q0, hargs, rfl, rfl, h0, r0⟩ := trodAll_cons hA
  obtain ⟨v1, vs1, d1, ds1, p1, q1, rfl, rfl, rfl, h1, r1⟩ := trodAll_cons r0
  obtain ⟨rfl, rfl, rfl⟩ := trodAll_nil r1
  simp only [bulk_app, Rows.uptoBulkAll] at hk
  obtain rfl : args = #[v0, v1] := by cases args; simp_all
  have walk : Calls Tryz.prog 4 #[v0, v1] W fun e w' => e = .returned (.bool true) ∧ Upto [] W w' := by
    obtain ⟨qq0, hq0⟩ := open_formula (okWide_struct Tryz.underlying25 (hval 0 25 v0 rfl rfl)) h0 (by omega)
    obtain ⟨s1, rfl, hb1, -, l1⟩ := open_string Tryz.underlying9 (hval 1 9 v1 rfl rfl) h1
    have x1 : s1 = ⟨s1.data.toList.toArray⟩ := by cases s1; rfl
    rw [x1]
    exact scopeRenameInverse_walk qq0 v0 s1.data.toList W hq0 (by rw [hb1] at hk; simp only [Rows.uptoBulk] at hk; omega) hE (pow_of hL (by kernel_rfl))
  exact walk.mono fun e W' ⟨he, hu⟩ => ⟨_, he, post_true (hv := rfl) (by kernel_rfl) (by kernel_rfl) (by kernel_rfl) hW' (fun _ => rfl) hu⟩

set_option maxRecDepth 100000 in
theorem scopeRenameInverse_reads (os : Os) {H : Type} (enc : TypeId × Value → H) : ∃ places, DataW.whole enc Tryz.prog ((scopeRenameInverse_laidWorld os).forCall (fun _ _ => 0) ⟨#[], #[.agg #[.int .i64 0, .slice none 0 0, .int .i64 0, .int .i64 0, .int .i64 0, .slice none 0 0], .string ⟨#[]⟩], []⟩).memory Tryz.f4.params.toList Rows.scopeRenameInverseSpec.vars false #[.agg #[.int .i64 0, .slice none 0 0, .int .i64 0, .int .i64 0, .int .i64 0, .slice none 0 0], .string ⟨#[]⟩].toList 8 = some ([.agg [.lit (.int .i64 0), .nil, .lit (.int .i64 0), .lit (.int .i64 0), .lit (.int .i64 0), .nil], .lit (.string [])], [], places) :=
  ⟨[], by kernel_rfl⟩
set_option maxRecDepth 100000 in
theorem scopeRenameInverse_lifted (os : Os) (started : os.Started) (H : Type) (enc : TypeId × Value → H) (F : Stop.Interp) :
    ReturnsInHanded {} Tryz.checked os 4 .any ((Rows.OpenSpec.upto Rows.scopeRenameInverseSpec).preRow enc Tryz.prog Tryz.f4 Rows.scopeRenameInverseUptoRow.domain false Rows.scopeRenameInverseUptoRow.laid) (((Rows.OpenSpec.upto Rows.scopeRenameInverseSpec).at F).post enc Tryz.prog Tryz.f4 false true false false) := by
  obtain ⟨places, hx⟩ := scopeRenameInverse_reads os enc
  refine returnsInHanded_of_row (C := Tryz.checked) (s := (Rows.OpenSpec.upto Rows.scopeRenameInverseSpec)) own started (by kernel_rfl) Tryz.func4
    (witness_row_atRef (enc := enc) (C := Tryz.checked) false (scopeRenameInverse_laidWorld os) #[.agg #[.int .i64 0, .slice none 0 0, .int .i64 0, .int .i64 0, .int .i64 0, .slice none 0 0], .string ⟨#[]⟩] (scopeRenameInverse_laidWorld_os os) (by kernel_rfl) (by kernel_rfl) (by kernel_rfl)
      (OpenSpec.preRow_of_cond 8 hx (by kernel_rfl) (fun k hk => by cases hk; kernel_rfl) (by kernel_rfl) (scopeRenameInverse_laid_met os _))) ?_
  intro W base args ds gs before hval hW _ hcond _ hL _ _
  exact scopeRenameInverse_contract H enc W base args ds gs before hval hW hL (of_decide_eq_true (hcond _ rfl))

theorem scopeRenameInverse_and {a b : Bool} (h : a = true) (k : b = true) : (a && b) = true := by rw [h, k]; rfl
theorem scopeRenameInverse_k0 : (Rows.scopeRenameInverseUptoRow.wf (OpenSpec.ofChange (Rows.OpenSpec.upto Rows.scopeRenameInverseSpec).bare)) = true := by kernel_rfl
theorem scopeRenameInverse_k1 : (laidOutB Tryz.pinned.checked.prog) = true := by kernel_rfl
theorem scopeRenameInverse_k2 : (mapsRowed Tryz.pinned.checked.prog) = true := by kernel_rfl
theorem scopeRenameInverse_k3 : (Tryz.f4.params.all (Tryz.pinned.checked.prog.readableRec ·)) = true := by kernel_rfl
theorem scopeRenameInverse_k4 : (namedTie Tryz.pinned.checked.prog Rows.scopeRenameInverseUptoRow.named (Rows.OpenSpec.upto Rows.scopeRenameInverseSpec).bare.vars) = true := by kernel_rfl
theorem scopeRenameInverse_k5 : (Rows.scopeRenameInverseUptoRow.stops == []) = true := by kernel_rfl
theorem scopeRenameInverse_k6 : (Tryz.pinned.checked.prog.stops == []) = true := by kernel_rfl
theorem scopeRenameInverse_k7 : (Rows.scopeRenameInverseUptoRow.knobs == []) = true := by kernel_rfl
theorem scopeRenameInverse_k8 : (Tryz.pinned.checked.prog.stopKnobs == []) = true := by kernel_rfl
theorem scopeRenameInverse_k9 : (Rows.scopeRenameInverseUptoRow.inPlace == Tryz.pinned.checked.prog.inPlace 4) = true := by kernel_rfl
theorem scopeRenameInverse_k10 : (Rows.scopeRenameInverseUptoRow.unfollowed == Tryz.pinned.checked.prog.unfollowed 4) = true := by kernel_rfl
theorem scopeRenameInverse_k11 : (Rows.scopeRenameInverseUptoRow.recurses == Tryz.pinned.checked.prog.recurses 4) = true := by kernel_rfl
theorem scopeRenameInverse_k12 : (Rows.scopeRenameInverseUptoRow.named == Tryz.pinned.checked.prog.varsNamed 4) = true := by kernel_rfl
theorem scopeRenameInverse_k13 : (Rows.scopeRenameInverseUptoRow.maps == (Tryz.f4.params.toList ++ (Rows.OpenSpec.upto Rows.scopeRenameInverseSpec).bare.plain.varTypes Tryz.pinned.checked.prog).any (Tryz.pinned.checked.prog.mapsRec ·)) = true := by kernel_rfl
theorem scopeRenameInverse_k14 : (Rows.scopeRenameInverseUptoRow.ifaces == (Tryz.f4.params.toList ++ (Rows.OpenSpec.upto Rows.scopeRenameInverseSpec).bare.plain.varTypes Tryz.pinned.checked.prog).any (Tryz.pinned.checked.prog.ifacesRec ·)) = true := by kernel_rfl
theorem scopeRenameInverse_k15 : (Rows.scopeRenameInverseUptoRow.mapsOut == Tryz.pinned.checked.prog.mapsAmong Tryz.f4.resultTypes.toList) = true := by kernel_rfl
theorem scopeRenameInverse_k16 : (Rows.scopeRenameInverseUptoRow.loops == (Tryz.f4.params.toList ++ (Rows.OpenSpec.upto Rows.scopeRenameInverseSpec).bare.plain.varTypes Tryz.pinned.checked.prog).any (Tryz.pinned.checked.prog.loopsFrom ·)) = true := by kernel_rfl
theorem scopeRenameInverse_k17 : (Rows.scopeRenameInverseUptoRow.wideKeys == (Tryz.f4.params.toList ++ (Rows.OpenSpec.upto Rows.scopeRenameInverseSpec).bare.plain.varTypes Tryz.pinned.checked.prog ++ Tryz.f4.resultTypes.toList).any (Tryz.pinned.checked.prog.wideKeysFrom ·)) = true := by kernel_rfl
theorem scopeRenameInverse_k18 : ((Rows.OpenSpec.upto Rows.scopeRenameInverseSpec).bare.vars.all (Tryz.pinned.checked.prog.varReadable ·)) = true := by kernel_rfl
theorem scopeRenameInverse_k19 : (Tryz.f4.resultTypes.all (fun t => Tryz.pinned.checked.prog.readableRec t && decide (t < Tryz.pinned.checked.prog.types.size))) = true := by kernel_rfl
theorem scopeRenameInverse_k20 : (Rows.scopeRenameInverseUptoRow.ifacesOut == Tryz.f4.resultTypes.toList.any (Tryz.pinned.checked.prog.ifacesRec ·)) = true := by kernel_rfl
theorem scopeRenameInverse_k21 : (Rows.scopeRenameInverseUptoRow.loopsOut == Tryz.f4.resultTypes.toList.any (Tryz.pinned.checked.prog.loopsFrom ·)) = true := by kernel_rfl
theorem scopeRenameInverse_k22 : (Rows.scopeRenameInverseUptoRow.plainKeys == Tryz.pinned.checked.prog.plainKeys) = true := by kernel_rfl
theorem scopeRenameInverse_k23 : (Rows.scopeRenameInverseUptoRow.shortTexts.isNone) = true := by kernel_rfl
theorem scopeRenameInverse_k24 : (Tryz.pinned.checked.prog.stopsHeard) = true := by kernel_rfl
theorem scopeRenameInverse_k25 : (Tryz.pinned.checked.prog.mayEnter) = true := by kernel_rfl
theorem scopeRenameInverse_k26 : (Rows.scopeRenameInverseUptoRow.lifted == Tryz.pinned.checked.prog.liftsFinal) = true := by kernel_rfl
theorem scopeRenameInverse_k27 : (Tryz.pinned.checked.prog.make == some Rows.scopeRenameInverseUptoRow.make) = true := by kernel_rfl
theorem scopeRenameInverse_k28 : (Rows.scopeRenameInverseUptoRow.kinds == (if Rows.scopeRenameInverseUptoRow.domain.isEmpty then [] else Tryz.f4.params.toList.map fun t => match Tryz.pinned.checked.prog.underlying t with | some (.int k) => some k | _ => none)) = true := by kernel_rfl
theorem scopeRenameInverse_k29 : (Rows.scopeRenameInverseUptoRow.pinned == Rows.scopeRenameInverseUptoRow.pinnedBy) = true := by kernel_rfl
theorem scopeRenameInverse_k30 : (Rows.scopeRenameInverseUptoRow.veiled == (Tryz.f4.params.toList ++ (Rows.OpenSpec.upto Rows.scopeRenameInverseSpec).bare.plain.varTypes Tryz.pinned.checked.prog ++ Tryz.f4.resultTypes.toList).any (Tryz.pinned.checked.prog.veiledRec ·)) = true := by kernel_rfl
theorem scopeRenameInverse_k31 : (Rows.scopeRenameInverseUptoRow.veiledFits Tryz.pinned.checked.prog Tryz.f4.params.toList (Tryz.f4.params.toList ++ (Rows.OpenSpec.upto Rows.scopeRenameInverseSpec).bare.plain.varTypes Tryz.pinned.checked.prog ++ Tryz.f4.resultTypes.toList)) = true := by kernel_rfl
set_option maxRecDepth 100000 in
theorem scopeRenameInverse_closed : joinedFacts Tryz.pinned.checked.prog 4 Tryz.f4 (Rows.OpenSpec.upto Rows.scopeRenameInverseSpec).bare Rows.scopeRenameInverseUptoRow = true := by
  unfold joinedFacts
  exact (scopeRenameInverse_and (scopeRenameInverse_and (scopeRenameInverse_and (scopeRenameInverse_and (scopeRenameInverse_and (scopeRenameInverse_and (scopeRenameInverse_and (scopeRenameInverse_and (scopeRenameInverse_and (scopeRenameInverse_and (scopeRenameInverse_and (scopeRenameInverse_and (scopeRenameInverse_and (scopeRenameInverse_and (scopeRenameInverse_and (scopeRenameInverse_and (scopeRenameInverse_and (scopeRenameInverse_and (scopeRenameInverse_and (scopeRenameInverse_and (scopeRenameInverse_and (scopeRenameInverse_and (scopeRenameInverse_and (scopeRenameInverse_and (scopeRenameInverse_and (scopeRenameInverse_and (scopeRenameInverse_and (scopeRenameInverse_and (scopeRenameInverse_and (scopeRenameInverse_and (scopeRenameInverse_and scopeRenameInverse_k0 scopeRenameInverse_k1) scopeRenameInverse_k2) scopeRenameInverse_k3) scopeRenameInverse_k4) scopeRenameInverse_k5) scopeRenameInverse_k6) scopeRenameInverse_k7) scopeRenameInverse_k8) scopeRenameInverse_k9) scopeRenameInverse_k10) scopeRenameInverse_k11) scopeRenameInverse_k12) scopeRenameInverse_k13) scopeRenameInverse_k14) scopeRenameInverse_k15) scopeRenameInverse_k16) scopeRenameInverse_k17) scopeRenameInverse_k18) scopeRenameInverse_k19) scopeRenameInverse_k20) scopeRenameInverse_k21) scopeRenameInverse_k22) scopeRenameInverse_k23) scopeRenameInverse_k24) scopeRenameInverse_k25) scopeRenameInverse_k26) scopeRenameInverse_k27) scopeRenameInverse_k28) scopeRenameInverse_k29) scopeRenameInverse_k30) scopeRenameInverse_k31)

theorem scopeRenameInverse_said : Rows.ScopeRenameInverseUptoSaid :=
  OpenClaim.holds_of_cond 4 Tryz.f4 rfl rfl rfl rfl rfl rfl rfl ⟨rfl, rfl, rfl, rfl, rfl⟩ rfl rfl rfl rfl rfl (by kernel_rfl) Tryz.func4 scopeRenameInverse_closed
    (of_decide_eq_true (by kernel_rfl)) (by unfold Func.isWrapper; first | (rw [if_pos (by decide +kernel)]; kernel_rfl) | (rw [if_neg (by decide +kernel)]; exact ⟨rfl, rfl⟩))
    (fun os started H enc _ F => by rw [OpenClaim.pre_eq_preRow]; exact scopeRenameInverse_lifted os started H enc F)
theorem scopeRenameInverse_plain (f : FuncId) (fn : Func) (hf : Tryz.pinned.checked.prog.funcNamed "palmette/palmettelaw12.ScopeRenameInverse" = some f) (hfn : Tryz.pinned.checked.prog.funcs[f]? = some fn) :
    true = Tryz.pinned.checked.prog.looks [] ∧ ∀ (j : Nat) t, fn.params[j]? = some t → Tryz.pinned.checked.prog.wantsStandIn t = false := by
  obtain rfl : f = 4 := Option.some.inj ((show Tryz.prog.funcNamed "palmette/palmettelaw12.ScopeRenameInverse" = some 4 by kernel_rfl).symm.trans hf) |>.symm
  obtain rfl : fn = Tryz.f4 := (Option.some.inj (Tryz.func4.symm.trans hfn)).symm
  refine ⟨by kernel_rfl, fun j t ht => ?_⟩
  rw [Tryz.params4] at ht
  have hm : t ∈ [25, 9] := by simpa using Array.mem_of_getElem? ht
  simp only [List.mem_cons, List.not_mem_nil, or_false] at hm
  rcases hm with rfl | rfl
  · exact (show Tryz.prog.wantsStandIn 25 = false by kernel_rfl)
  · exact (show Tryz.prog.wantsStandIn 9 = false by kernel_rfl)

/-- the law's card -/
theorem scopeRenameInverse : Rows.ScopeRenameInverseUptoCardSaid :=
  Claim7.holds_tied_plain_at .later [] _ _ _ _ scopeRenameInverse_said (fun _ h => by cases h) (by kernel_rfl) (fun _ h => by cases h) scopeRenameInverseUpto_row_tie rfl ⟨rfl, rfl⟩ (by kernel_rfl) rfl scopeRenameInverse_plain (by kernel_rfl)
end Go.Proofs.YtbnebkkpmcjmbaaGreatDoor
