/- ScopeRename: Rename agrees with the reference for all formulas and names, including errors. Conditions: the row of its statement (tables and errors of the standard library read as their texts lay them; the arguments are together of bulk at most 1048576). -/
import Derived.Test.YtbnebkkpmcjmbaaGreatDoorMRnoC
import Derived.Deep.DeepWitnessRowRef
namespace Go.Proofs.YtbnebkkpmcjmbaaGreatDoor
open Go.ChangeShapes Go.WideShapes Go.ChangeAt Go.RowKit Go.PL Go.Deep
open Go.ChangeMaps (open_string)

theorem bulk_app {H : Type} (a b : List (DataW H)) : Rows.uptoBulkAll (a ++ b) = Rows.uptoBulkAll a + Rows.uptoBulkAll b := by
  induction a with
  | nil => simp [Rows.uptoBulkAll]
  | cons x xs ih => simp only [List.cons_append, Rows.uptoBulkAll, ih]; omega
/-- A world for the witness: the settled one, the tables holding what their initialisers lay. -/
noncomputable def scopeRename_laidWorld (os : Os) : World := World.laidAll Tryz.prog os Rows.scopeRenameUptoRow.laid
theorem scopeRename_laidWorld_os (os : Os) : (scopeRename_laidWorld os).os = os := World.laidAll_os _ _ _
theorem scopeRename_laid_met (os : Os) (args : Array Value) : laidMet Tryz.prog Rows.scopeRenameUptoRow.laid ((scopeRename_laidWorld os).forCall (fun _ _ => 0) ⟨#[], args, []⟩).memory :=
  laidMet_laidAll args (by kernel_rfl) (by kernel_rfl)

set_option maxRecDepth 100000 in
theorem scopeRename_contract (H : Type) (enc : TypeId × Value → H) (W : World) (base : Nat) (args : Array Value) (ds gs : List (DataW H)) (before : List MemPlace)
    (hval : ∀ (j : Nat) t v, Tryz.f3.params[j]? = some t → args[j]? = some v → Value.okWide Tryz.prog W .any base t v)
    (hW : DataW.Whole enc Tryz.prog Tryz.f3.params.toList Rows.scopeRenameSpec.vars false W args.toList ds gs before) (hL : laidMetH Tryz.prog Rows.scopeRenameUptoRow.laid W) (hk : Rows.uptoBulkAll (ds ++ gs) ≤ 1048576) :
    Calls Tryz.prog 3 args W fun e W' => ∃ v, e = .returned v ∧ Rows.scopeRenameSpec.post enc Tryz.prog Tryz.f3 false true false false W args v W' := by
  rw [MakeChecks.laidMetH_plain _ _ _ (by kernel_rfl)] at hL
  have hE := (⟨env_of hL (by kernel_rfl) (by kernel_rfl), senv_of hL (by kernel_rfl), fenv_of hL (by kernel_rfl)⟩ : Env W ∧ SEnv W ∧ FEnv W)
  have hW' := hW
  obtain ⟨p, q, hA0, hV, rfl, hfz, hnd⟩ := hW
  have hA : DataW.TrodAll enc Tryz.prog W 0 (fun _ => true) true Tryz.f3.params.toList args.toList ds p := hA0
  rw [Tryz.params3] at hA hval
  obtain ⟨v0, vs0, d0, ds0, p0, q0, hargs, rfl, rfl, h0, r0⟩ := trodAll_cons hA
  obtain ⟨v1, vs1, d1, ds1, p1, q1, rfl, rfl, rfl, h1, r1⟩ := trodAll_cons r0
  obtain ⟨v2, vs2, d2, ds2, p2, q2, rfl, rfl, rfl, h2, r2⟩ := trodAll_cons r1
  obtain ⟨rfl, rfl, rfl⟩ := trodAll_nil r2
  simp only [bulk_app, Rows.uptoBulkAll] at hk
  obtain rfl : args = #[v0, v1, v2] := by cases args; simp_all
  have walk : Calls Tryz.prog 3 #[v0, v1, v2] W fun e w' => e = .returned (.bool true) ∧ Upto [] W w' := by
    obtain ⟨qq0, hq0⟩ := open_formula (okWide_struct Tryz.underlying25 (hval 0 25 v0 rfl rfl)) h0 (by omega)
    obtain ⟨s1, rfl, hb1, -, l1⟩ := open_string Tryz.underlying9 (hval 1 9 v1 rfl rfl) h1
    have x1 : s1 = ⟨s1.data.toList.toArray⟩ := by cases s1; rfl
    rw [x1]
    obtain ⟨s2, rfl, hb2, -, l2⟩ := open_string Tryz.underlying9 (hval 2 9 v2 rfl rfl) h2
    have x2 : s2 = ⟨s2.data.toList.toArray⟩ := by cases s2; rfl
    rw [x2]
    exact scopeRename_walk qq0 v0 s1.data.toList s2.data.toList W hq0 (by rw [hb1] at hk; simp only [Rows.uptoBulk] at hk; omega) (by rw [hb2] at hk; simp only [Rows.uptoBulk] at hk; omega) hE (pow_of hL (by kernel_rfl))
  exact walk.mono fun e W' ⟨he, hu⟩ => ⟨_, he, post_true (hv := rfl) (by kernel_rfl) (by kernel_rfl) (by kernel_rfl) hW' (fun _ => rfl) hu⟩

set_option maxRecDepth 100000 in
theorem scopeRename_reads (os : Os) {H : Type} (enc : TypeId × Value → H) : ∃ places, DataW.whole enc Tryz.prog ((scopeRename_laidWorld os).forCall (fun _ _ => 0) ⟨#[], #[.agg #[.int .i64 0, .slice none 0 0, .int .i64 0, .int .i64 0, .int .i64 0, .slice none 0 0], .string ⟨#[]⟩, .string ⟨#[]⟩], []⟩).memory Tryz.f3.params.toList Rows.scopeRenameSpec.vars false #[.agg #[.int .i64 0, .slice none 0 0, .int .i64 0, .int .i64 0, .int .i64 0, .slice none 0 0], .string ⟨#[]⟩, .string ⟨#[]⟩].toList 8 = some ([.agg [.lit (.int .i64 0), .nil, .lit (.int .i64 0), .lit (.int .i64 0), .lit (.int .i64 0), .nil], .lit (.string []), .lit (.string [])], [], places) :=
  ⟨[], by kernel_rfl⟩
set_option maxRecDepth 100000 in
theorem scopeRename_lifted (os : Os) (started : os.Started) (H : Type) (enc : TypeId × Value → H) (F : Stop.Interp) :
    ReturnsInHanded {} Tryz.checked os 3 .any ((Rows.OpenSpec.upto Rows.scopeRenameSpec).preRow enc Tryz.prog Tryz.f3 Rows.scopeRenameUptoRow.domain false Rows.scopeRenameUptoRow.laid) (((Rows.OpenSpec.upto Rows.scopeRenameSpec).at F).post enc Tryz.prog Tryz.f3 false true false false) := by
  obtain ⟨places, hx⟩ := scopeRename_reads os enc
  refine returnsInHanded_of_row (C := Tryz.checked) (s := (Rows.OpenSpec.upto Rows.scopeRenameSpec)) own started (by kernel_rfl) Tryz.func3
    (witness_row_atRef (enc := enc) (C := Tryz.checked) false (scopeRename_laidWorld os) #[.agg #[.int .i64 0, .slice none 0 0, .int .i64 0, .int .i64 0, .int .i64 0, .slice none 0 0], .string ⟨#[]⟩, .string ⟨#[]⟩] (scopeRename_laidWorld_os os) (by kernel_rfl) (by kernel_rfl) (by kernel_rfl)
      (OpenSpec.preRow_of_cond 8 hx (by kernel_rfl) (fun k hk => by cases hk; kernel_rfl) (by kernel_rfl) (scopeRename_laid_met os _))) ?_
  intro W base args ds gs before hval hW _ hcond _ hL _ _
  exact scopeRename_contract H enc W base args ds gs before hval hW hL (of_decide_eq_true (hcond _ rfl))

theorem scopeRename_and {a b : Bool} (h : a = true) (k : b = true) : (a && b) = true := by rw [h, k]; rfl
theorem scopeRename_k0 : (Rows.scopeRenameUptoRow.wf (OpenSpec.ofChange (Rows.OpenSpec.upto Rows.scopeRenameSpec).bare)) = true := by kernel_rfl
theorem scopeRename_k1 : (laidOutB Tryz.pinned.checked.prog) = true := by kernel_rfl
theorem scopeRename_k2 : (mapsRowed Tryz.pinned.checked.prog) = true := by kernel_rfl
theorem scopeRename_k3 : (Tryz.f3.params.all (Tryz.pinned.checked.prog.readableRec ·)) = true := by kernel_rfl
theorem scopeRename_k4 : (namedTie Tryz.pinned.checked.prog Rows.scopeRenameUptoRow.named (Rows.OpenSpec.upto Rows.scopeRenameSpec).bare.vars) = true := by kernel_rfl
theorem scopeRename_k5 : (Rows.scopeRenameUptoRow.stops == []) = true := by kernel_rfl
theorem scopeRename_k6 : (Tryz.pinned.checked.prog.stops == []) = true := by kernel_rfl
theorem scopeRename_k7 : (Rows.scopeRenameUptoRow.knobs == []) = true := by kernel_rfl
theorem scopeRename_k8 : (Tryz.pinned.checked.prog.stopKnobs == []) = true := by kernel_rfl
theorem scopeRename_k9 : (Rows.scopeRenameUptoRow.inPlace == Tryz.pinned.checked.prog.inPlace 3) = true := by kernel_rfl
theorem scopeRename_k10 : (Rows.scopeRenameUptoRow.unfollowed == Tryz.pinned.checked.prog.unfollowed 3) = true := by kernel_rfl
theorem scopeRename_k11 : (Rows.scopeRenameUptoRow.recurses == Tryz.pinned.checked.prog.recurses 3) = true := by kernel_rfl
theorem scopeRename_k12 : (Rows.scopeRenameUptoRow.named == Tryz.pinned.checked.prog.varsNamed 3) = true := by kernel_rfl
theorem scopeRename_k13 : (Rows.scopeRenameUptoRow.maps == (Tryz.f3.params.toList ++ (Rows.OpenSpec.upto Rows.scopeRenameSpec).bare.plain.varTypes Tryz.pinned.checked.prog).any (Tryz.pinned.checked.prog.mapsRec ·)) = true := by kernel_rfl
theorem scopeRename_k14 : (Rows.scopeRenameUptoRow.ifaces == (Tryz.f3.params.toList ++ (Rows.OpenSpec.upto Rows.scopeRenameSpec).bare.plain.varTypes Tryz.pinned.checked.prog).any (Tryz.pinned.checked.prog.ifacesRec ·)) = true := by kernel_rfl
theorem scopeRename_k15 : (Rows.scopeRenameUptoRow.mapsOut == Tryz.pinned.checked.prog.mapsAmong Tryz.f3.resultTypes.toList) = true := by kernel_rfl
theorem scopeRename_k16 : (Rows.scopeRenameUptoRow.loops == (Tryz.f3.params.toList ++ (Rows.OpenSpec.upto Rows.scopeRenameSpec).bare.plain.varTypes Tryz.pinned.checked.prog).any (Tryz.pinned.checked.prog.loopsFrom ·)) = true := by kernel_rfl
theorem scopeRename_k17 : (Rows.scopeRenameUptoRow.wideKeys == (Tryz.f3.params.toList ++ (Rows.OpenSpec.upto Rows.scopeRenameSpec).bare.plain.varTypes Tryz.pinned.checked.prog ++ Tryz.f3.resultTypes.toList).any (Tryz.pinned.checked.prog.wideKeysFrom ·)) = true := by kernel_rfl
theorem scopeRename_k18 : ((Rows.OpenSpec.upto Rows.scopeRenameSpec).bare.vars.all (Tryz.pinned.checked.prog.varReadable ·)) = true := by kernel_rfl
theorem scopeRename_k19 : (Tryz.f3.resultTypes.all (fun t => Tryz.pinned.checked.prog.readableRec t && decide (t < Tryz.pinned.checked.prog.types.size))) = true := by kernel_rfl
theorem scopeRename_k20 : (Rows.scopeRenameUptoRow.ifacesOut == Tryz.f3.resultTypes.toList.any (Tryz.pinned.checked.prog.ifacesRec ·)) = true := by kernel_rfl
theorem scopeRename_k21 : (Rows.scopeRenameUptoRow.loopsOut == Tryz.f3.resultTypes.toList.any (Tryz.pinned.checked.prog.loopsFrom ·)) = true := by kernel_rfl
theorem scopeRename_k22 : (Rows.scopeRenameUptoRow.plainKeys == Tryz.pinned.checked.prog.plainKeys) = true := by kernel_rfl
theorem scopeRename_k23 : (Rows.scopeRenameUptoRow.shortTexts.isNone) = true := by kernel_rfl
theorem scopeRename_k24 : (Tryz.pinned.checked.prog.stopsHeard) = true := by kernel_rfl
theorem scopeRename_k25 : (Tryz.pinned.checked.prog.mayEnter) = true := by kernel_rfl
theorem scopeRename_k26 : (Rows.scopeRenameUptoRow.lifted == Tryz.pinned.checked.prog.liftsFinal) = true := by kernel_rfl
theorem scopeRename_k27 : (Tryz.pinned.checked.prog.make == some Rows.scopeRenameUptoRow.make) = true := by kernel_rfl
theorem scopeRename_k28 : (Rows.scopeRenameUptoRow.kinds == (if Rows.scopeRenameUptoRow.domain.isEmpty then [] else Tryz.f3.params.toList.map fun t => match Tryz.pinned.checked.prog.underlying t with | some (.int k) => some k | _ => none)) = true := by kernel_rfl
theorem scopeRename_k29 : (Rows.scopeRenameUptoRow.pinned == Rows.scopeRenameUptoRow.pinnedBy) = true := by kernel_rfl
theorem scopeRename_k30 : (Rows.scopeRenameUptoRow.veiled == (Tryz.f3.params.toList ++ (Rows.OpenSpec.upto Rows.scopeRenameSpec).bare.plain.varTypes Tryz.pinned.checked.prog ++ Tryz.f3.resultTypes.toList).any (Tryz.pinned.checked.prog.veiledRec ·)) = true := by kernel_rfl
theorem scopeRename_k31 : (Rows.scopeRenameUptoRow.veiledFits Tryz.pinned.checked.prog Tryz.f3.params.toList (Tryz.f3.params.toList ++ (Rows.OpenSpec.upto Rows.scopeRenameSpec).bare.plain.varTypes Tryz.pinned.checked.prog ++ Tryz.f3.resultTypes.toList)) = true := by kernel_rfl
set_option maxRecDepth 100000 in
theorem scopeRename_closed : joinedFacts Tryz.pinned.checked.prog 3 Tryz.f3 (Rows.OpenSpec.upto Rows.scopeRenameSpec).bare Rows.scopeRenameUptoRow = true := by
  unfold joinedFacts
  exact (scopeRename_and (scopeRename_and (scopeRename_and (scopeRename_and (scopeRename_and (scopeRename_and (scopeRename_and (scopeRename_and (scopeRename_and (scopeRename_and (scopeRename_and (scopeRename_and (scopeRename_and (scopeRename_and (scopeRename_and (scopeRename_and (scopeRename_and (scopeRename_and (scopeRename_and (scopeRename_and (scopeRename_and (scopeRename_and (scopeRename_and (scopeRename_and (scopeRename_and (scopeRename_and (scopeRename_and (scopeRename_and (scopeRename_and (scopeRename_and (scopeRename_and scopeRename_k0 scopeRename_k1) scopeRename_k2) scopeRename_k3) scopeRename_k4) scopeRename_k5) scopeRename_k6) scopeRename_k7) scopeRename_k8) scopeRename_k9) scopeRename_k10) scopeRename_k11) scopeRename_k12) scopeRename_k13) scopeRename_k14) scopeRename_k15) scopeRename_k16) scopeRename_k17) scopeRename_k18) scopeRename_k19) scopeRename_k20) scopeRename_k21) scopeRename_k22) scopeRename_k23) scopeRename_k24) scopeRename_k25) scopeRename_k26) scopeRename_k27) scopeRename_k28) scopeRename_k29) scopeRename_k30) scopeRename_k31)

theorem scopeRename_said : Rows.ScopeRenameUptoSaid :=
  OpenClaim.holds_of_cond 3 Tryz.f3 rfl rfl rfl rfl rfl rfl rfl ⟨rfl, rfl, rfl, rfl, rfl⟩ rfl rfl rfl rfl rfl (by kernel_rfl) Tryz.func3 scopeRename_closed
    (of_decide_eq_true (by kernel_rfl)) (by unfold Func.isWrapper; first | (rw [if_pos (by decide +kernel)]; kernel_rfl) | (rw [if_neg (by decide +kernel)]; exact ⟨rfl, rfl⟩))
    (fun os started H enc _ F => by rw [OpenClaim.pre_eq_preRow]; exact scopeRename_lifted os started H enc F)
theorem scopeRename_plain (f : FuncId) (fn : Func) (hf : Tryz.pinned.checked.prog.funcNamed "palmette/palmettelaw12.ScopeRename" = some f) (hfn : Tryz.pinned.checked.prog.funcs[f]? = some fn) :
    true = Tryz.pinned.checked.prog.looks [] ∧ ∀ (j : Nat) t, fn.params[j]? = some t → Tryz.pinned.checked.prog.wantsStandIn t = false := by
  obtain rfl : f = 3 := Option.some.inj ((show Tryz.prog.funcNamed "palmette/palmettelaw12.ScopeRename" = some 3 by kernel_rfl).symm.trans hf) |>.symm
  obtain rfl : fn = Tryz.f3 := (Option.some.inj (Tryz.func3.symm.trans hfn)).symm
  refine ⟨by kernel_rfl, fun j t ht => ?_⟩
  rw [Tryz.params3] at ht
  have hm : t ∈ [25, 9, 9] := by simpa using Array.mem_of_getElem? ht
  simp only [List.mem_cons, List.not_mem_nil, or_false] at hm
  rcases hm with rfl | rfl | rfl
  · exact (show Tryz.prog.wantsStandIn 25 = false by kernel_rfl)
  · exact (show Tryz.prog.wantsStandIn 9 = false by kernel_rfl)
  · exact (show Tryz.prog.wantsStandIn 9 = false by kernel_rfl)

/-- the law's card -/
theorem scopeRename : Rows.ScopeRenameUptoCardSaid :=
  Claim7.holds_tied_plain_at .later [] _ _ _ _ scopeRename_said (fun _ h => by cases h) (by kernel_rfl) (fun _ h => by cases h) scopeRenameUpto_row_tie rfl ⟨rfl, rfl⟩ (by kernel_rfl) rfl scopeRename_plain (by kernel_rfl)
end Go.Proofs.YtbnebkkpmcjmbaaGreatDoor
