/- ScopeUniqueBinders: UniqueBinders agrees with the reference for all queries, including errors. Conditions: the row of its statement (tables and errors of the standard library read as their texts lay them; the arguments are together of bulk at most 1048576). -/
import Derived.Test.YtbnebkkpmcjmbaaGreatDoorMSui
import Derived.Deep.DeepWitnessRowRef
namespace Go.Proofs.YtbnebkkpmcjmbaaGreatDoor
open Go.ChangeShapes Go.WideShapes Go.ChangeAt Go.RowKit Go.PL Go.Deep
open Go.ChangeMaps (open_string)

theorem bulk_app {H : Type} (a b : List (DataW H)) : Rows.uptoBulkAll (a ++ b) = Rows.uptoBulkAll a + Rows.uptoBulkAll b := by
  induction a with
  | nil => simp [Rows.uptoBulkAll]
  | cons x xs ih => simp only [List.cons_append, Rows.uptoBulkAll, ih]; omega
/-- A world for the witness: the settled one, the tables holding what their initialisers lay. -/
noncomputable def scopeUniqueBinders_laidWorld (os : Os) : World := World.laidAll Tryz.prog os Rows.scopeUniqueBindersUptoRow.laid
theorem scopeUniqueBinders_laidWorld_os (os : Os) : (scopeUniqueBinders_laidWorld os).os = os := World.laidAll_os _ _ _
theorem scopeUniqueBinders_laid_met (os : Os) (args : Array Value) : laidMet Tryz.prog Rows.scopeUniqueBindersUptoRow.laid ((scopeUniqueBinders_laidWorld os).forCall (fun _ _ => 0) ⟨#[], args, []⟩).memory :=
  laidMet_laidAll args (by kernel_rfl) (by kernel_rfl)

set_option maxRecDepth 100000 in
theorem scopeUniqueBinders_contract (H : Type) (enc : TypeId × Value → H) (W : World) (base : Nat) (args : Array Value) (ds gs : List (DataW H)) (before : List MemPlace)
    (hval : ∀ (j : Nat) t v, Tryz.f7.params[j]? = some t → args[j]? = some v → Value.okWide Tryz.prog W .any base t v)
    (hW : DataW.Whole enc Tryz.prog Tryz.f7.params.toList Rows.scopeUniqueBindersSpec.vars false W args.toList ds gs before) (hL : laidMetH Tryz.prog Rows.scopeUniqueBindersUptoRow.laid W) (hk : Rows.uptoBulkAll (ds ++ gs) ≤ 1048576) :
    Calls Tryz.prog 7 args W fun e W' => ∃ v, e = .returned v ∧ Rows.scopeUniqueBindersSpec.post enc Tryz.prog Tryz.f7 false true false false W args v W' := by
  rw [MakeChecks.laidMetH_plain _ _ _ (by kernel_rfl)] at hL
  have hE := (⟨env_of hL (by kernel_rfl) (by kernel_rfl), senv_of hL (by kernel_rfl), fenv_of hL (by kernel_rfl)⟩ : Env W ∧ SEnv W ∧ FEnv W)
  have hW' := hW
  obtain ⟨p, q, hA0, hV, rfl, hfz, hnd⟩ := hW
  have hA : DataW.TrodAll enc Tryz.prog W 0 (fun _ => true) true Tryz.f7.params.toList args.toList ds p := hA0
  rw [Tryz.params7] at hA hval
  obtain ⟨v0, vs0, d0, ds0, p0, q0, hargs, rfl, rfl, h0, r0⟩ := trodAll_cons hA
  obtain ⟨rfl, rfl, rfl⟩ := trodAll_nil r0
  simp only [bulk_app, Rows.uptoBulkAll] at hk
  obtain rfl : args = #[v0] := by cases args; simp_all
  have walk : Calls Tryz.prog 7 #[v0] W fun e w' => e = .returned (.bool true) ∧ Upto [] W w' := by
    obtain ⟨qq0, hq0⟩ := open_question (okWide_struct Tryz.underlying50 (hval 0 50 v0 rfl rfl)) h0 (by omega)
    exact scopeUniqueBinders_walk qq0 v0 W hq0 hE (pow_of hL (by kernel_rfl))
  exact walk.mono fun e W' ⟨he, hu⟩ => ⟨_, he, post_true (hv := rfl) (by kernel_rfl) (by kernel_rfl) (by kernel_rfl) hW' (fun _ => rfl) hu⟩

set_option maxRecDepth 100000 in
theorem scopeUniqueBinders_reads (os : Os) {H : Type} (enc : TypeId × Value → H) : ∃ places, DataW.whole enc Tryz.prog ((scopeUniqueBinders_laidWorld os).forCall (fun _ _ => 0) ⟨#[], #[.agg #[.slice none 0 0, .int .i64 0, .slice none 0 0, .int .i64 0, .int .i64 0, .int .i64 0, .slice none 0 0]], []⟩).memory Tryz.f7.params.toList Rows.scopeUniqueBindersSpec.vars false #[.agg #[.slice none 0 0, .int .i64 0, .slice none 0 0, .int .i64 0, .int .i64 0, .int .i64 0, .slice none 0 0]].toList 8 = some ([.agg [.nil, .agg [.lit (.int .i64 0), .nil, .lit (.int .i64 0), .lit (.int .i64 0), .lit (.int .i64 0), .nil]]], [], places) :=
  ⟨[], by kernel_rfl⟩
set_option maxRecDepth 100000 in
theorem scopeUniqueBinders_lifted (os : Os) (started : os.Started) (H : Type) (enc : TypeId × Value → H) (F : Stop.Interp) :
    ReturnsInHanded {} Tryz.checked os 7 .any ((Rows.OpenSpec.upto Rows.scopeUniqueBindersSpec).preRow enc Tryz.prog Tryz.f7 Rows.scopeUniqueBindersUptoRow.domain false Rows.scopeUniqueBindersUptoRow.laid) (((Rows.OpenSpec.upto Rows.scopeUniqueBindersSpec).at F).post enc Tryz.prog Tryz.f7 false true false false) := by
  obtain ⟨places, hx⟩ := scopeUniqueBinders_reads os enc
  refine returnsInHanded_of_row (C := Tryz.checked) (s := (Rows.OpenSpec.upto Rows.scopeUniqueBindersSpec)) own started (by kernel_rfl) Tryz.func7
    (witness_row_atRef (enc := enc) (C := Tryz.checked) false (scopeUniqueBinders_laidWorld os) #[.agg #[.slice none 0 0, .int .i64 0, .slice none 0 0, .int .i64 0, .int .i64 0, .int .i64 0, .slice none 0 0]] (scopeUniqueBinders_laidWorld_os os) (by kernel_rfl) (by kernel_rfl) (by kernel_rfl)
      (OpenSpec.preRow_of_cond 8 hx (by kernel_rfl) (fun k hk => by cases hk; kernel_rfl) (by kernel_rfl) (scopeUniqueBinders_laid_met os _))) ?_
  intro W base args ds gs before hval hW _ hcond _ hL _ _
  exact scopeUniqueBinders_contract H enc W base args ds gs before hval hW hL (of_decide_eq_true (hcond _ rfl))

theorem scopeUniqueBinders_and {a b : Bool} (h : a = true) (k : b = true) : (a && b) = true := by rw [h, k]; rfl
theorem scopeUniqueBinders_k0 : (Rows.scopeUniqueBindersUptoRow.wf (OpenSpec.ofChange (Rows.OpenSpec.upto Rows.scopeUniqueBindersSpec).bare)) = true := by kernel_rfl
theorem scopeUniqueBinders_k1 : (laidOutB Tryz.pinned.checked.prog) = true := by kernel_rfl
theorem scopeUniqueBinders_k2 : (mapsRowed Tryz.pinned.checked.prog) = true := by kernel_rfl
theorem scopeUniqueBinders_k3 : (Tryz.f7.params.all (Tryz.pinned.checked.prog.readableRec ·)) = true := by kernel_rfl
theorem scopeUniqueBinders_k4 : (namedTie Tryz.pinned.checked.prog Rows.scopeUniqueBindersUptoRow.named (Rows.OpenSpec.upto Rows.scopeUniqueBindersSpec).bare.vars) = true := by kernel_rfl
theorem scopeUniqueBinders_k5 : (Rows.scopeUniqueBindersUptoRow.stops == []) = true := by kernel_rfl
theorem scopeUniqueBinders_k6 : (Tryz.pinned.checked.prog.stops == []) = true := by kernel_rfl
theorem scopeUniqueBinders_k7 : (Rows.scopeUniqueBindersUptoRow.knobs == []) = true := by kernel_rfl
theorem scopeUniqueBinders_k8 : (Tryz.pinned.checked.prog.stopKnobs == []) = true := by kernel_rfl
theorem scopeUniqueBinders_k9 : (Rows.scopeUniqueBindersUptoRow.inPlace == Tryz.pinned.checked.prog.inPlace 7) = true := by kernel_rfl
theorem scopeUniqueBinders_k10 : (Rows.scopeUniqueBindersUptoRow.unfollowed == Tryz.pinned.checked.prog.unfollowed 7) = true := by kernel_rfl
theorem scopeUniqueBinders_k11 : (Rows.scopeUniqueBindersUptoRow.recurses == Tryz.pinned.checked.prog.recurses 7) = true := by kernel_rfl
theorem scopeUniqueBinders_k12 : (Rows.scopeUniqueBindersUptoRow.named == Tryz.pinned.checked.prog.varsNamed 7) = true := by kernel_rfl
theorem scopeUniqueBinders_k13 : (Rows.scopeUniqueBindersUptoRow.maps == (Tryz.f7.params.toList ++ (Rows.OpenSpec.upto Rows.scopeUniqueBindersSpec).bare.plain.varTypes Tryz.pinned.checked.prog).any (Tryz.pinned.checked.prog.mapsRec ·)) = true := by kernel_rfl
theorem scopeUniqueBinders_k14 : (Rows.scopeUniqueBindersUptoRow.ifaces == (Tryz.f7.params.toList ++ (Rows.OpenSpec.upto Rows.scopeUniqueBindersSpec).bare.plain.varTypes Tryz.pinned.checked.prog).any (Tryz.pinned.checked.prog.ifacesRec ·)) = true := by kernel_rfl
theorem scopeUniqueBinders_k15 : (Rows.scopeUniqueBindersUptoRow.mapsOut == Tryz.pinned.checked.prog.mapsAmong Tryz.f7.resultTypes.toList) = true := by kernel_rfl
theorem scopeUniqueBinders_k16 : (Rows.scopeUniqueBindersUptoRow.loops == (Tryz.f7.params.toList ++ (Rows.OpenSpec.upto Rows.scopeUniqueBindersSpec).bare.plain.varTypes Tryz.pinned.checked.prog).any (Tryz.pinned.checked.prog.loopsFrom ·)) = true := by kernel_rfl
theorem scopeUniqueBinders_k17 : (Rows.scopeUniqueBindersUptoRow.wideKeys == (Tryz.f7.params.toList ++ (Rows.OpenSpec.upto Rows.scopeUniqueBindersSpec).bare.plain.varTypes Tryz.pinned.checked.prog ++ Tryz.f7.resultTypes.toList).any (Tryz.pinned.checked.prog.wideKeysFrom ·)) = true := by kernel_rfl
theorem scopeUniqueBinders_k18 : ((Rows.OpenSpec.upto Rows.scopeUniqueBindersSpec).bare.vars.all (Tryz.pinned.checked.prog.varReadable ·)) = true := by kernel_rfl
theorem scopeUniqueBinders_k19 : (Tryz.f7.resultTypes.all (fun t => Tryz.pinned.checked.prog.readableRec t && decide (t < Tryz.pinned.checked.prog.types.size))) = true := by kernel_rfl
theorem scopeUniqueBinders_k20 : (Rows.scopeUniqueBindersUptoRow.ifacesOut == Tryz.f7.resultTypes.toList.any (Tryz.pinned.checked.prog.ifacesRec ·)) = true := by kernel_rfl
theorem scopeUniqueBinders_k21 : (Rows.scopeUniqueBindersUptoRow.loopsOut == Tryz.f7.resultTypes.toList.any (Tryz.pinned.checked.prog.loopsFrom ·)) = true := by kernel_rfl
theorem scopeUniqueBinders_k22 : (Rows.scopeUniqueBindersUptoRow.plainKeys == Tryz.pinned.checked.prog.plainKeys) = true := by kernel_rfl
theorem scopeUniqueBinders_k23 : (Rows.scopeUniqueBindersUptoRow.shortTexts.isNone) = true := by kernel_rfl
theorem scopeUniqueBinders_k24 : (Tryz.pinned.checked.prog.stopsHeard) = true := by kernel_rfl
theorem scopeUniqueBinders_k25 : (Tryz.pinned.checked.prog.mayEnter) = true := by kernel_rfl
theorem scopeUniqueBinders_k26 : (Rows.scopeUniqueBindersUptoRow.lifted == Tryz.pinned.checked.prog.liftsFinal) = true := by kernel_rfl
theorem scopeUniqueBinders_k27 : (Tryz.pinned.checked.prog.make == some Rows.scopeUniqueBindersUptoRow.make) = true := by kernel_rfl
theorem scopeUniqueBinders_k28 : (Rows.scopeUniqueBindersUptoRow.kinds == (if Rows.scopeUniqueBindersUptoRow.domain.isEmpty then [] else Tryz.f7.params.toList.map fun t => match Tryz.pinned.checked.prog.underlying t with | some (.int k) => some k | _ => none)) = true := by kernel_rfl
theorem scopeUniqueBinders_k29 : (Rows.scopeUniqueBindersUptoRow.pinned == Rows.scopeUniqueBindersUptoRow.pinnedBy) = true := by kernel_rfl
theorem scopeUniqueBinders_k30 : (Rows.scopeUniqueBindersUptoRow.veiled == (Tryz.f7.params.toList ++ (Rows.OpenSpec.upto Rows.scopeUniqueBindersSpec).bare.plain.varTypes Tryz.pinned.checked.prog ++ Tryz.f7.resultTypes.toList).any (Tryz.pinned.checked.prog.veiledRec ·)) = true := by kernel_rfl
theorem scopeUniqueBinders_k31 : (Rows.scopeUniqueBindersUptoRow.veiledFits Tryz.pinned.checked.prog Tryz.f7.params.toList (Tryz.f7.params.toList ++ (Rows.OpenSpec.upto Rows.scopeUniqueBindersSpec).bare.plain.varTypes Tryz.pinned.checked.prog ++ Tryz.f7.resultTypes.toList)) = true := by kernel_rfl
set_option maxRecDepth 100000 in
theorem scopeUniqueBinders_closed : joinedFacts Tryz.pinned.checked.prog 7 Tryz.f7 (Rows.OpenSpec.upto Rows.scopeUniqueBindersSpec).bare Rows.scopeUniqueBindersUptoRow = true := by
  unfold joinedFacts
  exact (scopeUniqueBinders_and (scopeUniqueBinders_and (scopeUniqueBinders_and (scopeUniqueBinders_and (scopeUniqueBinders_and (scopeUniqueBinders_and (scopeUniqueBinders_and (scopeUniqueBinders_and (scopeUniqueBinders_and (scopeUniqueBinders_and (scopeUniqueBinders_and (scopeUniqueBinders_and (scopeUniqueBinders_and (scopeUniqueBinders_and (scopeUniqueBinders_and (scopeUniqueBinders_and (scopeUniqueBinders_and (scopeUniqueBinders_and (scopeUniqueBinders_and (scopeUniqueBinders_and (scopeUniqueBinders_and (scopeUniqueBinders_and (scopeUniqueBinders_and (scopeUniqueBinders_and (scopeUniqueBinders_and (scopeUniqueBinders_and (scopeUniqueBinders_and (scopeUniqueBinders_and (scopeUniqueBinders_and (scopeUniqueBinders_and (scopeUniqueBinders_and scopeUniqueBinders_k0 scopeUniqueBinders_k1) scopeUniqueBinders_k2) scopeUniqueBinders_k3) scopeUniqueBinders_k4) scopeUniqueBinders_k5) scopeUniqueBinders_k6) scopeUniqueBinders_k7) scopeUniqueBinders_k8) scopeUniqueBinders_k9) scopeUniqueBinders_k10) scopeUniqueBinders_k11) scopeUniqueBinders_k12) scopeUniqueBinders_k13) scopeUniqueBinders_k14) scopeUniqueBinders_k15) scopeUniqueBinders_k16) scopeUniqueBinders_k17) scopeUniqueBinders_k18) scopeUniqueBinders_k19) scopeUniqueBinders_k20) scopeUniqueBinders_k21) scopeUniqueBinders_k22) scopeUniqueBinders_k23) scopeUniqueBinders_k24) scopeUniqueBinders_k25) scopeUniqueBinders_k26) scopeUniqueBinders_k27) scopeUniqueBinders_k28) scopeUniqueBinders_k29) scopeUniqueBinders_k30) scopeUniqueBinders_k31)

theorem scopeUniqueBinders_said : Rows.ScopeUniqueBindersUptoSaid :=
  OpenClaim.holds_of_cond 7 Tryz.f7 rfl rfl rfl rfl rfl rfl rfl ⟨rfl, rfl, rfl, rfl, rfl⟩ rfl rfl rfl rfl rfl (by kernel_rfl) Tryz.func7 scopeUniqueBinders_closed
    (of_decide_eq_true (by kernel_rfl)) (by unfold Func.isWrapper; first | (rw [if_pos (by decide +kernel)]; kernel_rfl) | (rw [if_neg (by decide +kernel)]; exact ⟨rfl, rfl⟩))
    (fun os started H enc _ F => by rw [OpenClaim.pre_eq_preRow]; exact scopeUniqueBinders_lifted os started H enc F)
theorem scopeUniqueBinders_plain (f : FuncId) (fn : Func) (hf : Tryz.pinned.checked.prog.funcNamed "palmette/palmettelaw12.ScopeUniqueBinders" = some f) (hfn : Tryz.pinned.checked.prog.funcs[f]? = some fn) :
    true = Tryz.pinned.checked.prog.looks [] ∧ ∀ (j : Nat) t, fn.params[j]? = some t → Tryz.pinned.checked.prog.wantsStandIn t = false := by
  obtain rfl : f = 7 := Option.some.inj ((show Tryz.prog.funcNamed "palmette/palmettelaw12.ScopeUniqueBinders" = some 7 by kernel_rfl).symm.trans hf) |>.symm
  obtain rfl : fn = Tryz.f7 := (Option.some.inj (Tryz.func7.symm.trans hfn)).symm
  refine ⟨by kernel_rfl, fun j t ht => ?_⟩
  rw [Tryz.params7] at ht
  have hm : t ∈ [50] := by simpa using Array.mem_of_getElem? ht
  simp only [List.mem_cons, List.not_mem_nil, or_false] at hm
  rcases hm with rfl
  · exact (show Tryz.prog.wantsStandIn 50 = false by kernel_rfl)

/-- the law's card -/
theorem scopeUniqueBinders : Rows.ScopeUniqueBindersUptoCardSaid :=
  Claim7.holds_tied_plain_at .later [] _ _ _ _ scopeUniqueBinders_said (fun _ h => by cases h) (by kernel_rfl) (fun _ h => by cases h) scopeUniqueBindersUpto_row_tie rfl ⟨rfl, rfl⟩ (by kernel_rfl) rfl scopeUniqueBinders_plain (by kernel_rfl)
end Go.Proofs.YtbnebkkpmcjmbaaGreatDoor
