/- ScopeFresh: ScopeFresh: Fresh returns the first valid candidate name that is not taken, as the reference does, for all names, lists and counts. Conditions: the row of its statement (tables and errors of the standard library read as their texts lay them). -/
import Derived.Test.YtbnebkkpmcjmbaaDoorMSfd
import Derived.Deep.DeepWitnessRowRef
namespace Go.Proofs.YtbnebkkpmcjmbaaDoor
open Go.ChangeShapes Go.WideShapes Go.ChangeAt Go.RowKit Go.PL Go.Deep
open Go.ChangeMaps (open_string)

/-- A world for the witness: the settled one, the tables holding what their initialisers lay. -/
noncomputable def scopeFresh_laidWorld (os : Os) : World := World.laidAll Tryd.prog os Rows.scopeFreshRow.laid
theorem scopeFresh_laidWorld_os (os : Os) : (scopeFresh_laidWorld os).os = os := World.laidAll_os _ _ _
theorem scopeFresh_laid_met (os : Os) (args : Array Value) : laidMet Tryd.prog Rows.scopeFreshRow.laid ((scopeFresh_laidWorld os).forCall (fun _ _ => 0) ⟨#[], args, []⟩).memory :=
  laidMet_laidAll args (by kernel_rfl) (by kernel_rfl)

set_option maxRecDepth 100000 in
theorem scopeFresh_contract (H : Type) (enc : TypeId × Value → H) (W : World) (base : Nat) (args : Array Value) (ds gs : List (DataW H)) (before : List MemPlace)
    (hval : ∀ (j : Nat) t v, Tryd.f3.params[j]? = some t → args[j]? = some v → Value.okWide Tryd.prog W .any base t v)
    (hW : DataW.Whole enc Tryd.prog Tryd.f3.params.toList Rows.scopeFreshSpec.vars false W args.toList ds gs before) (hL : laidMetH Tryd.prog Rows.scopeFreshRow.laid W) :
    Calls Tryd.prog 3 args W fun e W' => ∃ v, e = .returned v ∧ Rows.scopeFreshSpec.post enc Tryd.prog Tryd.f3 false true false false W args v W' := by
  rw [MakeChecks.laidMetH_plain _ _ _ (by kernel_rfl)] at hL
  have hE := (⟨env_of hL (by kernel_rfl) (by kernel_rfl), senv_of hL (by kernel_rfl), fenv_of hL (by kernel_rfl)⟩ : Env W ∧ SEnv W ∧ FEnv W)
  have hW' := hW
  obtain ⟨p, q, hA0, hV, rfl, hfz, hnd⟩ := hW
  have hA : DataW.TrodAll enc Tryd.prog W 0 (fun _ => true) true Tryd.f3.params.toList args.toList ds p := hA0
  rw [Tryd.params3] at hA hval
  obtain ⟨v0, vs0, d0, ds0, p0, q0, hargs, rfl, rfl, h0, r0⟩ := trodAll_cons hA
  obtain ⟨v1, vs1, d1, ds1, p1, q1, rfl, rfl, rfl, h1, r1⟩ := trodAll_cons r0
  obtain ⟨v2, vs2, d2, ds2, p2, q2, rfl, rfl, rfl, h2, r2⟩ := trodAll_cons r1
  obtain ⟨rfl, rfl, rfl⟩ := trodAll_nil r2
  obtain rfl : args = #[v0, v1, v2] := by cases args; simp_all
  have walk : Calls Tryd.prog 3 #[v0, v1, v2] W fun e w' => e = .returned (.bool true) ∧ Upto [] W w' := by
    obtain ⟨s0, rfl, hb0, -, l0⟩ := open_string Tryd.underlying9 (hval 0 9 v0 rfl rfl) h0
    have x0 : s0 = ⟨s0.data.toList.toArray⟩ := by cases s0; rfl
    rw [x0]
    obtain ⟨tk1, hT1, hl1, hx1⟩ := open_texts (okWide_slice Tryd.underlying22 (hval 1 22 v1 rfl rfl)) h1
    obtain ⟨z2, rfl, -, -, w2⟩ := open_int Tryd.underlying3 (hval 2 3 v2 rfl rfl) h2
    exact scopeFreshA_walk s0.data.toList tk1 v1 z2 W (by have h := l0; rw [x0] at h; exact h) hT1 hl1 hx1 (by have h := w2; simp [Lit.wf, IntKind.min, IntKind.max, IntKind.signed, IntKind.bits] at h; omega) hE
  exact walk.mono fun e W' ⟨he, hu⟩ => ⟨_, he, post_true (hv := rfl) (by kernel_rfl) (by kernel_rfl) (by kernel_rfl) hW' (fun _ => rfl) hu⟩

set_option maxRecDepth 100000 in
theorem scopeFresh_reads (os : Os) {H : Type} (enc : TypeId × Value → H) : ∃ places, DataW.whole enc Tryd.prog ((scopeFresh_laidWorld os).forCall (fun _ _ => 0) ⟨#[], #[.string ⟨#[]⟩, .slice none 0 0, .int .i64 0], []⟩).memory Tryd.f3.params.toList Rows.scopeFreshSpec.vars false #[.string ⟨#[]⟩, .slice none 0 0, .int .i64 0].toList 8 = some ([.lit (.string []), .nil, .lit (.int .i64 0)], [], places) :=
  ⟨[], by kernel_rfl⟩
set_option maxRecDepth 100000 in
theorem scopeFresh_lifted (os : Os) (started : os.Started) (H : Type) (enc : TypeId × Value → H) (F : Stop.Interp) :
    ReturnsInHanded {} Tryd.checked os 3 .any ((OpenSpec.ofChange Rows.scopeFreshSpec).preRow enc Tryd.prog Tryd.f3 Rows.scopeFreshRow.domain false Rows.scopeFreshRow.laid) (((OpenSpec.ofChange Rows.scopeFreshSpec).at F).post enc Tryd.prog Tryd.f3 false true false false) := by
  obtain ⟨places, hx⟩ := scopeFresh_reads os enc
  refine returnsInHanded_of_row (C := Tryd.checked) (s := (OpenSpec.ofChange Rows.scopeFreshSpec)) own started (by kernel_rfl) Tryd.func3
    (witness_row_atRef (enc := enc) (C := Tryd.checked) false (scopeFresh_laidWorld os) #[.string ⟨#[]⟩, .slice none 0 0, .int .i64 0] (scopeFresh_laidWorld_os os) (by kernel_rfl) (by kernel_rfl) (by kernel_rfl)
      (OpenSpec.preRow_of_cond 8 hx (by kernel_rfl) (fun k hk => by cases hk) (by kernel_rfl) (scopeFresh_laid_met os _))) ?_
  intro W base args ds gs before hval hW _ hcond _ hL _ _
  exact scopeFresh_contract H enc W base args ds gs before hval hW hL

theorem scopeFresh_and {a b : Bool} (h : a = true) (k : b = true) : (a && b) = true := by rw [h, k]; rfl
theorem scopeFresh_k0 : (Rows.scopeFreshRow.wf (OpenSpec.ofChange (OpenSpec.ofChange Rows.scopeFreshSpec).bare)) = true := by kernel_rfl
theorem scopeFresh_k1 : (laidOutB Tryd.pinned.checked.prog) = true := by kernel_rfl
theorem scopeFresh_k2 : (mapsRowed Tryd.pinned.checked.prog) = true := by kernel_rfl
theorem scopeFresh_k3 : (Tryd.f3.params.all (Tryd.pinned.checked.prog.readableRec ·)) = true := by kernel_rfl
theorem scopeFresh_k4 : (namedTie Tryd.pinned.checked.prog Rows.scopeFreshRow.named (OpenSpec.ofChange Rows.scopeFreshSpec).bare.vars) = true := by kernel_rfl
theorem scopeFresh_k5 : (Rows.scopeFreshRow.stops == []) = true := by kernel_rfl
theorem scopeFresh_k6 : (Tryd.pinned.checked.prog.stops == []) = true := by kernel_rfl
theorem scopeFresh_k7 : (Rows.scopeFreshRow.knobs == []) = true := by kernel_rfl
theorem scopeFresh_k8 : (Tryd.pinned.checked.prog.stopKnobs == []) = true := by kernel_rfl
theorem scopeFresh_k9 : (Rows.scopeFreshRow.inPlace == Tryd.pinned.checked.prog.inPlace 3) = true := by kernel_rfl
theorem scopeFresh_k10 : (Rows.scopeFreshRow.unfollowed == Tryd.pinned.checked.prog.unfollowed 3) = true := by kernel_rfl
theorem scopeFresh_k11 : (Rows.scopeFreshRow.recurses == Tryd.pinned.checked.prog.recurses 3) = true := by kernel_rfl
theorem scopeFresh_k12 : (Rows.scopeFreshRow.named == Tryd.pinned.checked.prog.varsNamed 3) = true := by kernel_rfl
theorem scopeFresh_k13 : (Rows.scopeFreshRow.maps == (Tryd.f3.params.toList ++ (OpenSpec.ofChange Rows.scopeFreshSpec).bare.plain.varTypes Tryd.pinned.checked.prog).any (Tryd.pinned.checked.prog.mapsRec ·)) = true := by kernel_rfl
theorem scopeFresh_k14 : (Rows.scopeFreshRow.ifaces == (Tryd.f3.params.toList ++ (OpenSpec.ofChange Rows.scopeFreshSpec).bare.plain.varTypes Tryd.pinned.checked.prog).any (Tryd.pinned.checked.prog.ifacesRec ·)) = true := by kernel_rfl
theorem scopeFresh_k15 : (Rows.scopeFreshRow.mapsOut == Tryd.pinned.checked.prog.mapsAmong Tryd.f3.resultTypes.toList) = true := by kernel_rfl
theorem scopeFresh_k16 : (Rows.scopeFreshRow.loops == (Tryd.f3.params.toList ++ (OpenSpec.ofChange Rows.scopeFreshSpec).bare.plain.varTypes Tryd.pinned.checked.prog).any (Tryd.pinned.checked.prog.loopsFrom ·)) = true := by kernel_rfl
theorem scopeFresh_k17 : (Rows.scopeFreshRow.wideKeys == (Tryd.f3.params.toList ++ (OpenSpec.ofChange Rows.scopeFreshSpec).bare.plain.varTypes Tryd.pinned.checked.prog ++ Tryd.f3.resultTypes.toList).any (Tryd.pinned.checked.prog.wideKeysFrom ·)) = true := by kernel_rfl
theorem scopeFresh_k18 : ((OpenSpec.ofChange Rows.scopeFreshSpec).bare.vars.all (Tryd.pinned.checked.prog.varReadable ·)) = true := by kernel_rfl
theorem scopeFresh_k19 : (Tryd.f3.resultTypes.all (fun t => Tryd.pinned.checked.prog.readableRec t && decide (t < Tryd.pinned.checked.prog.types.size))) = true := by kernel_rfl
theorem scopeFresh_k20 : (Rows.scopeFreshRow.ifacesOut == Tryd.f3.resultTypes.toList.any (Tryd.pinned.checked.prog.ifacesRec ·)) = true := by kernel_rfl
theorem scopeFresh_k21 : (Rows.scopeFreshRow.loopsOut == Tryd.f3.resultTypes.toList.any (Tryd.pinned.checked.prog.loopsFrom ·)) = true := by kernel_rfl
theorem scopeFresh_k22 : (Rows.scopeFreshRow.plainKeys == Tryd.pinned.checked.prog.plainKeys) = true := by kernel_rfl
theorem scopeFresh_k23 : (Rows.scopeFreshRow.shortTexts.isNone) = true := by kernel_rfl
theorem scopeFresh_k24 : (Tryd.pinned.checked.prog.stopsHeard) = true := by kernel_rfl
theorem scopeFresh_k25 : (Tryd.pinned.checked.prog.mayEnter) = true := by kernel_rfl
theorem scopeFresh_k26 : (Rows.scopeFreshRow.lifted == Tryd.pinned.checked.prog.liftsFinal) = true := by kernel_rfl
theorem scopeFresh_k27 : (Tryd.pinned.checked.prog.make == some Rows.scopeFreshRow.make) = true := by kernel_rfl
theorem scopeFresh_k28 : (Rows.scopeFreshRow.kinds == (if Rows.scopeFreshRow.domain.isEmpty then [] else Tryd.f3.params.toList.map fun t => match Tryd.pinned.checked.prog.underlying t with | some (.int k) => some k | _ => none)) = true := by kernel_rfl
theorem scopeFresh_k29 : (Rows.scopeFreshRow.pinned == Rows.scopeFreshRow.pinnedBy) = true := by kernel_rfl
theorem scopeFresh_k30 : (Rows.scopeFreshRow.veiled == (Tryd.f3.params.toList ++ (OpenSpec.ofChange Rows.scopeFreshSpec).bare.plain.varTypes Tryd.pinned.checked.prog ++ Tryd.f3.resultTypes.toList).any (Tryd.pinned.checked.prog.veiledRec ·)) = true := by kernel_rfl
theorem scopeFresh_k31 : (Rows.scopeFreshRow.veiledFits Tryd.pinned.checked.prog Tryd.f3.params.toList (Tryd.f3.params.toList ++ (OpenSpec.ofChange Rows.scopeFreshSpec).bare.plain.varTypes Tryd.pinned.checked.prog ++ Tryd.f3.resultTypes.toList)) = true := by kernel_rfl
set_option maxRecDepth 100000 in
theorem scopeFresh_closed : joinedFacts Tryd.pinned.checked.prog 3 Tryd.f3 (OpenSpec.ofChange Rows.scopeFreshSpec).bare Rows.scopeFreshRow = true := by
  unfold joinedFacts
  exact (scopeFresh_and (scopeFresh_and (scopeFresh_and (scopeFresh_and (scopeFresh_and (scopeFresh_and (scopeFresh_and (scopeFresh_and (scopeFresh_and (scopeFresh_and (scopeFresh_and (scopeFresh_and (scopeFresh_and (scopeFresh_and (scopeFresh_and (scopeFresh_and (scopeFresh_and (scopeFresh_and (scopeFresh_and (scopeFresh_and (scopeFresh_and (scopeFresh_and (scopeFresh_and (scopeFresh_and (scopeFresh_and (scopeFresh_and (scopeFresh_and (scopeFresh_and (scopeFresh_and (scopeFresh_and (scopeFresh_and scopeFresh_k0 scopeFresh_k1) scopeFresh_k2) scopeFresh_k3) scopeFresh_k4) scopeFresh_k5) scopeFresh_k6) scopeFresh_k7) scopeFresh_k8) scopeFresh_k9) scopeFresh_k10) scopeFresh_k11) scopeFresh_k12) scopeFresh_k13) scopeFresh_k14) scopeFresh_k15) scopeFresh_k16) scopeFresh_k17) scopeFresh_k18) scopeFresh_k19) scopeFresh_k20) scopeFresh_k21) scopeFresh_k22) scopeFresh_k23) scopeFresh_k24) scopeFresh_k25) scopeFresh_k26) scopeFresh_k27) scopeFresh_k28) scopeFresh_k29) scopeFresh_k30) scopeFresh_k31)

theorem scopeFresh_said : Rows.ScopeFreshSaid :=
  OpenClaim.holds_of_cond 3 Tryd.f3 rfl rfl rfl rfl rfl rfl rfl ⟨rfl, rfl, rfl, rfl, rfl⟩ rfl rfl rfl rfl rfl (by kernel_rfl) Tryd.func3 scopeFresh_closed
    (of_decide_eq_true (by kernel_rfl)) (by unfold Func.isWrapper; first | (rw [if_pos (by decide +kernel)]; kernel_rfl) | (rw [if_neg (by decide +kernel)]; exact ⟨rfl, rfl⟩))
    (fun os started H enc _ F => by rw [OpenClaim.pre_eq_preRow]; exact scopeFresh_lifted os started H enc F)
theorem scopeFresh_plain (f : FuncId) (fn : Func) (hf : Tryd.pinned.checked.prog.funcNamed "palmette/palmettelaw12.ScopeFresh" = some f) (hfn : Tryd.pinned.checked.prog.funcs[f]? = some fn) :
    true = Tryd.pinned.checked.prog.looks [] ∧ ∀ (j : Nat) t, fn.params[j]? = some t → Tryd.pinned.checked.prog.wantsStandIn t = false := by
  obtain rfl : f = 3 := Option.some.inj ((show Tryd.prog.funcNamed "palmette/palmettelaw12.ScopeFresh" = some 3 by kernel_rfl).symm.trans hf) |>.symm
  obtain rfl : fn = Tryd.f3 := (Option.some.inj (Tryd.func3.symm.trans hfn)).symm
  refine ⟨by kernel_rfl, fun j t ht => ?_⟩
  rw [Tryd.params3] at ht
  have hm : t ∈ [9, 22, 3] := by simpa using Array.mem_of_getElem? ht
  simp only [List.mem_cons, List.not_mem_nil, or_false] at hm
  rcases hm with rfl | rfl | rfl
  · exact (show Tryd.prog.wantsStandIn 9 = false by kernel_rfl)
  · exact (show Tryd.prog.wantsStandIn 22 = false by kernel_rfl)
  · exact (show Tryd.prog.wantsStandIn 3 = false by kernel_rfl)

/-- the law's card -/
theorem scopeFresh : Rows.ScopeFreshCardSaid :=
  Claim7.holds_tied_plain_at .later [] _ _ _ _ scopeFresh_said (fun _ h => by cases h) (by kernel_rfl) (fun _ h => by cases h) scopeFresh_row_tie rfl ⟨rfl, rfl⟩ (by kernel_rfl) rfl scopeFresh_plain (by kernel_rfl)
end Go.Proofs.YtbnebkkpmcjmbaaDoor
