/- FormulaAssociativity: true for every matrix of bytes and two bytes. Conditions: the row of its statement (tables and errors of the standard library read as their texts lay them). -/
import Derived.Test.YtkhbpebpljdifaaDoorMAsg
import Derived.Deep.DeepWitnessRowRef
namespace Go.Proofs.YtkhbpebpljdifaaDoor
open Go.ChangeShapes Go.WideShapes Go.ChangeAt Go.RowKit Go.PL Go.Deep
open Go.ChangeMaps (open_string)

/-- A world for the witness: the settled one, the tables holding what their initialisers lay. -/
noncomputable def formulaAssociativity_laidWorld (os : Os) : World := World.laidAll Tryd.prog os Rows.formulaAssociativityRow.laid
theorem formulaAssociativity_laidWorld_os (os : Os) : (formulaAssociativity_laidWorld os).os = os := World.laidAll_os _ _ _
theorem formulaAssociativity_laid_met (os : Os) (args : Array Value) : laidMet Tryd.prog Rows.formulaAssociativityRow.laid ((formulaAssociativity_laidWorld os).forCall (fun _ _ => 0) ⟨#[], args, []⟩).memory :=
  laidMet_laidAll args (by kernel_rfl) (by kernel_rfl)

set_option maxRecDepth 100000 in
theorem formulaAssociativity_contract (H : Type) (enc : TypeId × Value → H) (W : World) (base : Nat) (args : Array Value) (ds gs : List (DataW H)) (before : List MemPlace)
    (hval : ∀ (j : Nat) t v, Tryd.f11.params[j]? = some t → args[j]? = some v → Value.okWide Tryd.prog W .any base t v)
    (hW : DataW.Whole enc Tryd.prog Tryd.f11.params.toList Rows.formulaAssociativitySpec.vars false W args.toList ds gs before) (hL : laidMetH Tryd.prog Rows.formulaAssociativityRow.laid W) :
    Calls Tryd.prog 11 args W fun e W' => ∃ v, e = .returned v ∧ Rows.formulaAssociativitySpec.post enc Tryd.prog Tryd.f11 false true false false W args v W' := by
  have he := fenv_of (show laidMetH Tryd.prog Rows.formulaBlanksRow.laid W from hL)
  have hse := senv_of (show laidMetH Tryd.prog Rows.formulaBlanksRow.laid W from hL)
  have hW' := hW
  obtain ⟨p, q, hA0, hV, rfl, hfz, hnd⟩ := hW
  have hA : DataW.TrodAll enc Tryd.prog W 0 (fun _ => true) true Tryd.f11.params.toList args.toList ds p := hA0
  rw [Tryd.params11] at hA hval
  obtain ⟨v0, vs0, d0, ds0, p0, q0, hargs, rfl, rfl, h0, r0⟩ := trodAll_cons hA
  obtain ⟨v1, vs1, d1, ds1, p1, q1, rfl, rfl, rfl, h1, r1⟩ := trodAll_cons r0
  obtain ⟨v2, vs2, d2, ds2, p2, q2, rfl, rfl, rfl, h2, r2⟩ := trodAll_cons r1
  obtain ⟨rfl, rfl, rfl⟩ := trodAll_nil r2
  obtain rfl : args = #[v0, v1, v2] := by cases args; simp_all
  have walk : Calls Tryd.prog 11 #[v0, v1, v2] W fun e w' => e = .returned (.bool true) ∧ Upto [] W w' := by
    obtain ⟨bl0, hT0, hb0, hl0⟩ := open_rows (okWide_slice Tryd.underlying51 (hval 0 51 v0 rfl rfl)) h0
    obtain ⟨z1, rfl, -, -, w1⟩ := open_int Tryd.underlying5 (hval 1 5 v1 rfl rfl) h1
    obtain ⟨z2, rfl, -, -, w2⟩ := open_int Tryd.underlying5 (hval 2 5 v2 rfl rfl) h2
    exact formulaAssociativity_walk bl0 v0 z1 z2 W hT0 hb0 hl0 (by have h := w1; simp [Lit.wf, IntKind.min, IntKind.max, IntKind.signed, IntKind.bits] at h; omega) (by have h := w2; simp [Lit.wf, IntKind.min, IntKind.max, IntKind.signed, IntKind.bits] at h; omega) he hse
  exact walk.mono fun e W' ⟨he, hu⟩ => ⟨_, he, post_true (hv := rfl) (by kernel_rfl) (by kernel_rfl) (by kernel_rfl) hW' (fun _ => rfl) hu⟩

set_option maxRecDepth 100000 in
theorem formulaAssociativity_reads (os : Os) {H : Type} (enc : TypeId × Value → H) : ∃ places, DataW.whole enc Tryd.prog ((formulaAssociativity_laidWorld os).forCall (fun _ _ => 0) ⟨#[], #[.slice none 0 0, .int .u8 0, .int .u8 0], []⟩).memory Tryd.f11.params.toList Rows.formulaAssociativitySpec.vars false #[.slice none 0 0, .int .u8 0, .int .u8 0].toList 8 = some ([.nil, .lit (.int .u8 0), .lit (.int .u8 0)], [], places) :=
  ⟨[], by kernel_rfl⟩
set_option maxRecDepth 100000 in
theorem formulaAssociativity_lifted (os : Os) (started : os.Started) (H : Type) (enc : TypeId × Value → H) (F : Stop.Interp) :
    ReturnsInHanded {} Tryd.checked os 11 .any ((OpenSpec.ofChange Rows.formulaAssociativitySpec).preRow enc Tryd.prog Tryd.f11 Rows.formulaAssociativityRow.domain false Rows.formulaAssociativityRow.laid) (((OpenSpec.ofChange Rows.formulaAssociativitySpec).at F).post enc Tryd.prog Tryd.f11 false true false false) := by
  obtain ⟨places, hx⟩ := formulaAssociativity_reads os enc
  refine returnsInHanded_of_row (C := Tryd.checked) (s := OpenSpec.ofChange Rows.formulaAssociativitySpec) own started (by kernel_rfl) Tryd.func11
    (witness_row_atRef (enc := enc) (C := Tryd.checked) false (formulaAssociativity_laidWorld os) #[.slice none 0 0, .int .u8 0, .int .u8 0] (formulaAssociativity_laidWorld_os os) (by kernel_rfl) (by kernel_rfl) (by kernel_rfl)
      (OpenSpec.preRow_of_cond 8 hx (by kernel_rfl) (fun k hk => by cases hk) (by kernel_rfl) (formulaAssociativity_laid_met os _))) ?_
  intro W base args ds gs before hval hW _ _ _ hL _ _
  exact formulaAssociativity_contract H enc W base args ds gs before hval hW hL

theorem formulaAssociativity_said : Rows.FormulaAssociativitySaid :=
  OpenClaim.holds_of_cond 11 Tryd.f11 rfl rfl rfl rfl rfl rfl rfl ⟨rfl, rfl, rfl, rfl, rfl⟩ rfl rfl rfl rfl rfl (by kernel_rfl) Tryd.func11 (by kernel_rfl)
    (of_decide_eq_true (by kernel_rfl)) (by unfold Func.isWrapper; first | (rw [if_pos (by decide +kernel)]; kernel_rfl) | (rw [if_neg (by decide +kernel)]; exact ⟨rfl, rfl⟩))
    (fun os started H enc _ F => by rw [OpenClaim.pre_eq_preRow]; exact formulaAssociativity_lifted os started H enc F)
theorem formulaAssociativity_plain (f : FuncId) (fn : Func) (hf : Tryd.pinned.checked.prog.funcNamed "palmette/palmettelaw10.FormulaAssociativity" = some f) (hfn : Tryd.pinned.checked.prog.funcs[f]? = some fn) :
    true = Tryd.pinned.checked.prog.looks [] ∧ ∀ (j : Nat) t, fn.params[j]? = some t → Tryd.pinned.checked.prog.wantsStandIn t = false := by
  obtain rfl : f = 11 := Option.some.inj ((show Tryd.prog.funcNamed "palmette/palmettelaw10.FormulaAssociativity" = some 11 by kernel_rfl).symm.trans hf) |>.symm
  obtain rfl : fn = Tryd.f11 := (Option.some.inj (Tryd.func11.symm.trans hfn)).symm
  refine ⟨by kernel_rfl, fun j t ht => ?_⟩
  rw [Tryd.params11] at ht
  have hm : t ∈ [51, 5, 5] := by simpa using Array.mem_of_getElem? ht
  simp only [List.mem_cons, List.not_mem_nil, or_false] at hm
  rcases hm with rfl | rfl | rfl
  · exact (show Tryd.prog.wantsStandIn 51 = false by kernel_rfl)
  · exact (show Tryd.prog.wantsStandIn 5 = false by kernel_rfl)
  · exact (show Tryd.prog.wantsStandIn 5 = false by kernel_rfl)

/-- the law's card -/
theorem formulaAssociativity : Rows.FormulaAssociativityCardSaid :=
  Claim7.holds_tied_plain_at .later [] _ _ _ _ formulaAssociativity_said (fun _ h => by cases h) (by kernel_rfl) (fun _ h => by cases h) formulaAssociativity_row_tie rfl ⟨rfl, rfl⟩ (by kernel_rfl) rfl formulaAssociativity_plain (by kernel_rfl)
end Go.Proofs.YtkhbpebpljdifaaDoor
