/- FormulaBlanks: replacing the blanks between the tokens of a text changes neither the parsed question nor the error, nor the token at which the error is reported. Conditions: the row of its statement (tables and errors of the standard library read as their texts lay them). -/
import Derived.Test.YtkhbpebpljdifaaDoorMBlf
import Derived.Deep.DeepWitnessRowRef
namespace Go.Proofs.YtkhbpebpljdifaaDoor
open Go.ChangeShapes Go.WideShapes Go.ChangeAt Go.RowKit Go.PL Go.Deep
open Go.ChangeMaps (open_string)

/-- A world for the witness: the settled one, the tables holding what their initialisers lay. -/
noncomputable def formulaBlanks_laidWorld (os : Os) : World := World.laidAll Tryd.prog os Rows.formulaBlanksRow.laid
theorem formulaBlanks_laidWorld_os (os : Os) : (formulaBlanks_laidWorld os).os = os := World.laidAll_os _ _ _
theorem formulaBlanks_laid_met (os : Os) (args : Array Value) : laidMet Tryd.prog Rows.formulaBlanksRow.laid ((formulaBlanks_laidWorld os).forCall (fun _ _ => 0) ⟨#[], args, []⟩).memory :=
  laidMet_laidAll args (by kernel_rfl) (by kernel_rfl)

set_option maxRecDepth 100000 in
theorem formulaBlanks_contract (H : Type) (enc : TypeId × Value → H) (W : World) (base : Nat) (args : Array Value) (ds gs : List (DataW H)) (before : List MemPlace)
    (hval : ∀ (j : Nat) t v, Tryd.f12.params[j]? = some t → args[j]? = some v → Value.okWide Tryd.prog W .any base t v)
    (hW : DataW.Whole enc Tryd.prog Tryd.f12.params.toList Rows.formulaBlanksSpec.vars false W args.toList ds gs before) (hL : laidMetH Tryd.prog Rows.formulaBlanksRow.laid W) :
    Calls Tryd.prog 12 args W fun e W' => ∃ v, e = .returned v ∧ Rows.formulaBlanksSpec.post enc Tryd.prog Tryd.f12 false true false false W args v W' := by
  have he := fenv_of hL
  have hse := senv_of hL
  have hW' := hW
  obtain ⟨p, q, hA0, hV, rfl, hfz, hnd⟩ := hW
  have hA : DataW.TrodAll enc Tryd.prog W 0 (fun _ => true) true Tryd.f12.params.toList args.toList ds p := hA0
  rw [Tryd.params12] at hA hval
  obtain ⟨v0, vs0, d0, ds0, p0, q0, hargs, rfl, rfl, h0, r0⟩ := trodAll_cons hA
  obtain ⟨v1, vs1, d1, ds1, p1, q1, rfl, rfl, rfl, h1, r1⟩ := trodAll_cons r0
  obtain ⟨rfl, rfl, rfl⟩ := trodAll_nil r1
  obtain rfl : args = #[v0, v1] := by cases args; simp_all
  have walk : Calls Tryd.prog 12 #[v0, v1] W fun e w' => e = .returned (.bool true) ∧ Upto [] W w' := by
    obtain ⟨s0, rfl, -, -, l0⟩ := open_string Tryd.underlying9 (hval 0 9 v0 rfl rfl) h0
    have x0 : s0 = ⟨s0.data.toList.toArray⟩ := by cases s0; rfl
    rw [x0]
    obtain ⟨bl1, hT1, hb1, hl1⟩ := open_byts (okWide_slice Tryd.underlying38 (hval 1 38 v1 rfl rfl)) h1
    exact formulaBlanks_walk s0.data.toList v1 bl1 W (by have h := l0; rw [x0] at h; exact h) hT1 hb1 hl1 he hse
  exact walk.mono fun e W' ⟨he, hu⟩ => ⟨_, he, post_true (hv := rfl) (by kernel_rfl) (by kernel_rfl) (by kernel_rfl) hW' (fun _ => rfl) hu⟩

set_option maxRecDepth 100000 in
theorem formulaBlanks_reads (os : Os) {H : Type} (enc : TypeId × Value → H) : ∃ places, DataW.whole enc Tryd.prog ((formulaBlanks_laidWorld os).forCall (fun _ _ => 0) ⟨#[], #[.string ⟨#[]⟩, .slice none 0 0], []⟩).memory Tryd.f12.params.toList Rows.formulaBlanksSpec.vars false #[.string ⟨#[]⟩, .slice none 0 0].toList 8 = some ([.lit (.string []), .nil], [], places) :=
  ⟨[], by kernel_rfl⟩
set_option maxRecDepth 100000 in
theorem formulaBlanks_lifted (os : Os) (started : os.Started) (H : Type) (enc : TypeId × Value → H) (F : Stop.Interp) :
    ReturnsInHanded {} Tryd.checked os 12 .any ((OpenSpec.ofChange Rows.formulaBlanksSpec).preRow enc Tryd.prog Tryd.f12 Rows.formulaBlanksRow.domain false Rows.formulaBlanksRow.laid) (((OpenSpec.ofChange Rows.formulaBlanksSpec).at F).post enc Tryd.prog Tryd.f12 false true false false) := by
  obtain ⟨places, hx⟩ := formulaBlanks_reads os enc
  refine returnsInHanded_of_row (C := Tryd.checked) (s := OpenSpec.ofChange Rows.formulaBlanksSpec) own started (by kernel_rfl) Tryd.func12
    (witness_row_atRef (enc := enc) (C := Tryd.checked) false (formulaBlanks_laidWorld os) #[.string ⟨#[]⟩, .slice none 0 0] (formulaBlanks_laidWorld_os os) (by kernel_rfl) (by kernel_rfl) (by kernel_rfl)
      (OpenSpec.preRow_of_cond 8 hx (by kernel_rfl) (fun k hk => by cases hk) (by kernel_rfl) (formulaBlanks_laid_met os _))) ?_
  intro W base args ds gs before hval hW _ _ _ hL _ _
  exact formulaBlanks_contract H enc W base args ds gs before hval hW hL

theorem formulaBlanks_said : Rows.FormulaBlanksSaid :=
  OpenClaim.holds_of_cond 12 Tryd.f12 rfl rfl rfl rfl rfl rfl rfl ⟨rfl, rfl, rfl, rfl, rfl⟩ rfl rfl rfl rfl rfl (by kernel_rfl) Tryd.func12 (by kernel_rfl)
    (of_decide_eq_true (by kernel_rfl)) (by unfold Func.isWrapper; first | (rw [if_pos (by decide +kernel)]; kernel_rfl) | (rw [if_neg (by decide +kernel)]; exact ⟨rfl, rfl⟩))
    (fun os started H enc _ F => by rw [OpenClaim.pre_eq_preRow]; exact formulaBlanks_lifted os started H enc F)
theorem formulaBlanks_plain (f : FuncId) (fn : Func) (hf : Tryd.pinned.checked.prog.funcNamed "palmette/palmettelaw10.FormulaBlanks" = some f) (hfn : Tryd.pinned.checked.prog.funcs[f]? = some fn) :
    true = Tryd.pinned.checked.prog.looks [] ∧ ∀ (j : Nat) t, fn.params[j]? = some t → Tryd.pinned.checked.prog.wantsStandIn t = false := by
  obtain rfl : f = 12 := Option.some.inj ((show Tryd.prog.funcNamed "palmette/palmettelaw10.FormulaBlanks" = some 12 by kernel_rfl).symm.trans hf) |>.symm
  obtain rfl : fn = Tryd.f12 := (Option.some.inj (Tryd.func12.symm.trans hfn)).symm
  refine ⟨by kernel_rfl, fun j t ht => ?_⟩
  rw [Tryd.params12] at ht
  have hm : t ∈ [9, 38] := by simpa using Array.mem_of_getElem? ht
  simp only [List.mem_cons, List.not_mem_nil, or_false] at hm
  rcases hm with rfl | rfl
  · exact (show Tryd.prog.wantsStandIn 9 = false by kernel_rfl)
  · exact (show Tryd.prog.wantsStandIn 38 = false by kernel_rfl)

/-- the law's card -/
theorem formulaBlanks : Rows.FormulaBlanksCardSaid :=
  Claim7.holds_tied_plain_at .later [] _ _ _ _ formulaBlanks_said (fun _ h => by cases h) (by kernel_rfl) (fun _ h => by cases h) formulaBlanks_row_tie rfl ⟨rfl, rfl⟩ (by kernel_rfl) rfl formulaBlanks_plain (by kernel_rfl)
end Go.Proofs.YtkhbpebpljdifaaDoor
