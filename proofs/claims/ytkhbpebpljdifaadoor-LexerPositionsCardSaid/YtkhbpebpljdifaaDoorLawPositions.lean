/- LexerPositions: for every string, the law answers true (every token stands at its place, only white space lies between tokens), and no block that lay in memory before changes. Conditions: the row of its statement (tables and errors of the standard library read as their texts lay them). -/
import Derived.Test.YtkhbpebpljdifaaDoorPos
import Derived.Test.YtkhbpebpljdifaaDoorOpen
import Derived.Deep.DeepWitnessRowRef
namespace Go.Proofs.YtkhbpebpljdifaaDoor
open Go.ChangeShapes Go.WideShapes Go.ChangeAt Go.RowKit Go.PL Go.Deep
open Go.ChangeMaps (open_string)

set_option maxRecDepth 100000 in
theorem lexerPositions_contract (H : Type) (enc : TypeId × Value → H) (W : World) (base : Nat) (args : Array Value) (ds gs : List (DataW H)) (before : List MemPlace)
    (hval : ∀ (j : Nat) t v, Tryd.f4.params[j]? = some t → args[j]? = some v → Value.okWide Tryd.prog W .any base t v)
    (hW : DataW.Whole enc Tryd.prog Tryd.f4.params.toList Rows.lexerPositionsSpec.vars false W args.toList ds gs before) (hL : laidMetH Tryd.prog Rows.lexerTokenizeRow.laid W) :
    Calls Tryd.prog 4 args W fun e W' => ∃ v, e = .returned v ∧ Rows.lexerPositionsSpec.post enc Tryd.prog Tryd.f4 false true false false W args v W' := by
  have he := env_of hL
  have hW' := hW
  obtain ⟨p, q, hA0, hV, rfl, hfz, hnd⟩ := hW
  have hA : DataW.TrodAll enc Tryd.prog W 0 (fun _ => true) true Tryd.f4.params.toList args.toList ds p := hA0
  rw [Tryd.params4] at hA hval
  obtain ⟨v0, vs0, d0, ds0, p0, q0, hargs, rfl, rfl, h0, r0⟩ := trodAll_cons hA
  obtain ⟨rfl, rfl, rfl⟩ := trodAll_nil r0
  obtain rfl : args = #[v0] := by cases args; simp_all
  have walk : Calls Tryd.prog 4 #[v0] W fun e w' => e = .returned (.bool true) ∧ Upto [] W w' := by
    obtain ⟨s0, rfl, -, -, l0⟩ := open_string Tryd.underlying9 (hval 0 9 v0 rfl rfl) h0
    have x0 : s0 = ⟨s0.data.toList.toArray⟩ := by cases s0; rfl
    rw [x0]
    exact lexerPositions_walk s0.data.toList (by have h := l0; rw [x0] at h; exact h) W he
  exact walk.mono fun e W' ⟨he, hu⟩ => ⟨_, he, post_true (hv := rfl) (by kernel_rfl) (by kernel_rfl) (by kernel_rfl) hW' (fun _ => rfl) hu⟩

set_option maxRecDepth 100000 in
theorem lexerPositions_reads (os : Os) {H : Type} (enc : TypeId × Value → H) : ∃ places, DataW.whole enc Tryd.prog ((laidWorld os).forCall (fun _ _ => 0) ⟨#[], #[.string ⟨#[]⟩], []⟩).memory Tryd.f4.params.toList Rows.lexerPositionsSpec.vars false #[.string ⟨#[]⟩].toList 8 = some ([.lit (.string [])], [], places) :=
  ⟨[], by kernel_rfl⟩
set_option maxRecDepth 100000 in
theorem lexerPositions_lifted (os : Os) (started : os.Started) (H : Type) (enc : TypeId × Value → H) (F : Stop.Interp) :
    ReturnsInHanded {} Tryd.checked os 4 .any ((OpenSpec.ofChange Rows.lexerPositionsSpec).preRow enc Tryd.prog Tryd.f4 Rows.lexerPositionsRow.domain false Rows.lexerPositionsRow.laid) (((OpenSpec.ofChange Rows.lexerPositionsSpec).at F).post enc Tryd.prog Tryd.f4 false true false false) := by
  obtain ⟨places, hx⟩ := lexerPositions_reads os enc
  refine returnsInHanded_of_row (C := Tryd.checked) (s := OpenSpec.ofChange Rows.lexerPositionsSpec) own started (by kernel_rfl) Tryd.func4
    (witness_row_atRef (enc := enc) (C := Tryd.checked) false (laidWorld os) #[.string ⟨#[]⟩] (laidWorld_os os) (by kernel_rfl) (by kernel_rfl) (by kernel_rfl)
      (OpenSpec.preRow_of_cond 8 hx (by kernel_rfl) (fun k hk => by cases hk) (by kernel_rfl) (laid_met os _))) ?_
  intro W base args ds gs before hval hW _ _ _ hL _ _
  exact lexerPositions_contract H enc W base args ds gs before hval hW hL

theorem lexerPositions_said : Rows.LexerPositionsSaid :=
  OpenClaim.holds_of_cond 4 Tryd.f4 rfl rfl rfl rfl rfl rfl rfl ⟨rfl, rfl, rfl, rfl, rfl⟩ rfl rfl rfl rfl rfl (by kernel_rfl) Tryd.func4 (by kernel_rfl)
    (of_decide_eq_true (by kernel_rfl)) (by unfold Func.isWrapper; first | (rw [if_pos (by decide +kernel)]; kernel_rfl) | (rw [if_neg (by decide +kernel)]; exact ⟨rfl, rfl⟩))
    (fun os started H enc _ F => by rw [OpenClaim.pre_eq_preRow]; exact lexerPositions_lifted os started H enc F)
theorem lexerPositions_plain (f : FuncId) (fn : Func) (hf : Tryd.pinned.checked.prog.funcNamed "palmette/palmettelaw09.LexerPositions" = some f) (hfn : Tryd.pinned.checked.prog.funcs[f]? = some fn) :
    true = Tryd.pinned.checked.prog.looks [] ∧ ∀ (j : Nat) t, fn.params[j]? = some t → Tryd.pinned.checked.prog.wantsStandIn t = false := by
  obtain rfl : f = 4 := Option.some.inj ((show Tryd.prog.funcNamed "palmette/palmettelaw09.LexerPositions" = some 4 by kernel_rfl).symm.trans hf) |>.symm
  obtain rfl : fn = Tryd.f4 := (Option.some.inj (Tryd.func4.symm.trans hfn)).symm
  refine ⟨by kernel_rfl, fun j t ht => ?_⟩
  rw [Tryd.params4] at ht
  have hm : t ∈ [9] := by simpa using Array.mem_of_getElem? ht
  simp only [List.mem_cons, List.not_mem_nil, or_false] at hm
  rcases hm with rfl
  · exact (show Tryd.prog.wantsStandIn 9 = false by kernel_rfl)

/-- the law's card -/
theorem lexerPositions : Rows.LexerPositionsCardSaid :=
  Claim7.holds_tied_plain_at .later [] _ _ _ _ lexerPositions_said (fun _ h => by cases h) (by kernel_rfl) (fun _ h => by cases h) lexerPositions_row_tie rfl ⟨rfl, rfl⟩ (by kernel_rfl) rfl lexerPositions_plain (by kernel_rfl)
end Go.Proofs.YtkhbpebpljdifaaDoor
