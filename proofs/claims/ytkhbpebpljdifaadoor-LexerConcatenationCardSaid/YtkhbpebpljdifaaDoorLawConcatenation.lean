/- LexerConcatenation: for every two strings, the law answers true (two sources joined by a line feed yield the tokens of the first, then those of the second with shifted lines, or the first error), and no block that lay in memory before changes. Conditions: the row of its statement (tables and errors of the standard library read as their texts lay them). -/
import Derived.Test.YtkhbpebpljdifaaDoorCat
import Derived.Test.YtkhbpebpljdifaaDoorOpen
import Derived.Deep.DeepWitnessRowRef
namespace Go.Proofs.YtkhbpebpljdifaaDoor
open Go.ChangeShapes Go.WideShapes Go.ChangeAt Go.RowKit Go.PL Go.Deep
open Go.ChangeMaps (open_string)

set_option maxRecDepth 100000 in
theorem lexerConcatenation_contract (H : Type) (enc : TypeId × Value → H) (W : World) (base : Nat) (args : Array Value) (ds gs : List (DataW H)) (before : List MemPlace)
    (hval : ∀ (j : Nat) t v, Tryd.f5.params[j]? = some t → args[j]? = some v → Value.okWide Tryd.prog W .any base t v)
    (hW : DataW.Whole enc Tryd.prog Tryd.f5.params.toList Rows.lexerConcatenationSpec.vars false W args.toList ds gs before) (hL : laidMetH Tryd.prog Rows.lexerTokenizeRow.laid W) :
    Calls Tryd.prog 5 args W fun e W' => ∃ v, e = .returned v ∧ Rows.lexerConcatenationSpec.post enc Tryd.prog Tryd.f5 false true false false W args v W' := by
  have he := env_of hL
  have hW' := hW
  obtain ⟨p, q, hA0, hV, rfl, hfz, hnd⟩ := hW
  have hA : DataW.TrodAll enc Tryd.prog W 0 (fun _ => true) true Tryd.f5.params.toList args.toList ds p := hA0
  rw [Tryd.params5] at hA hval
  obtain ⟨v0, vs0, d0, ds0, p0, q0, hargs, rfl, rfl, h0, r0⟩ := trodAll_cons hA
  obtain ⟨v1, vs1, d1, ds1, p1, q1, rfl, rfl, rfl, h1, r1⟩ := trodAll_cons r0
  obtain ⟨rfl, rfl, rfl⟩ := trodAll_nil r1
  obtain rfl : args = #[v0, v1] := by cases args; simp_all
  have walk : Calls Tryd.prog 5 #[v0, v1] W fun e w' => e = .returned (.bool true) ∧ Upto [] W w' := by
    obtain ⟨s0, rfl, -, -, l0⟩ := open_string Tryd.underlying9 (hval 0 9 v0 rfl rfl) h0
    have x0 : s0 = ⟨s0.data.toList.toArray⟩ := by cases s0; rfl
    rw [x0]
    obtain ⟨s1, rfl, -, -, l1⟩ := open_string Tryd.underlying9 (hval 1 9 v1 rfl rfl) h1
    have x1 : s1 = ⟨s1.data.toList.toArray⟩ := by cases s1; rfl
    rw [x1]
    exact lexerConcatenation_walk s0.data.toList s1.data.toList (by have h := l0; rw [x0] at h; exact h) (by have h := l1; rw [x1] at h; exact h) W he
  exact walk.mono fun e W' ⟨he, hu⟩ => ⟨_, he, post_true (hv := rfl) (by kernel_rfl) (by kernel_rfl) (by kernel_rfl) hW' (fun _ => rfl) hu⟩

set_option maxRecDepth 100000 in
theorem lexerConcatenation_reads (os : Os) {H : Type} (enc : TypeId × Value → H) : ∃ places, DataW.whole enc Tryd.prog ((laidWorld os).forCall (fun _ _ => 0) ⟨#[], #[.string ⟨#[]⟩, .string ⟨#[]⟩], []⟩).memory Tryd.f5.params.toList Rows.lexerConcatenationSpec.vars false #[.string ⟨#[]⟩, .string ⟨#[]⟩].toList 8 = some ([.lit (.string []), .lit (.string [])], [], places) :=
  ⟨[], by kernel_rfl⟩
set_option maxRecDepth 100000 in
theorem lexerConcatenation_lifted (os : Os) (started : os.Started) (H : Type) (enc : TypeId × Value → H) (F : Stop.Interp) :
    ReturnsInHanded {} Tryd.checked os 5 .any ((OpenSpec.ofChange Rows.lexerConcatenationSpec).preRow enc Tryd.prog Tryd.f5 Rows.lexerConcatenationRow.domain false Rows.lexerConcatenationRow.laid) (((OpenSpec.ofChange Rows.lexerConcatenationSpec).at F).post enc Tryd.prog Tryd.f5 false true false false) := by
  obtain ⟨places, hx⟩ := lexerConcatenation_reads os enc
  refine returnsInHanded_of_row (C := Tryd.checked) (s := OpenSpec.ofChange Rows.lexerConcatenationSpec) own started (by kernel_rfl) Tryd.func5
    (witness_row_atRef (enc := enc) (C := Tryd.checked) false (laidWorld os) #[.string ⟨#[]⟩, .string ⟨#[]⟩] (laidWorld_os os) (by kernel_rfl) (by kernel_rfl) (by kernel_rfl)
      (OpenSpec.preRow_of_cond 8 hx (by kernel_rfl) (fun k hk => by cases hk) (by kernel_rfl) (laid_met os _))) ?_
  intro W base args ds gs before hval hW _ _ _ hL _ _
  exact lexerConcatenation_contract H enc W base args ds gs before hval hW hL

theorem lexerConcatenation_said : Rows.LexerConcatenationSaid :=
  OpenClaim.holds_of_cond 5 Tryd.f5 rfl rfl rfl rfl rfl rfl rfl ⟨rfl, rfl, rfl, rfl, rfl⟩ rfl rfl rfl rfl rfl (by kernel_rfl) Tryd.func5 (by kernel_rfl)
    (of_decide_eq_true (by kernel_rfl)) (by unfold Func.isWrapper; first | (rw [if_pos (by decide +kernel)]; kernel_rfl) | (rw [if_neg (by decide +kernel)]; exact ⟨rfl, rfl⟩))
    (fun os started H enc _ F => by rw [OpenClaim.pre_eq_preRow]; exact lexerConcatenation_lifted os started H enc F)
theorem lexerConcatenation_plain (f : FuncId) (fn : Func) (hf : Tryd.pinned.checked.prog.funcNamed "palmette/palmettelaw09.LexerConcatenation" = some f) (hfn : Tryd.pinned.checked.prog.funcs[f]? = some fn) :
    true = Tryd.pinned.checked.prog.looks [] ∧ ∀ (j : Nat) t, fn.params[j]? = some t → Tryd.pinned.checked.prog.wantsStandIn t = false := by
  obtain rfl : f = 5 := Option.some.inj ((show Tryd.prog.funcNamed "palmette/palmettelaw09.LexerConcatenation" = some 5 by kernel_rfl).symm.trans hf) |>.symm
  obtain rfl : fn = Tryd.f5 := (Option.some.inj (Tryd.func5.symm.trans hfn)).symm
  refine ⟨by kernel_rfl, fun j t ht => ?_⟩
  rw [Tryd.params5] at ht
  have hm : t ∈ [9, 9] := by simpa using Array.mem_of_getElem? ht
  simp only [List.mem_cons, List.not_mem_nil, or_false] at hm
  rcases hm with rfl | rfl
  · exact (show Tryd.prog.wantsStandIn 9 = false by kernel_rfl)
  · exact (show Tryd.prog.wantsStandIn 9 = false by kernel_rfl)

/-- the law's card -/
theorem lexerConcatenation : Rows.LexerConcatenationCardSaid :=
  Claim7.holds_tied_plain_at .later [] _ _ _ _ lexerConcatenation_said (fun _ h => by cases h) (by kernel_rfl) (fun _ h => by cases h) lexerConcatenation_row_tie rfl ⟨rfl, rfl⟩ (by kernel_rfl) rfl lexerConcatenation_plain (by kernel_rfl)
end Go.Proofs.YtkhbpebpljdifaaDoor
