/- SemiringTropical: whatever the two costs, the law answers true and no block that lay in memory before changes. Conditions: the row of its statement (three tables of the standard library read as their texts lay them). -/
import Derived.Test.YtifellalnojomaaDoorTrop
import Derived.Test.YtifellalnojomaaDoorOpen
import Derived.ChangeMaps5
namespace Go.Proofs.YtifellalnojomaaDoor
open Go.ChangeShapes Go.WideShapes Go.ChangeAt Go.RowKit Go.PL Go.Deep

set_option maxRecDepth 100000 in
/-- a cost, opened -/
theorem open_cost {H : Type} {enc : TypeId × Value → H} {W : World} {r : Reach} {b0 : Nat} {v : Value} {d : DataW H} {ps : List MemPlace} (hv : Value.okWide Tryd.prog W r b0 27 v) (h : DataW.Trod enc Tryd.prog W 0 (fun _ => true) true 27 v d ps) :
    ∃ k n, v = cv (k, n) := by
  obtain ⟨cs, rfl, hsz⟩ := okWide_struct Tryd.underlying27 hv
  obtain ⟨m, hf⟩ := h
  rw [show Tryd.prog.cellsOf 27 = 2 by kernel_rfl] at hsz
  simp only [Value.cells] at hf
  obtain ⟨y0, y1, m', -, hl, e0, e1⟩ := trod_struct2 Tryd.underlying27 hf
  simp only [show Tryd.prog.cellsOf 4 = 1 by kernel_rfl, show Tryd.prog.cellsOf 3 = 1 by kernel_rfl] at e0 e1
  obtain ⟨l⟩ := cs
  match l, hsz with
  | [c0, c1], _ =>
    simp at e0 e1
    obtain ⟨b, hb, -⟩ := DataW.trod_bool Tryd.underlying4 e0
    obtain ⟨z, hz, -⟩ := DataW.trod_int Tryd.underlying3 e1
    simp at hb hz
    subst hb hz
    exact ⟨b, z, rfl⟩

set_option maxRecDepth 100000 in
theorem semiringTropical_contract (H : Type) (enc : TypeId × Value → H) (W : World) (base : Nat) (args : Array Value) (ds gs : List (DataW H)) (before : List MemPlace)
    (hval : ∀ (j : Nat) t v, Tryd.f4.params[j]? = some t → args[j]? = some v → Value.okWide Tryd.prog W .any base t v)
    (hW : DataW.Whole enc Tryd.prog Tryd.f4.params.toList Rows.semiringTropicalSpec.vars false W args.toList ds gs before) :
    Calls Tryd.prog 4 args W fun e W' => ∃ v, e = .returned v ∧ Rows.semiringTropicalSpec.post enc Tryd.prog Tryd.f4 false true false false W args v W' := by
  have hW' := hW
  obtain ⟨p, q, hA0, hV, rfl, hfz, hnd⟩ := hW
  have hA : DataW.TrodAll enc Tryd.prog W 0 (fun _ => true) true Tryd.f4.params.toList args.toList ds p := hA0
  rw [Tryd.params4] at hA hval
  obtain ⟨v0, vs0, d0, ds0, p0, q0, hargs, rfl, rfl, h0, r0⟩ := trodAll_cons hA
  obtain ⟨v1, vs1, d1, ds1, p1, q1, rfl, rfl, rfl, h1, r1⟩ := trodAll_cons r0
  obtain ⟨rfl, rfl, rfl⟩ := trodAll_nil r1
  obtain rfl : args = #[v0, v1] := by cases args; simp_all
  have walk : Calls Tryd.prog 4 #[v0, v1] W fun e w' => e = .returned (.bool true) ∧ Upto [] W w' := by
    obtain ⟨k, n, rfl⟩ := open_cost (hval 0 27 v0 rfl rfl) h0
    obtain ⟨k', n', rfl⟩ := open_cost (hval 1 27 v1 rfl rfl) h1
    exact tropical_walk k n k' n' W
  exact walk.mono fun e W' ⟨he, hu⟩ => ⟨_, he, post_true (hv := rfl) (by kernel_rfl) (by kernel_rfl) (by kernel_rfl) hW' (fun _ => rfl) hu⟩

set_option maxRecDepth 100000 in
theorem semiringTropical_reads (os : Os) {H : Type} (enc : TypeId × Value → H) : ∃ places, DataW.whole enc Tryd.prog ((laidWorld os).forCall (fun _ _ => 0) ⟨#[], #[.agg #[.bool false, .int .i64 0], .agg #[.bool false, .int .i64 0]], []⟩).memory Tryd.f4.params.toList Rows.semiringTropicalSpec.vars false #[.agg #[.bool false, .int .i64 0], .agg #[.bool false, .int .i64 0]].toList 8 = some ([.agg [.lit (.bool false), .lit (.int .i64 0)], .agg [.lit (.bool false), .lit (.int .i64 0)]], [], places) :=
  ⟨[], by kernel_rfl⟩
set_option maxRecDepth 100000 in
theorem semiringTropical_lifted (os : Os) (started : os.Started) (H : Type) (enc : TypeId × Value → H) (F : Stop.Interp) :
    ReturnsInHanded {} Tryd.checked os 4 .any ((OpenSpec.ofChange Rows.semiringTropicalSpec).preRow enc Tryd.prog Tryd.f4 Rows.semiringTropicalRow.domain false Rows.semiringTropicalRow.laid) (((OpenSpec.ofChange Rows.semiringTropicalSpec).at F).post enc Tryd.prog Tryd.f4 false true false false) := by
  obtain ⟨places, hx⟩ := semiringTropical_reads os enc
  refine returnsInHanded_of_row (C := Tryd.checked) (s := OpenSpec.ofChange Rows.semiringTropicalSpec) own started (by kernel_rfl) Tryd.func4
    (witness_row_at (enc := enc) (C := Tryd.checked) false (laidWorld os) #[.agg #[.bool false, .int .i64 0], .agg #[.bool false, .int .i64 0]] (laidWorld_os os) (by kernel_rfl) (by kernel_rfl) (by kernel_rfl)
      (OpenSpec.preRow_of_cond 8 hx (by kernel_rfl) (fun k hk => by cases hk) (by kernel_rfl) (laid_met os _))) ?_
  intro W base args ds gs before hval hW _ _ _ _ _ _
  exact semiringTropical_contract H enc W base args ds gs before hval hW

theorem semiringTropical_said : Rows.SemiringTropicalSaid :=
  OpenClaim.holds_of_cond 4 Tryd.f4 rfl rfl rfl rfl rfl rfl rfl ⟨rfl, rfl, rfl, rfl, rfl⟩ rfl rfl rfl rfl rfl (by kernel_rfl) Tryd.func4 (by kernel_rfl)
    (of_decide_eq_true (by kernel_rfl)) (by unfold Func.isWrapper; first | (rw [if_pos (by decide +kernel)]; kernel_rfl) | (rw [if_neg (by decide +kernel)]; exact ⟨rfl, rfl⟩))
    (fun os started H enc _ F => by rw [OpenClaim.pre_eq_preRow]; exact semiringTropical_lifted os started H enc F)
theorem semiringTropical_plain (f : FuncId) (fn : Func) (hf : Tryd.pinned.checked.prog.funcNamed "palmette/palmettelaw39.SemiringTropical" = some f) (hfn : Tryd.pinned.checked.prog.funcs[f]? = some fn) :
    false = Tryd.pinned.checked.prog.looks [] ∧ ∀ (j : Nat) t, fn.params[j]? = some t → Tryd.pinned.checked.prog.wantsStandIn t = false := by
  obtain rfl : f = 4 := Option.some.inj ((show Tryd.prog.funcNamed "palmette/palmettelaw39.SemiringTropical" = some 4 by kernel_rfl).symm.trans hf) |>.symm
  obtain rfl : fn = Tryd.f4 := (Option.some.inj (Tryd.func4.symm.trans hfn)).symm
  refine ⟨by kernel_rfl, fun j t ht => ?_⟩
  rw [Tryd.params4] at ht
  have hm : t ∈ [27, 27] := by simpa using Array.mem_of_getElem? ht
  simp only [List.mem_cons, List.not_mem_nil, or_false] at hm
  rcases hm with rfl | rfl
  · exact (show Tryd.prog.wantsStandIn 27 = false by kernel_rfl)
  · exact (show Tryd.prog.wantsStandIn 27 = false by kernel_rfl)

/-- the law's card -/
theorem semiringTropical : Rows.SemiringTropicalCardSaid :=
  Claim7.holds_tied_plain_at .later [] _ _ _ _ semiringTropical_said (fun _ h => by cases h) (by kernel_rfl) (fun _ h => by cases h) semiringTropical_row_tie rfl ⟨rfl, rfl⟩ (by kernel_rfl) rfl semiringTropical_plain (by kernel_rfl)
end Go.Proofs.YtifellalnojomaaDoor
