/- SemiringHomomorphisms: whatever the two numbers and the two costs, the law answers true and no block that lay in memory before changes. Conditions: the row of its statement (three tables of the standard library read as their texts lay them). -/
import Derived.Test.YtifellalnojomaaDoorHom
import Derived.Test.YtifellalnojomaaDoorLawTropical
namespace Go.Proofs.YtifellalnojomaaDoor
open Go.ChangeShapes Go.WideShapes Go.ChangeAt Go.RowKit Go.PL Go.Deep

theorem u64_nat {z : Int} (h : (Lit.int IntKind.u64 z).wf = true) : ∃ n : Nat, z = n ∧ n < 18446744073709551616 := by
  have h2 : 0 ≤ z ∧ z ≤ 18446744073709551615 := by simpa [Lit.wf, IntKind.min, IntKind.max, IntKind.signed, IntKind.bits] using h
  exact ⟨z.toNat, by omega, by omega⟩

set_option maxRecDepth 100000 in
theorem semiringHomomorphisms_contract (H : Type) (enc : TypeId × Value → H) (W : World) (base : Nat) (args : Array Value) (ds gs : List (DataW H)) (before : List MemPlace)
    (hval : ∀ (j : Nat) t v, Tryd.f5.params[j]? = some t → args[j]? = some v → Value.okWide Tryd.prog W .any base t v)
    (hW : DataW.Whole enc Tryd.prog Tryd.f5.params.toList Rows.semiringHomomorphismsSpec.vars false W args.toList ds gs before) :
    Calls Tryd.prog 5 args W fun e W' => ∃ v, e = .returned v ∧ Rows.semiringHomomorphismsSpec.post enc Tryd.prog Tryd.f5 false true false false W args v W' := by
  have hW' := hW
  obtain ⟨p, q, hA0, hV, rfl, hfz, hnd⟩ := hW
  have hA : DataW.TrodAll enc Tryd.prog W 0 (fun _ => true) true Tryd.f5.params.toList args.toList ds p := hA0
  rw [Tryd.params5] at hA hval
  obtain ⟨v0, vs0, d0, ds0, p0, q0, hargs, rfl, rfl, h0, r0⟩ := trodAll_cons hA
  obtain ⟨v1, vs1, d1, ds1, p1, q1, rfl, rfl, rfl, h1, r1⟩ := trodAll_cons r0
  obtain ⟨v2, vs2, d2, ds2, p2, q2, rfl, rfl, rfl, h2, r2⟩ := trodAll_cons r1
  obtain ⟨v3, vs3, d3, ds3, p3, q3, rfl, rfl, rfl, h3, r3⟩ := trodAll_cons r2
  obtain ⟨rfl, rfl, rfl⟩ := trodAll_nil r3
  obtain rfl : args = #[v0, v1, v2, v3] := by cases args; simp_all
  have walk : Calls Tryd.prog 5 #[v0, v1, v2, v3] W fun e w' => e = .returned (.bool true) ∧ Upto [] W w' := by
    obtain ⟨m, rfl, -, -, wm⟩ := open_int Tryd.underlying41 (hval 0 41 v0 rfl rfl) h0
    obtain ⟨n, rfl, -, -, wn⟩ := open_int Tryd.underlying41 (hval 1 41 v1 rfl rfl) h1
    obtain ⟨a, rfl, ha⟩ := u64_nat wm
    obtain ⟨b, rfl, hb⟩ := u64_nat wn
    obtain ⟨k, n, rfl⟩ := open_cost (hval 2 27 v2 rfl rfl) h2
    obtain ⟨k', n', rfl⟩ := open_cost (hval 3 27 v3 rfl rfl) h3
    exact hom_walk a b ha hb k n k' n' W
  exact walk.mono fun e W' ⟨he, hu⟩ => ⟨_, he, post_true (hv := rfl) (by kernel_rfl) (by kernel_rfl) (by kernel_rfl) hW' (fun _ => rfl) hu⟩

set_option maxRecDepth 100000 in
theorem semiringHomomorphisms_reads (os : Os) {H : Type} (enc : TypeId × Value → H) : ∃ places, DataW.whole enc Tryd.prog ((laidWorld os).forCall (fun _ _ => 0) ⟨#[], #[.int .u64 0, .int .u64 0, .agg #[.bool false, .int .i64 0], .agg #[.bool false, .int .i64 0]], []⟩).memory Tryd.f5.params.toList Rows.semiringHomomorphismsSpec.vars false #[.int .u64 0, .int .u64 0, .agg #[.bool false, .int .i64 0], .agg #[.bool false, .int .i64 0]].toList 8 = some ([.lit (.int .u64 0), .lit (.int .u64 0), .agg [.lit (.bool false), .lit (.int .i64 0)], .agg [.lit (.bool false), .lit (.int .i64 0)]], [], places) :=
  ⟨[], by kernel_rfl⟩
set_option maxRecDepth 100000 in
theorem semiringHomomorphisms_lifted (os : Os) (started : os.Started) (H : Type) (enc : TypeId × Value → H) (F : Stop.Interp) :
    ReturnsInHanded {} Tryd.checked os 5 .any ((OpenSpec.ofChange Rows.semiringHomomorphismsSpec).preRow enc Tryd.prog Tryd.f5 Rows.semiringHomomorphismsRow.domain false Rows.semiringHomomorphismsRow.laid) (((OpenSpec.ofChange Rows.semiringHomomorphismsSpec).at F).post enc Tryd.prog Tryd.f5 false true false false) := by
  obtain ⟨places, hx⟩ := semiringHomomorphisms_reads os enc
  refine returnsInHanded_of_row (C := Tryd.checked) (s := OpenSpec.ofChange Rows.semiringHomomorphismsSpec) own started (by kernel_rfl) Tryd.func5
    (witness_row_at (enc := enc) (C := Tryd.checked) false (laidWorld os) #[.int .u64 0, .int .u64 0, .agg #[.bool false, .int .i64 0], .agg #[.bool false, .int .i64 0]] (laidWorld_os os) (by kernel_rfl) (by kernel_rfl) (by kernel_rfl)
      (OpenSpec.preRow_of_cond 8 hx (by kernel_rfl) (fun k hk => by cases hk) (by kernel_rfl) (laid_met os _))) ?_
  intro W base args ds gs before hval hW _ _ _ _ _ _
  exact semiringHomomorphisms_contract H enc W base args ds gs before hval hW

theorem semiringHomomorphisms_said : Rows.SemiringHomomorphismsSaid :=
  OpenClaim.holds_of_cond 5 Tryd.f5 rfl rfl rfl rfl rfl rfl rfl ⟨rfl, rfl, rfl, rfl, rfl⟩ rfl rfl rfl rfl rfl (by kernel_rfl) Tryd.func5 (by kernel_rfl)
    (of_decide_eq_true (by kernel_rfl)) (by unfold Func.isWrapper; first | (rw [if_pos (by decide +kernel)]; kernel_rfl) | (rw [if_neg (by decide +kernel)]; exact ⟨rfl, rfl⟩))
    (fun os started H enc _ F => by rw [OpenClaim.pre_eq_preRow]; exact semiringHomomorphisms_lifted os started H enc F)
theorem semiringHomomorphisms_plain (f : FuncId) (fn : Func) (hf : Tryd.pinned.checked.prog.funcNamed "palmette/palmettelaw39.SemiringHomomorphisms" = some f) (hfn : Tryd.pinned.checked.prog.funcs[f]? = some fn) :
    false = Tryd.pinned.checked.prog.looks [] ∧ ∀ (j : Nat) t, fn.params[j]? = some t → Tryd.pinned.checked.prog.wantsStandIn t = false := by
  obtain rfl : f = 5 := Option.some.inj ((show Tryd.prog.funcNamed "palmette/palmettelaw39.SemiringHomomorphisms" = some 5 by kernel_rfl).symm.trans hf) |>.symm
  obtain rfl : fn = Tryd.f5 := (Option.some.inj (Tryd.func5.symm.trans hfn)).symm
  refine ⟨by kernel_rfl, fun j t ht => ?_⟩
  rw [Tryd.params5] at ht
  have hm : t ∈ [41, 27] := by simpa using Array.mem_of_getElem? ht
  simp only [List.mem_cons, List.not_mem_nil, or_false] at hm
  rcases hm with rfl | rfl
  · exact (show Tryd.prog.wantsStandIn 41 = false by kernel_rfl)
  · exact (show Tryd.prog.wantsStandIn 27 = false by kernel_rfl)

/-- the law's card -/
theorem semiringHomomorphisms : Rows.SemiringHomomorphismsCardSaid :=
  Claim7.holds_tied_plain_at .later [] _ _ _ _ semiringHomomorphisms_said (fun _ h => by cases h) (by kernel_rfl) (fun _ h => by cases h) semiringHomomorphisms_row_tie rfl ⟨rfl, rfl⟩ (by kernel_rfl) rfl semiringHomomorphisms_plain (by kernel_rfl)
end Go.Proofs.YtifellalnojomaaDoor
