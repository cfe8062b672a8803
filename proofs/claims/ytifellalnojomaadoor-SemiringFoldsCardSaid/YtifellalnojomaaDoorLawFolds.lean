/- SemiringFolds: whatever the numbers, the costs and the count, the law answers true and no block that lay in memory before changes. Conditions: the row of its statement (three tables of the standard library read as their texts lay them). -/
import Derived.Test.YtifellalnojomaaDoorFoldsW
import Derived.Test.YtifellalnojomaaDoorThings
namespace Go.Proofs.YtifellalnojomaaDoor
open Go.ChangeShapes Go.WideShapes Go.ChangeAt Go.RowKit Go.PL Go.Deep

theorem i64_bounds {z : Int} (h : (Lit.int IntKind.i64 z).wf = true) : -9223372036854775808 ≤ z ∧ z ≤ 9223372036854775807 := by
  simpa [Lit.wf, IntKind.min, IntKind.max, IntKind.signed, IntKind.bits] using h
theorem u16_nat {z : Int} (h : (Lit.int IntKind.u16 z).wf = true) : ∃ n : Nat, z = n ∧ n < 65536 := by
  have h2 : 0 ≤ z ∧ z ≤ 65535 := by simpa [Lit.wf, IntKind.min, IntKind.max, IntKind.signed, IntKind.bits] using h
  exact ⟨z.toNat, by omega, by omega⟩

theorem nats_of {H : Type} {enc : TypeId × Value → H} {W : World} : ∀ {xs : List Value}, (∀ x ∈ xs, ∃ n y, DataW.trod enc Tryd.prog W 0 (fun _ => true) true n 89 [x] = some y) → ∃ ks : List Nat, xs = ks.map (fun k : Nat => Value.int .u16 (k : Int)) ∧ ∀ k ∈ ks, k < 65536
  | [], _ => ⟨[], rfl, by simp⟩
  | x :: xs, h => by
    obtain ⟨ks, h1, h2⟩ := nats_of (xs := xs) (fun y hy => h y (List.mem_cons_of_mem _ hy))
    obtain ⟨n, y, hx⟩ := h x (by simp)
    obtain ⟨z, hz, -, hw⟩ := DataW.trod_int Tryd.underlying89 hx
    simp at hz
    obtain ⟨k, rfl, hk⟩ := u16_nat hw
    refine ⟨k :: ks, by rw [h1, hz]; rfl, fun q hq => ?_⟩
    rcases List.mem_cons.1 hq with rfl | hq
    · exact hk
    · exact h2 q hq

/-- a slice of costs, two cells an element -/
theorem open_costs {H : Type} {enc : TypeId × Value → H} {W : World} {v : Value} {d : DataW H} {ps : List MemPlace} (hv : ∃ a n c, v = .slice a n c) (h : DataW.Trod enc Tryd.prog W 0 (fun _ => true) true 87 v d ps) :
    ∃ pa pc, ∃ qs : List (Bool × Int), v = .slice pa qs.length pc ∧ qs.length ≤ maxLen ∧ (qs = [] ∨ ∃ g o, pa = some ⟨g, o, none⟩ ∧ ∀ k (x : Bool × Int), qs[k]? = some x → W.cell? ⟨g, o + k * 2, none⟩ = some (.bool x.1) ∧ W.cell? ⟨g, o + k * 2 + 1, none⟩ = some (.int .i64 x.2)) := by
  obtain ⟨a, n, c, rfl⟩ := hv
  obtain ⟨fuel, hf⟩ := h
  simp only [Value.cells, List.toList_toArray] at hf
  rcases open_slice Tryd.underlying87 hf with ⟨hcs, _⟩ | ⟨ad, len, cap, m, n', D, Pl, hcs, _, hl, hm, hmm, hx, hcell⟩
  · simp at hcs
    obtain ⟨rfl, rfl, rfl⟩ := hcs
    exact ⟨none, 0, [], rfl, by simp, Or.inl rfl⟩
  · simp at hcs
    obtain ⟨rfl, rfl, rfl⟩ := hcs
    simp only [if_true] at hmm
    simp only [show Tryd.prog.cellsOf 27 = 2 by kernel_rfl] at hcell
    obtain ⟨f, hf'⟩ := choose_lt (α := Bool × Int) (n := n) (p := fun i x => W.cell? ((ad.add (i * 2)).add 0) = some (.bool x.1) ∧ W.cell? ((ad.add (i * 2)).add 1) = some (.int .i64 x.2)) (fun i hi => by
      obtain ⟨cs', h1, h2⟩ := hcell i (by omega)
      obtain ⟨_, hlen, hat⟩ := World.cells?_some h1
      match cs', hlen with
      | [x, y], _ =>
        obtain ⟨k, m, rfl, rfl⟩ := cost_cells h2
        exact ⟨(k, m), (hat 0 (by omega)).trans rfl, (hat 1 (by omega)).trans rfl⟩)
    refine ⟨some ad, c, (List.range n).map f, by simp, by simp; omega, ?_⟩
    rcases Nat.eq_zero_or_pos n with h0 | h0
    · subst h0
      exact Or.inl rfl
    · obtain ⟨b, off, spot⟩ := ad
      have hspot : spot = none := by simpa [Addr.add] using World.cell?_spot (hf' 0 h0).1
      subst hspot
      refine Or.inr ⟨b, off, rfl, fun k x hk => ?_⟩
      have hkn : k < n := by
        rcases Nat.lt_or_ge k n with h | h
        · exact h
        · rw [List.getElem?_eq_none (by simpa using h)] at hk; cases hk
      rw [List.getElem?_eq_getElem (by simpa using hkn)] at hk
      simp at hk
      rw [← hk]
      have h := hf' k hkn
      simp only [Addr.add_lit, Nat.add_zero] at h
      exact h

set_option maxRecDepth 100000 in
set_option maxHeartbeats 3200000 in
theorem semiringFolds_contract (H : Type) (enc : TypeId × Value → H) (W : World) (base : Nat) (args : Array Value) (ds gs : List (DataW H)) (before : List MemPlace)
    (hval : ∀ (j : Nat) t v, Tryd.f9.params[j]? = some t → args[j]? = some v → Value.okWide Tryd.prog W .any base t v)
    (hW : DataW.Whole enc Tryd.prog Tryd.f9.params.toList Rows.semiringFoldsSpec.vars false W args.toList ds gs before) :
    Calls Tryd.prog 9 args W fun e W' => ∃ v, e = .returned v ∧ Rows.semiringFoldsSpec.post enc Tryd.prog Tryd.f9 false true false false W args v W' := by
  have hW' := hW
  obtain ⟨p, q, hA0, hV, rfl, hfz, hnd⟩ := hW
  have hA : DataW.TrodAll enc Tryd.prog W 0 (fun _ => true) true Tryd.f9.params.toList args.toList ds p := hA0
  rw [Tryd.params9] at hA hval
  obtain ⟨v0, vs0, d0, ds0, p0, q0, hargs, rfl, rfl, h0, r0⟩ := trodAll_cons hA
  obtain ⟨v1, vs1, d1, ds1, p1, q1, rfl, rfl, rfl, h1, r1⟩ := trodAll_cons r0
  obtain ⟨v2, vs2, d2, ds2, p2, q2, rfl, rfl, rfl, h2, r2⟩ := trodAll_cons r1
  obtain ⟨rfl, rfl, rfl⟩ := trodAll_nil r2
  obtain rfl : args = #[v0, v1, v2] := by cases args; simp_all
  have walk : Calls Tryd.prog 9 #[v0, v1, v2] W fun e w' => e = .returned (.bool true) ∧ Upto [] W w' := by
    obtain ⟨va, vc, xs, rfl, hs, hl, hx⟩ := open_slc Tryd.underlying86 (by kernel_rfl) (okWide_slice Tryd.underlying86 (hval 0 86 v0 rfl rfl)) h0
    obtain ⟨pa, pc, qs, rfl, hql, hqc⟩ := open_costs (okWide_slice Tryd.underlying87 (hval 1 87 v1 rfl rfl)) h1
    obtain ⟨z, rfl, -, -, wz⟩ := open_int Tryd.underlying3 (hval 2 3 v2 rfl rfl) h2
    obtain ⟨ks, rfl, hks⟩ := nats_of (fun x hm => by obtain ⟨n, y, h, _⟩ := hx x hm; exact ⟨n, y, h⟩)
    rw [List.length_map] at hs hl ⊢
    refine folds_walk ks hks qs va pa vc pc z W (i64_bounds wz) hl hql ?_ hqc
    rcases hs with ⟨h, _⟩ | ⟨g, o, c, he, hc⟩
    · exact Or.inl (by simpa using h)
    · injection he with ea eb ec
      exact Or.inr ⟨g, o, ea, fun k x hk => hc k _ (by rw [List.getElem?_map, hk]; rfl)⟩
  exact walk.mono fun e W' ⟨he, hu⟩ => ⟨_, he, post_true (hv := rfl) (by kernel_rfl) (by kernel_rfl) (by kernel_rfl) hW' (fun _ => rfl) hu⟩

set_option maxRecDepth 100000 in
theorem semiringFolds_reads (os : Os) {H : Type} (enc : TypeId × Value → H) : ∃ places, DataW.whole enc Tryd.prog ((laidWorld os).forCall (fun _ _ => 0) ⟨#[], #[.slice none 0 0, .slice none 0 0, .int .i64 0], []⟩).memory Tryd.f9.params.toList Rows.semiringFoldsSpec.vars false #[.slice none 0 0, .slice none 0 0, .int .i64 0].toList 8 = some ([.nil, .nil, .lit (.int .i64 0)], [], places) :=
  ⟨[], by kernel_rfl⟩
set_option maxRecDepth 100000 in
theorem semiringFolds_lifted (os : Os) (started : os.Started) (H : Type) (enc : TypeId × Value → H) (F : Stop.Interp) :
    ReturnsInHanded {} Tryd.checked os 9 .any ((OpenSpec.ofChange Rows.semiringFoldsSpec).preRow enc Tryd.prog Tryd.f9 Rows.semiringFoldsRow.domain false Rows.semiringFoldsRow.laid) (((OpenSpec.ofChange Rows.semiringFoldsSpec).at F).post enc Tryd.prog Tryd.f9 false true false false) := by
  obtain ⟨places, hx⟩ := semiringFolds_reads os enc
  refine returnsInHanded_of_row (C := Tryd.checked) (s := OpenSpec.ofChange Rows.semiringFoldsSpec) own started (by kernel_rfl) Tryd.func9
    (witness_row_at (enc := enc) (C := Tryd.checked) false (laidWorld os) #[.slice none 0 0, .slice none 0 0, .int .i64 0] (laidWorld_os os) (by kernel_rfl) (by kernel_rfl) (by kernel_rfl)
      (OpenSpec.preRow_of_cond 8 hx (by kernel_rfl) (fun k hk => by cases hk) (by kernel_rfl) (laid_met os _))) ?_
  intro W base args ds gs before hval hW _ _ _ _ _ _
  exact semiringFolds_contract H enc W base args ds gs before hval hW

theorem semiringFolds_said : Rows.SemiringFoldsSaid :=
  OpenClaim.holds_of_cond 9 Tryd.f9 rfl rfl rfl rfl rfl rfl rfl ⟨rfl, rfl, rfl, rfl, rfl⟩ rfl rfl rfl rfl rfl (by kernel_rfl) Tryd.func9 (by kernel_rfl)
    (of_decide_eq_true (by kernel_rfl)) (by unfold Func.isWrapper; first | (rw [if_pos (by decide +kernel)]; kernel_rfl) | (rw [if_neg (by decide +kernel)]; exact ⟨rfl, rfl⟩))
    (fun os started H enc _ F => by rw [OpenClaim.pre_eq_preRow]; exact semiringFolds_lifted os started H enc F)
theorem semiringFolds_plain (f : FuncId) (fn : Func) (hf : Tryd.pinned.checked.prog.funcNamed "palmette/palmettelaw39.SemiringFolds" = some f) (hfn : Tryd.pinned.checked.prog.funcs[f]? = some fn) :
    false = Tryd.pinned.checked.prog.looks [] ∧ ∀ (j : Nat) t, fn.params[j]? = some t → Tryd.pinned.checked.prog.wantsStandIn t = false := by
  obtain rfl : f = 9 := Option.some.inj ((show Tryd.prog.funcNamed "palmette/palmettelaw39.SemiringFolds" = some 9 by kernel_rfl).symm.trans hf) |>.symm
  obtain rfl : fn = Tryd.f9 := (Option.some.inj (Tryd.func9.symm.trans hfn)).symm
  refine ⟨by kernel_rfl, fun j t ht => ?_⟩
  rw [Tryd.params9] at ht
  have hm : t ∈ [86, 87, 3] := by simpa using Array.mem_of_getElem? ht
  simp only [List.mem_cons, List.not_mem_nil, or_false] at hm
  rcases hm with rfl | rfl | rfl
  · exact (show Tryd.prog.wantsStandIn 86 = false by kernel_rfl)
  · exact (show Tryd.prog.wantsStandIn 87 = false by kernel_rfl)
  · exact (show Tryd.prog.wantsStandIn 3 = false by kernel_rfl)

/-- the law's card -/
theorem semiringFolds : Rows.SemiringFoldsCardSaid :=
  Claim7.holds_tied_plain_at .later [] _ _ _ _ semiringFolds_said (fun _ h => by cases h) (by kernel_rfl) (fun _ h => by cases h) semiringFolds_row_tie rfl ⟨rfl, rfl⟩ (by kernel_rfl) rfl semiringFolds_plain (by kernel_rfl)
end Go.Proofs.YtifellalnojomaaDoor
