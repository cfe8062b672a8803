/- InternStructKeys: whatever the slice of pairs, the law answers true, no block that lay in memory before changes, and the argument reads as it did. Conditions: the row of its statement (the three tables of the standard library read as their texts lay them). -/
import Derived.Test.YtffnkjlobflhcaaDoorStruct
import Derived.Test.YtffnkjlobflhcaaDoorOpen
import Derived.DataElems
namespace Go.Proofs.YtffnkjlobflhcaaDoor
open Go.ChangeShapes Go.WideShapes Go.ChangeAt Go.RowKit Go.PL Go.Deep

theorem wf_i8 {z : Int} (h : (Lit.int IntKind.i8 z).wf = true) : I8 z := by
  simpa [Lit.wf, IntKind.min, IntKind.max, I8, IntKind.signed, IntKind.bits] using h

set_option maxRecDepth 100000 in
theorem internStructKeys_contract (H : Type) (enc : TypeId × Value → H) (W : World) (base : Nat) (args : Array Value) (ds gs : List (DataW H)) (before : List MemPlace)
    (hval : ∀ (j : Nat) t v, Tryd.f3.params[j]? = some t → args[j]? = some v → Value.okWide Tryd.prog W .any base t v)
    (hW : DataW.Whole enc Tryd.prog Tryd.f3.params.toList Rows.internStructKeysSpec.vars false W args.toList ds gs before) :
    Calls Tryd.prog 3 args W fun e W' => ∃ v, e = .returned v ∧ Rows.internStructKeysSpec.post enc Tryd.prog Tryd.f3 false true false false W args v W' := by
  have hW' := hW
  obtain ⟨p, q, hA0, hV, rfl, hfz, hnd⟩ := hW
  have hA : DataW.TrodAll enc Tryd.prog W 0 (fun _ => true) true Tryd.f3.params.toList args.toList ds p := hA0
  rw [Tryd.params3] at hA hval
  obtain ⟨v0, vs0, d0, ds0, p0, q0, hargs, rfl, rfl, h0, r0⟩ := trodAll_cons hA
  obtain ⟨rfl, rfl, rfl⟩ := trodAll_nil r0
  obtain rfl : args = #[v0] := by cases args; simp_all
  have walk : Calls Tryd.prog 3 #[v0] W fun e w' => e = .returned (.bool true) ∧ Upto [] W w' := by
    obtain ⟨a, n, c, rfl⟩ := okWide_slice Tryd.underlying22 (hval 0 22 v0 rfl rfl)
    obtain ⟨fuel, hf⟩ := h0
    simp only [Value.cells, List.toList_toArray] at hf
    rcases open_slice Tryd.underlying22 hf with ⟨hcs, _⟩ | ⟨ad, len, cap, m, n', D, Pl, hcs, _, hl, hm, hmm, hx, hcell⟩
    · simp at hcs
      obtain ⟨rfl, rfl, rfl⟩ := hcs
      exact struct_walk none 0 [] W (Or.inl rfl) (by simp)
    · simp at hcs
      obtain ⟨rfl, rfl, rfl⟩ := hcs
      simp only [if_true] at hmm
      have each : ∀ i, i < n → ∃ k : Int × Int, W.cell? (ad.add (i * 2)) = some (.int .i8 k.1) ∧ W.cell? (ad.add (i * 2 + 1)) = some (.int .i8 k.2) ∧ I8 k.1 ∧ I8 k.2 := by
        intro i hi
        obtain ⟨cs, h1, h2⟩ := hcell i (by omega)
        rw [show Tryd.prog.cellsOf 28 = 2 by kernel_rfl] at h1
        obtain ⟨xs, m', _, _, hlen, hxl, hx'⟩ := DataW.trod_array Tryd.underlying28 h2
        rw [show Tryd.prog.cellsOf 27 = 1 by kernel_rfl] at hx'
        obtain ⟨_, hl2, hat⟩ := World.cells?_some h1
        match cs, hl2 with
        | [c0, c1], _ =>
          have e0 := hx' 0 (by omega)
          have e1 := hx' 1 (by omega)
          rw [List.getElem?_eq_getElem (by omega)] at e0 e1
          obtain ⟨z0, hz0, _, hw0⟩ := DataW.trod_int Tryd.underlying27 e0
          obtain ⟨z1, hz1, _, hw1⟩ := DataW.trod_int Tryd.underlying27 e1
          simp at hz0 hz1
          subst hz0 hz1
          refine ⟨(z0, z1), ?_, ?_, wf_i8 hw0, wf_i8 hw1⟩
          · have := hat 0 (by omega)
            rw [Addr.add_add] at this
            simpa using this
          · have := hat 1 (by omega)
            rw [Addr.add_add] at this
            simpa using this
      obtain ⟨K, hK⟩ := choose_lt each
      rcases Nat.eq_zero_or_pos n with h0 | h0
      · subst h0
        exact struct_walk (some ad) c [] W (Or.inl rfl) (by simp)
      · obtain ⟨b, off, spot⟩ := ad
        have hspot : spot = none := by simpa [Addr.add] using World.cell?_spot (hK 0 (by omega)).1
        subst hspot
        have key := struct_walk (some ⟨b, off, none⟩) c ((List.range n).map K) W (Or.inr ⟨b, off, rfl, ?_, ?_, ?_⟩) (by simp [maxLen] at hm ⊢; omega)
        · simpa using key
        · intro i k hk
          have hi : i < n := by simpa using (List.getElem?_eq_some_iff.1 hk).1
          simp [List.getElem?_range hi] at hk
          subst hk
          rw [← (hK i hi).1, Addr.add_lit]
        · intro i k hk
          have hi : i < n := by simpa using (List.getElem?_eq_some_iff.1 hk).1
          simp [List.getElem?_range hi] at hk
          subst hk
          rw [← (hK i hi).2.1, Addr.add_lit, Nat.add_assoc]
        · intro k hk
          obtain ⟨i, hi, rfl⟩ := List.mem_map.1 hk
          exact (hK i (by simpa using hi)).2.2
  exact walk.mono fun e W' ⟨he, hu⟩ => ⟨_, he, post_true (hv := rfl) (by kernel_rfl) (by kernel_rfl) (by kernel_rfl) hW' (fun _ => rfl) hu⟩

set_option maxRecDepth 100000 in
theorem internStructKeys_reads (os : Os) {H : Type} (enc : TypeId × Value → H) : ∃ places, DataW.whole enc Tryd.prog ((laidWorld os).forCall (fun _ _ => 0) ⟨#[], #[.slice none 0 0], []⟩).memory Tryd.f3.params.toList Rows.internStructKeysSpec.vars false #[.slice none 0 0].toList 8 = some ([.nil], [], places) :=
  ⟨[], by kernel_rfl⟩
set_option maxRecDepth 100000 in
theorem internStructKeys_lifted (os : Os) (started : os.Started) (H : Type) (enc : TypeId × Value → H) (F : Stop.Interp) :
    ReturnsInHanded {} Tryd.checked os 3 .any ((OpenSpec.ofChange Rows.internStructKeysSpec).preRow enc Tryd.prog Tryd.f3 Rows.internStructKeysRow.domain false Rows.internStructKeysRow.laid) (((OpenSpec.ofChange Rows.internStructKeysSpec).at F).post enc Tryd.prog Tryd.f3 false true false false) := by
  obtain ⟨places, hx⟩ := internStructKeys_reads os enc
  refine returnsInHanded_of_row (C := Tryd.checked) (s := OpenSpec.ofChange Rows.internStructKeysSpec) own started (by kernel_rfl) Tryd.func3
    (witness_row_at (enc := enc) (C := Tryd.checked) false (laidWorld os) #[.slice none 0 0] (laidWorld_os os) (by kernel_rfl) (by kernel_rfl) (by kernel_rfl)
      (OpenSpec.preRow_of_cond 8 hx (by kernel_rfl) (fun k hk => by cases hk) (by kernel_rfl) (laid_met os _))) ?_
  intro W base args ds gs before hval hW _ _ _ _ _ _
  exact internStructKeys_contract H enc W base args ds gs before hval hW

theorem internStructKeys_said : Rows.InternStructKeysSaid :=
  OpenClaim.holds_of_cond 3 Tryd.f3 rfl rfl rfl rfl rfl rfl rfl ⟨rfl, rfl, rfl, rfl, rfl⟩ rfl rfl rfl rfl rfl (by kernel_rfl) Tryd.func3 (by kernel_rfl)
    (of_decide_eq_true (by kernel_rfl)) (by unfold Func.isWrapper; first | (rw [if_pos (by decide +kernel)]; kernel_rfl) | (rw [if_neg (by decide +kernel)]; exact ⟨rfl, rfl⟩))
    (fun os started H enc _ F => by rw [OpenClaim.pre_eq_preRow]; exact internStructKeys_lifted os started H enc F)
theorem internStructKeys_plain (f : FuncId) (fn : Func) (hf : Tryd.pinned.checked.prog.funcNamed "palmette/palmettelaw04.InternStructKeys" = some f) (hfn : Tryd.pinned.checked.prog.funcs[f]? = some fn) :
    false = Tryd.pinned.checked.prog.looks [] ∧ ∀ (j : Nat) t, fn.params[j]? = some t → Tryd.pinned.checked.prog.wantsStandIn t = false := by
  obtain rfl : f = 3 := Option.some.inj ((show Tryd.prog.funcNamed "palmette/palmettelaw04.InternStructKeys" = some 3 by kernel_rfl).symm.trans hf) |>.symm
  obtain rfl : fn = Tryd.f3 := (Option.some.inj (Tryd.func3.symm.trans hfn)).symm
  refine ⟨by kernel_rfl, fun j t ht => ?_⟩
  rw [Tryd.params3] at ht
  have hm : t ∈ [22] := by simpa using Array.mem_of_getElem? ht
  simp only [List.mem_cons, List.not_mem_nil, or_false] at hm
  rcases hm with rfl
  · exact (show Tryd.prog.wantsStandIn 22 = false by kernel_rfl)

/-- the law's card -/
theorem internStructKeys : Rows.InternStructKeysCardSaid :=
  Claim7.holds_tied_plain_at .later [] _ _ _ _ internStructKeys_said (fun _ h => by cases h) (by kernel_rfl) (fun _ h => by cases h) internStructKeys_row_tie rfl ⟨rfl, rfl⟩ (by kernel_rfl) rfl internStructKeys_plain (by kernel_rfl)
end Go.Proofs.YtffnkjlobflhcaaDoor
