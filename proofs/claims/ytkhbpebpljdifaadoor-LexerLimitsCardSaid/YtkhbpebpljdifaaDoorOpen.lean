/- Opening arguments; the seat's tables at the witness; what every law's proof ends with. -/
import Derived.Test.YtkhbpebpljdifaaDoorCards
import Derived.Test.YtkhbpebpljdifaaDoorTie
import Derived.Test.YtkhbpebpljdifaaDoorLib
import Derived.ProofKit
import Derived.OpenShut
import Derived.Deep.DeepHandedRow
import Derived.Deep.Slices
import Derived.Lay
import Derived.ChangeCalls
import Derived.LaidSub
import Derived.MakeChecks
import Derived.LaidLaws
import Derived.Lib.LaidTab
import Derived.Test.YtkhbpebpljdifaaDoorNum2
namespace Go.Proofs.YtkhbpebpljdifaaDoor
open Go.ChangeShapes Go.WideShapes Go.ChangeAt Go.RowKit Go.PL Go.Deep

theorem own : ownKnob Tryd.prog.godebug = none := by kernel_rfl
theorem laidOut : laidOutB Tryd.prog = true := by kernel_rfl

section
variable {H : Type} {enc : TypeId × Value → H} {W : World}

/-- a slice of one-cell elements -/
theorem open_slc {t e : TypeId} {v : Value} {d : DataW H} {ps : List MemPlace} (ht : Tryd.prog.underlying t = some (.slice e)) (hc : Tryd.prog.cellsOf e = 1) (hv : ∃ a n c, v = .slice a n c) (h : DataW.Trod enc Tryd.prog W 0 (fun _ => true) true t v d ps) :
    ∃ va vc xs, v = .slice va xs.length vc ∧ SlC W (.slice va xs.length vc) xs ∧ xs.length ≤ maxLen ∧ ∀ x ∈ xs, ∃ n y, DataW.trod enc Tryd.prog W 0 (fun _ => true) true n e [x] = some y ∧ ∀ p ∈ y.2, p ∈ ps := by
  obtain ⟨a, n, c, rfl⟩ := hv
  obtain ⟨fuel, hf⟩ := h
  simp only [Value.cells, List.toList_toArray] at hf
  rcases open_slice1 ht hc hf with ⟨hcs, _⟩ | ⟨ad, len, cap, m, n', V, D, Pl, hcs, _, hl, hm, hmm, hx, hcell⟩
  · simp at hcs
    obtain ⟨rfl, rfl, rfl⟩ := hcs
    exact ⟨none, 0, [], rfl, Or.inl ⟨rfl, none, 0, rfl⟩, by simp, by simp⟩
  · simp at hcs
    obtain ⟨rfl, rfl, rfl⟩ := hcs
    simp only [if_true] at hmm
    simp only [Prod.mk.injEq] at hx
    refine ⟨some ad, c, (List.range n).map V, by simp, ?_, by simp; omega, ?_⟩
    · rcases Nat.eq_zero_or_pos n with h0 | h0
      · subst h0
        exact Or.inl ⟨rfl, some ad, c, rfl⟩
      · obtain ⟨b, off, spot⟩ := ad
        have hspot : spot = none := by simpa [Addr.add] using World.cell?_spot (hcell 0 (by omega)).1
        subst hspot
        refine Or.inr ⟨b, off, c, by simp, fun j u hj => ?_⟩
        simp only [List.getElem?_map, List.getElem?_range] at hj
        have hjn : j < n := by
          rcases Nat.lt_or_ge j n with h | h
          · exact h
          · rw [List.getElem?_eq_none (by simpa using h)] at hj; cases hj
        rw [List.getElem?_eq_getElem (by simpa using hjn)] at hj
        simp at hj
        rw [← hj, ← (hcell j (by omega)).1, Addr.add_lit]
    · intro x hx'
      obtain ⟨i, hi, rfl⟩ := List.mem_map.1 hx'
      have hi' : i < n := by simpa using hi
      refine ⟨n', _, (hcell i (by omega)).2, fun p hp => ?_⟩
      rw [hx.2]
      exact List.mem_append_right _ (List.mem_flatMap.2 ⟨i, by simp; omega, hp⟩)
theorem args_stay {P : Program} (hP : laidOutB P = true) {W' : World} (hb : Below W.heap.size W W') : ∀ {ts : List TypeId} {vs : List Value} {ds : List (DataW H)} {ps : List MemPlace}, (ts.all fun t => P.readableRec t && decide (t < P.types.size)) = true →
    DataW.TrodAll enc P W 0 (fun _ => true) true ts vs ds ps → (∀ x ∈ ps, x.block < W.heap.size) → DataW.TrodAll enc P W' 0 (fun b => decide (b < W.heap.size)) true ts vs ds ps
  | [], vs, ds, ps, _, h, _ => by
    obtain ⟨rfl, rfl, rfl⟩ := trodAll_nil h
    exact trodAll_mk0
  | t :: ts, vs, ds, ps, ht, h, hlt => by
    obtain ⟨v0, vs0, d0, ds0, p0, q0, rfl, rfl, rfl, h0, r0⟩ := trodAll_cons h
    simp only [List.all_cons, Bool.and_eq_true, decide_eq_true_eq] at ht
    exact trodAll_cons_mk (Below.trod hP ht.1.1 ht.1.2 h0 hb (fun x hx => hlt x (List.mem_append_left _ hx))) (args_stay hP hb (by simpa using ht.2) r0 (fun x hx => hlt x (List.mem_append_right _ hx)))

/-- what every law's proof ends with: it answers true, and no elder block has changed -/
theorem post_true {fn : Func} {spec : ChangeSpec} (hv : spec.vars = []) (hr : fn.resultTypes.toList = [4]) (hs : fn.resultTypes.size = 1) (hts : (fn.params.toList.all fun t => Tryd.prog.readableRec t && decide (t < Tryd.prog.types.size)) = true)
    {args : Array Value} {ds gs : List (DataW H)} {before : List MemPlace} (hW : DataW.Whole enc Tryd.prog fn.params.toList spec.vars false W args.toList ds gs before) (hfn : ds.length = fn.params.toList.length → spec.fn H ds = { results := [.lit (.bool true)], args := ds })
    {W' : World} (hu : Upto [] W W') : spec.post enc Tryd.prog fn false true false false W args (.bool true) W' := by
  have hW' := hW
  obtain ⟨p, q, hA, hV, rfl, _, _⟩ := hW
  rw [hv] at hV
  obtain ⟨rfl, rfl⟩ := trodVars_none hV
  have hb : Below W.heap.size W W' := Upto.ext hu
  have hlt : ∀ x ∈ p, x.block < W.heap.size := fun x hx => by simpa using hW'.lt x (List.mem_append_left _ hx)
  have hn : ds.length = fn.params.toList.length := (Go.trodAll_length hA).2
  refine ⟨ds, [], _, [], p, [], hW', ?_, ?_, ?_, hb.frame _, fun h => by cases h⟩
  · rw [List.append_nil, hfn hn, hr, hs]
    exact trodAll_cons_mk (shut_bool Tryd.underlying4 _) trodAll_mk0
  · rw [List.append_nil, hfn hn]
    exact args_stay laidOut hb hts hA hlt
  · rw [List.append_nil, hfn hn, hv]
    rfl
end

/-- A world for the witness: the settled one, the tables holding what their initialisers lay. -/
noncomputable def laidWorld (os : Os) : World := World.laidAll Tryd.prog os Rows.lexerTokenizeRow.laid
theorem laidWorld_os (os : Os) : (laidWorld os).os = os := World.laidAll_os _ _ _
theorem laid_met (os : Os) (args : Array Value) : laidMet Tryd.prog Rows.lexerTokenizeRow.laid ((laidWorld os).forCall (fun _ _ => 0) ⟨#[], args, []⟩).memory :=
  laidMet_laidAll args (by kernel_rfl) (by kernel_rfl)

set_option maxRecDepth 100000 in
/-- what the rows' tables say of the world -/
theorem env_of {W : World} (h : laidMetH Tryd.prog Rows.lexerTokenizeRow.laid W) : Env W := by
  rw [MakeChecks.laidMetH_plain _ _ _ (by kernel_rfl)] at h
  refine ⟨?_, ?_⟩
  · have h1 := h.filter (fun x => x.1 == "strings.asciiSpace")
    rw [show (Rows.lexerTokenizeRow.laid.filter fun x => x.1 == "strings.asciiSpace") = [("strings.asciiSpace", Lib.tabData .u8 Lib.asciiSpaceTab)] by kernel_rfl] at h1
    exact Lib.tabIs_of_head (g := 0) (by kernel_rfl) (by kernel_rfl) (t := 105) Tryd.underlying105 Tryd.underlying5 (by kernel_rfl) (by kernel_rfl) h1
  · have h1 := h.filter (fun x => x.1 == "strconv.ErrRange")
    rw [show (Rows.lexerTokenizeRow.laid.filter fun x => x.1 == "strconv.ErrRange") = [("strconv.ErrRange", Rows.laid_strconv_ErrRange)] by kernel_rfl] at h1
    obtain ⟨ps, ⟨g, t, cs, fuel, p, q, hg, ht, hvar, hd, _, _⟩, _⟩ := h1
    obtain rfl : g = 5 := (Option.some.inj ((show Tryd.prog.globalNamed "strconv.ErrRange" = some 5 by kernel_rfl).symm.trans hg)).symm
    obtain rfl : t = 112 := (Option.some.inj ((show (Tryd.prog.globals[5]?).map (·.type) = some 112 by kernel_rfl).symm.trans ht)).symm
    obtain ⟨f, u, v, hcs, -, -⟩ := iface_of_trod Tryd.underlying112 hd
    refine ⟨u, v, ?_⟩
    have := World.var?_cell hg hvar 0
    rw [this]
    have h2 : cs = #[.iface u v] := by cases cs; simp_all
    rw [h2]
    rfl
end Go.Proofs.YtkhbpebpljdifaaDoor
