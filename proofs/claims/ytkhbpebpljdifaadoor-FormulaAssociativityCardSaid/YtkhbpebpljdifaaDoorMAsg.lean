/- Texts merged, in build order: Open, Fm36, OpenB, OpenR. -/
import Derived.Test.YtkhbpebpljdifaaDoorMAsf
import Derived.Lib.Join
import Derived.Test.YtkhbpebpljdifaaDoorRows
import Derived.WalkKit
import Derived.WalkSpells
import Derived.WalkLawsBesides
import Derived.Maps.OwnSet
import Derived.Lib.Hide
import Derived.Laws.BytesArg
import Derived.Deep.QuietTactic
import Derived.BigQuiet
import Derived.Test.YtkhbpebpljdifaaDoorProg
import Derived.Shelf.Small.Strs
import Derived.Shelf.Strings.OnBuilder
import Derived.Shelf.LaysM
import Derived.Shelf.Strings.SplitShaped
import Derived.Deep.DeepCutAuto
import Derived.Deep.CutBlock
import Derived.Lib.Strings
import Derived.Lib.Walk
import Derived.Lib.ConvBytes
import Derived.Lib.ParseIntBMem
import Derived.Lib.AtoiErrMem
import Derived.Lib.BufferWrite
import Derived.Lib.UnsafeStr
import Derived.Lib.IfaceEq
import Derived.Laws.MakeOwn
import Derived.Laws.Strings3
import Derived.Laws.Closers25
import Derived.Laws.Closers25b
import Derived.RegionTactic
import Derived.Deep.RegionWith
import Derived.BigCall
import Derived.BigGuard
import Derived.Lib.AppendIntMem
import Derived.Carry
import Derived.OrdersHeld
import Derived.Deep.RegionHeld3
import Derived.Deep.RegionLaw
import Derived.Laws.EntriesVeiled
import Derived.RangeFuncNested
import Derived.RangeFuncBound
import Derived.RangeFuncCalls
import Derived.RangeFuncLeaves
import Derived.RangeFuncBox
import Derived.Shelf.Abstract
import Derived.OwnWalkIn
import Derived.TacticsInMore
import Derived.LoopNIn
import Derived.LoopIn
import Derived.Test.YtkhbpebpljdifaaDoorCards
import Derived.Test.YtkhbpebpljdifaaDoorTie
import Derived.ProofKit
import Derived.OpenShut
import Derived.Deep.DeepHandedRow
import Derived.Deep.Slices
import Derived.Lay
import Derived.ChangeCalls
import Derived.LaidSub
import Derived.MakeChecks
import Derived.LaidLaws
import Derived.Lib.LaidTab
namespace Go.Proofs.YtkhbpebpljdifaaDoor
open Go.ChangeShapes Go.WideShapes Go.ChangeAt Go.RowKit Go.PL Go.Deep

theorem own : ownKnob Tryd.prog.godebug = none := by kernel_rfl
theorem laidOut : laidOutB Tryd.prog = true := by kernel_rfl

section
variable {H : Type} {enc : TypeId × Value → H} {W : World}

/-- a slice of one-cell elements -/
theorem open_slc {t e : TypeId} {v : Value} {d : DataW H} {ps : List MemPlace} (ht : Tryd.prog.underlying t = some (.slice e)) (hc : Tryd.prog.cellsOf e = 1) (hv : ∃ a n c, v = .slice a n c) (h : DataW.Trod enc Tryd.prog W 0 (fun _ => true) true t v d ps) :
    ∃ va vc xs, v = .slice va xs.length vc ∧ SlC W (.slice va xs.length vc) xs ∧ xs.length ≤ maxLen ∧ ∀ x ∈ xs, ∃ n y, DataW.trod enc Tryd.prog W 0 (fun _ => true) true n e [x] = some y ∧ ∀ p ∈ y.2, p ∈ ps := by
  obtain ⟨a, n, c, rfl⟩ := hv
  obtain ⟨fuel, hf⟩ := h
  simp only [Value.cells, List.toList_toArray] at hf
  rcases open_slice1 ht hc hf with ⟨hcs, _⟩ | ⟨ad, len, cap, m, n', V, D, Pl, hcs, _, hl, hm, hmm, hx, hcell⟩
  · simp at hcs
    obtain ⟨rfl, rfl, rfl⟩ := hcs
    exact ⟨none, 0, [], rfl, Or.inl ⟨rfl, none, 0, rfl⟩, by simp, by simp⟩
  · simp at hcs
    obtain ⟨rfl, rfl, rfl⟩ := hcs
    simp only [if_true] at hmm
    simp only [Prod.mk.injEq] at hx
    refine ⟨some ad, c, (List.range n).map V, by simp, ?_, by simp; omega, ?_⟩
    · rcases Nat.eq_zero_or_pos n with h0 | h0
      · subst h0
        exact Or.inl ⟨rfl, some ad, c, rfl⟩
      · obtain ⟨b, off, spot⟩ := ad
        have hspot : spot = none := by simpa [Addr.add] using World.cell?_spot (hcell 0 (by omega)).1
        subst hspot
        refine Or.inr ⟨b, off, c, by simp, fun j u hj => ?_⟩
        simp only [List.getElem?_map, List.getElem?_range] at hj
        have hjn : j < n := by
          rcases Nat.lt_or_ge j n with h | h
          · exact h
          · rw [List.getElem?_eq_none (by simpa using h)] at hj; cases hj
        rw [List.getElem?_eq_getElem (by simpa using hjn)] at hj
        simp at hj
        rw [← hj, ← (hcell j (by omega)).1, Addr.add_lit]
    · intro x hx'
      obtain ⟨i, hi, rfl⟩ := List.mem_map.1 hx'
      have hi' : i < n := by simpa using hi
      refine ⟨n', _, (hcell i (by omega)).2, fun p hp => ?_⟩
      rw [hx.2]
      exact List.mem_append_right _ (List.mem_flatMap.2 ⟨i, by simp; omega, hp⟩)
theorem args_stay {P : Program} (hP : laidOutB P = true) {W' : World} (hb : Below W.heap.size W W') : ∀ {ts : List TypeId} {vs : List Value} {ds : List (DataW H)} {ps : List MemPlace}, (ts.all fun t => P.readableRec t && decide (t < P.types.size)) = true →
    DataW.TrodAll enc P W 0 (fun _ => true) true ts vs ds ps → (∀ x ∈ ps, x.block < W.heap.size) → DataW.TrodAll enc P W' 0 (fun b => decide (b < W.heap.size)) true ts vs ds ps
  | [], vs, ds, ps, _, h, _ => by
    obtain ⟨rfl, rfl, rfl⟩ := trodAll_nil h
    exact trodAll_mk0
  | t :: ts, vs, ds, ps, ht, h, hlt => by
    obtain ⟨v0, vs0, d0, ds0, p0, q0, rfl, rfl, rfl, h0, r0⟩ := trodAll_cons h
    simp only [List.all_cons, Bool.and_eq_true, decide_eq_true_eq] at ht
    exact trodAll_cons_mk (Below.trod hP ht.1.1 ht.1.2 h0 hb (fun x hx => hlt x (List.mem_append_left _ hx))) (args_stay hP hb (by simpa using ht.2) r0 (fun x hx => hlt x (List.mem_append_right _ hx)))

/-- what every law's proof ends with: it answers true, and no elder block has changed -/
theorem post_true {fn : Func} {spec : ChangeSpec} (hv : spec.vars = []) (hr : fn.resultTypes.toList = [4]) (hs : fn.resultTypes.size = 1) (hts : (fn.params.toList.all fun t => Tryd.prog.readableRec t && decide (t < Tryd.prog.types.size)) = true)
    {args : Array Value} {ds gs : List (DataW H)} {before : List MemPlace} (hW : DataW.Whole enc Tryd.prog fn.params.toList spec.vars false W args.toList ds gs before) (hfn : ds.length = fn.params.toList.length → spec.fn H ds = { results := [.lit (.bool true)], args := ds })
    {W' : World} (hu : Upto [] W W') : spec.post enc Tryd.prog fn false true false false W args (.bool true) W' := by
  have hW' := hW
  obtain ⟨p, q, hA, hV, rfl, _, _⟩ := hW
  rw [hv] at hV
  obtain ⟨rfl, rfl⟩ := trodVars_none hV
  have hb : Below W.heap.size W W' := Upto.ext hu
  have hlt : ∀ x ∈ p, x.block < W.heap.size := fun x hx => by simpa using hW'.lt x (List.mem_append_left _ hx)
  have hn : ds.length = fn.params.toList.length := (Go.trodAll_length hA).2
  refine ⟨ds, [], _, [], p, [], hW', ?_, ?_, ?_, hb.frame _, fun h => by cases h⟩
  · rw [List.append_nil, hfn hn, hr, hs]
    exact trodAll_cons_mk (shut_bool Tryd.underlying4 _) trodAll_mk0
  · rw [List.append_nil, hfn hn]
    exact args_stay laidOut hb hts hA hlt
  · rw [List.append_nil, hfn hn, hv]
    rfl
end

end Go.Proofs.YtkhbpebpljdifaaDoor


namespace Go.Proofs.YtkhbpebpljdifaaDoor
open Go.ChangeShapes Go.WideShapes Go.ChangeAt Go.RowKit Go.PL Go.Deep

set_option maxRecDepth 100000 in
theorem str_of {H : Type} {enc : TypeId × Value → H} {W : World} {sp : Nat → Bool} {held : Bool} {m : Nat} {v : Value} {bs : List UInt8} {p : List MemPlace} {b : Nat} (h : DataW.trod enc Tryd.prog W b sp held m 9 [v] = some (.lit (.string bs), p)) : v = .string ⟨bs.toArray⟩ := by
  cases m with
  | zero => simp [DataW.trod] at h
  | succ m =>
    rw [DataW.trod_step] at h
    simp only [DataW.trodStep, Tryd.underlying9] at h
    cases v
    case string s =>
      simp at h
      obtain ⟨-, rfl, -⟩ := h
      cases s
      simp
    all_goals (exfalso; simp at h)
set_option maxRecDepth 100000 in
theorem senv_of {W : World} (h : laidMetH Tryd.prog Rows.formulaBlanksRow.laid W) : SEnv W := by
  rw [MakeChecks.laidMetH_plain _ _ _ (by kernel_rfl)] at h
  have h1 := h.filter (fun x => x.1 == "palmette/formula.sorts")
  rw [show (Rows.formulaBlanksRow.laid.filter fun x => x.1 == "palmette/formula.sorts") = [("palmette/formula.sorts", Rows.laid_palmette_formula_sorts)] by kernel_rfl] at h1
  obtain ⟨ps, ⟨g, t, cs, fuel, p, q, hg, ht, hvar, hd, _, _⟩, _⟩ := h1
  obtain rfl : g = 2 := (Option.some.inj ((show Tryd.prog.globalNamed "palmette/formula.sorts" = some 2 by kernel_rfl).symm.trans hg)).symm
  obtain rfl : t = 143 := (Option.some.inj ((show (Tryd.prog.globals[2]?).map (·.type) = some 143 by kernel_rfl).symm.trans ht)).symm
  obtain ⟨xs, m, _, hx, hlen, hxl, hxi⟩ := DataW.trod_array Tryd.underlying143 hd
  rw [show Tryd.prog.cellsOf 143 = 4 by kernel_rfl] at hlen
  simp only [show Tryd.prog.cellsOf 9 = 1 by kernel_rfl] at hxi
  have key : ∀ (i : Nat) (v : Value) (bs : List UInt8), i < 4 → cs.toList[i]? = some v → (xs.map (·.1))[i]? = some (.lit (.string bs)) → v = .string ⟨bs.toArray⟩ := by
    intro i v bs hi hv hb
    have h1 := hxi i hi
    rw [List.getElem?_map] at hb
    cases hq : xs[i]? with
    | none => rw [hq] at hb; cases hb
    | some y =>
      obtain ⟨y1, y2⟩ := y
      rw [hq] at hb h1
      simp at hb
      subst hb
      have hd : (cs.toList.drop (i * 1)).take 1 = [v] := by
        rw [Nat.mul_one]
        obtain ⟨hl, rfl⟩ := List.getElem?_eq_some_iff.1 hv
        rw [List.drop_eq_getElem_cons hl]
        rfl
      rw [hd] at h1
      exact str_of h1
  have hxm : xs.map (·.1) = [.lit (.string [118, 101, 114, 116, 101, 120]), .lit (.string [101, 100, 103, 101]), .lit (.string [115, 101, 116]), .lit (.string [101, 100, 103, 101, 115])] := by
    have h2 := (Prod.mk.inj hx).1
    unfold Rows.laid_palmette_formula_sorts at h2
    exact (DataW.agg.inj h2).symm
  have at_ : ∀ (i : Nat) (bs : List UInt8), i < 4 → (xs.map (·.1))[i]? = some (.lit (.string bs)) → W.cell? ⟨2, i, none⟩ = some (.string ⟨bs.toArray⟩) := by
    intro i bs hi hb
    have hil : i < cs.toList.length := by omega
    have h3 := key i cs.toList[i] bs hi (List.getElem?_eq_getElem hil) hb
    have h4 := World.var?_cell hg hvar i
    rw [h4, ← h3]
    simp at hil
    simp [hil]
  exact ⟨at_ 0 _ (by omega) (by rw [hxm]; rfl), at_ 1 _ (by omega) (by rw [hxm]; rfl), at_ 2 _ (by omega) (by rw [hxm]; rfl), at_ 3 _ (by omega) (by rw [hxm]; rfl)⟩
set_option maxRecDepth 100000 in
/-- what the rows' tables say of the world -/
theorem fenv_of {W : World} (h : laidMetH Tryd.prog Rows.formulaBlanksRow.laid W) : Env W := by
  rw [MakeChecks.laidMetH_plain _ _ _ (by kernel_rfl)] at h
  refine ⟨?_, ?_⟩
  · have h1 := h.filter (fun x => x.1 == "strings.asciiSpace")
    rw [show (Rows.formulaBlanksRow.laid.filter fun x => x.1 == "strings.asciiSpace") = [("strings.asciiSpace", Lib.tabData .u8 Lib.asciiSpaceTab)] by kernel_rfl] at h1
    exact Lib.tabIs_of_head (g := 0) (by kernel_rfl) (by kernel_rfl) (t := 105) Tryd.underlying105 Tryd.underlying5 (by kernel_rfl) (by kernel_rfl) h1
  · have h1 := h.filter (fun x => x.1 == "strconv.ErrRange")
    rw [show (Rows.formulaBlanksRow.laid.filter fun x => x.1 == "strconv.ErrRange") = [("strconv.ErrRange", Rows.laid_strconv_ErrRange)] by kernel_rfl] at h1
    obtain ⟨ps, ⟨g, t, cs, fuel, p, q, hg, ht, hvar, hd, _, _⟩, _⟩ := h1
    obtain rfl : g = 5 := (Option.some.inj ((show Tryd.prog.globalNamed "strconv.ErrRange" = some 5 by kernel_rfl).symm.trans hg)).symm
    obtain rfl : t = 112 := (Option.some.inj ((show (Tryd.prog.globals[5]?).map (·.type) = some 112 by kernel_rfl).symm.trans ht)).symm
    obtain ⟨f, u, v, hcs, -, -⟩ := iface_of_trod Tryd.underlying112 hd
    refine ⟨u, v, ?_⟩
    have := World.var?_cell hg hvar 0
    rw [this]
    have h2 : cs = #[.iface u v] := by cases cs; simp_all
    rw [h2]
    rfl
end Go.Proofs.YtkhbpebpljdifaaDoor


namespace Go.Proofs.YtkhbpebpljdifaaDoor
open Go.ChangeShapes Go.WideShapes Go.ChangeAt Go.RowKit Go.PL Go.Deep

theorem u8s_of {H : Type} {enc : TypeId × Value → H} {W : World} : ∀ (xs : List Value), (∀ x ∈ xs, ∃ n y, DataW.trod enc Tryd.prog W 0 (fun _ => true) true n 5 [x] = some y) → ∃ bl : List Nat, xs = u8C bl ∧ ∀ k ∈ bl, k < 256
  | [], _ => ⟨[], rfl, by simp⟩
  | x :: xs, h => by
    obtain ⟨bl, rfl, hb⟩ := u8s_of xs (fun y hy => h y (by simp [hy]))
    obtain ⟨n, y, hy⟩ := h x (by simp)
    obtain ⟨k, hk, -, hw⟩ := DataW.trod_int Tryd.underlying5 hy
    simp at hk
    simp [Lit.wf, IntKind.min, IntKind.max, IntKind.signed, IntKind.bits] at hw
    refine ⟨k.toNat :: bl, ?_, ?_⟩
    · have : ((k.toNat : Nat) : Int) = k := Int.toNat_of_nonneg hw.1
      simp [u8C, hk, this]
    · intro j hj
      rcases List.mem_cons.1 hj with rfl | hj
      · omega
      · exact hb j hj
theorem open_byts {H : Type} {enc : TypeId × Value → H} {W : World} {v : Value} {d : DataW H} {ps : List MemPlace} (hv : ∃ a n c, v = .slice a n c) (h : DataW.Trod enc Tryd.prog W 0 (fun _ => true) true 38 v d ps) :
    ∃ bl : List Nat, SlC W v (u8C bl) ∧ (∀ k ∈ bl, k < 256) ∧ bl.length ≤ maxLen := by
  obtain ⟨va, vc, xs, rfl, hs, hl, hx⟩ := open_slc Tryd.underlying38 (by kernel_rfl) hv h
  obtain ⟨bl, rfl, hb⟩ := u8s_of xs (fun x hx' => by obtain ⟨n, y, h1, -⟩ := hx x hx'; exact ⟨n, y, h1⟩)
  have e : (u8C bl).length = bl.length := by simp [u8C]
  refine ⟨bl, hs, hb, by rw [← e]; exact hl⟩
end Go.Proofs.YtkhbpebpljdifaaDoor


namespace Go.Proofs.YtkhbpebpljdifaaDoor
open Go.ChangeShapes Go.WideShapes Go.ChangeAt Go.RowKit Go.PL Go.Deep

theorem row_of {H : Type} {enc : TypeId × Value → H} {W : World} {n : Nat} {x : Value} {y : DataW H × List MemPlace} (h : DataW.trod enc Tryd.prog W 0 (fun _ => true) true n 38 [x] = some y) : ∃ bl : List Nat, SlC W x (u8C bl) ∧ (∀ k ∈ bl, k < 256) ∧ bl.length ≤ maxLen := by
  obtain ⟨d, ps⟩ := y
  have hs : ∃ a n c, x = .slice a n c := by
    rcases open_slice1 Tryd.underlying38 (by kernel_rfl) h with ⟨hcs, _⟩ | ⟨ad, len, cap, m, n', V, D, Pl, hcs, _⟩
    · simp at hcs
      exact ⟨_, _, _, hcs⟩
    · simp at hcs
      exact ⟨_, _, _, hcs⟩
  refine open_byts (enc := enc) (d := d) (ps := ps) hs ?_
  obtain ⟨a, m, c, rfl⟩ := hs
  exact ⟨n, by simpa [Value.cells] using h⟩
theorem rows_of {H : Type} {enc : TypeId × Value → H} {W : World} : ∀ (xs : List Value), (∀ x ∈ xs, ∃ n y, DataW.trod enc Tryd.prog W 0 (fun _ => true) true n 38 [x] = some y) → ∃ rows : List (List Nat), rows.length = xs.length ∧ (∀ (i : Nat) r, rows[i]? = some r → ∃ x, xs[i]? = some x ∧ SlC W x (u8C r)) ∧ (∀ r ∈ rows, ∀ k ∈ r, k < 256) ∧ ∀ r ∈ rows, r.length ≤ maxLen
  | [], _ => ⟨[], rfl, by simp, by simp, by simp⟩
  | x :: xs, h => by
    obtain ⟨rows, h1, h2, h3, h4⟩ := rows_of xs (fun y hy => h y (by simp [hy]))
    obtain ⟨n, y, hy⟩ := h x (by simp)
    obtain ⟨bl, k1, k2, k3⟩ := row_of hy
    refine ⟨bl :: rows, by simp [h1], fun i r hi => ?_, fun r hr => ?_, fun r hr => ?_⟩
    · cases i with
      | zero =>
        simp at hi
        subst hi
        exact ⟨x, rfl, k1⟩
      | succ i => exact h2 i r (by simpa using hi)
    · rcases List.mem_cons.1 hr with rfl | hr
      · exact k2
      · exact h3 r hr
    · rcases List.mem_cons.1 hr with rfl | hr
      · exact k3
      · exact h4 r hr
theorem open_rows {H : Type} {enc : TypeId × Value → H} {W : World} {v : Value} {d : DataW H} {ps : List MemPlace} (hv : ∃ a n c, v = .slice a n c) (h : DataW.Trod enc Tryd.prog W 0 (fun _ => true) true 51 v d ps) :
    ∃ rows : List (List Nat), Rows2 W v rows ∧ (∀ r ∈ rows, ∀ k ∈ r, k < 256) ∧ rows.length ≤ maxLen ∧ ∀ r ∈ rows, r.length ≤ maxLen := by
  obtain ⟨va, vc, xs, rfl, hs, hl, hx⟩ := open_slc Tryd.underlying51 (by kernel_rfl) hv h
  obtain ⟨rows, h1, h2, h3, h4⟩ := rows_of xs (fun x hx' => by obtain ⟨n, y, h1, -⟩ := hx x hx'; exact ⟨n, y, h1⟩)
  refine ⟨rows, ?_, h3, by omega, h4⟩
  rw [← h1] at hs ⊢
  rcases hs with ⟨h0, a, c, e⟩ | ⟨g, o, c, e, hc⟩
  · have hr : rows = [] := List.eq_nil_of_length_eq_zero (by rw [h1, h0]; rfl)
    subst hr
    exact Or.inl ⟨rfl, va, vc, rfl⟩
  · have hva : va = some ⟨g, o, none⟩ := by simpa using (Value.slice.inj e).1
    subst hva
    refine Or.inr ⟨g, o, vc, rfl, fun i r hi => ?_⟩
    obtain ⟨x, hx1, hx2⟩ := h2 i r hi
    exact ⟨x, hc i x hx1, hx2⟩
end Go.Proofs.YtkhbpebpljdifaaDoor

