/- Texts merged, in build order: Open, Fm36, OpenB. -/
import Derived.Test.YtkhbpebpljdifaaDoorMBle
import Derived.Test.YtkhbpebpljdifaaDoorCards
import Derived.Test.YtkhbpebpljdifaaDoorTie
import Derived.ProofKit
import Derived.OpenShut
import Derived.Deep.DeepHandedRow
import Derived.Deep.Slices
import Derived.Lay
import Derived.ChangeCalls
import Derived.LaidSub
import Derived.MakeChecks
import Derived.LaidLaws
import Derived.Lib.LaidTab
/- Opening arguments; the seat's tables at the witness; what every law's proof ends with. -/
namespace Go.Proofs.YtkhbpebpljdifaaDoor
open Go.ChangeShapes Go.WideShapes Go.ChangeAt Go.RowKit Go.PL Go.Deep

theorem own : ownKnob Tryd.prog.godebug = none := by kernel_rfl
theorem laidOut : laidOutB Tryd.prog = true := by kernel_rfl

section
variable {H : Type} {enc : TypeId × Value → H} {W : World}

/-- a slice of one-cell elements -/
theorem open_slc {t e : TypeId} {v : Value} {d : DataW H} {ps : List MemPlace} (ht : Tryd.prog.underlying t = some (.slice e)) (hc : Tryd.prog.cellsOf e = 1) (hv : ∃ a n c, v = .slice a n c) (h : DataW.Trod enc Tryd.prog W 0 (fun _ => true) true t v d ps) :
    ∃ va vc xs, v = .slice va xs.length vc ∧ SlC W (.slice va xs.length vc) xs ∧ xs.length ≤ maxLen ∧ ∀ x ∈ xs, ∃ n y, DataW.trod enc Tryd.prog W 0 (fun _ => true) true n e [x] = some y ∧ ∀ p ∈ y.2, p ∈ ps := by
  obtain ⟨a, n, c, rfl⟩ := hv
  obtain ⟨fuel, hf⟩ := h
  simp only [Value.cells, List.toList_toArray] at hf
  rcases open_slice1 ht hc hf with ⟨hcs, _⟩ | ⟨ad, len, cap, m, n', V, D, Pl, hcs, _, hl, hm, hmm, hx, hcell⟩
  · simp at hcs
    obtain ⟨rfl, rfl, rfl⟩ := hcs
    exact ⟨none, 0, [], rfl, Or.inl ⟨rfl, none, 0, rfl⟩, by simp, by simp⟩
  · simp at hcs
    obtain ⟨rfl, rfl, rfl⟩ := hcs
    simp only [if_true] at hmm
    simp only [Prod.mk.injEq] at hx
    refine ⟨some ad, c, (List.range n).map V, by simp, ?_, by simp; omega, ?_⟩
    · rcases Nat.eq_zero_or_pos n with h0 | h0
      · subst h0
        exact Or.inl ⟨rfl, some ad, c, rfl⟩
      · obtain ⟨b, off, spot⟩ := ad
        have hspot : spot = none := by simpa [Addr.add] using World.cell?_spot (hcell 0 (by omega)).1
        subst hspot
        refine Or.inr ⟨b, off, c, by simp, fun j u hj => ?_⟩
        simp only [List.getElem?_map, List.getElem?_range] at hj
        have hjn : j < n := by
          rcases Nat.lt_or_ge j n with h | h
          · exact h
          · rw [List.getElem?_eq_none (by simpa using h)] at hj; cases hj
        rw [List.getElem?_eq_getElem (by simpa using hjn)] at hj
        simp at hj
        rw [← hj, ← (hcell j (by omega)).1, Addr.add_lit]
    · intro x hx'
      obtain ⟨i, hi, rfl⟩ := List.mem_map.1 hx'
      have hi' : i < n := by simpa using hi
      refine ⟨n', _, (hcell i (by omega)).2, fun p hp => ?_⟩
      rw [hx.2]
      exact List.mem_append_right _ (List.mem_flatMap.2 ⟨i, by simp; omega, hp⟩)
theorem args_stay {P : Program} (hP : laidOutB P = true) {W' : World} (hb : Below W.heap.size W W') : ∀ {ts : List TypeId} {vs : List Value} {ds : List (DataW H)} {ps : List MemPlace}, (ts.all fun t => P.readableRec t && decide (t < P.types.size)) = true →
    DataW.TrodAll enc P W 0 (fun _ => true) true ts vs ds ps → (∀ x ∈ ps, x.block < W.heap.size) → DataW.TrodAll enc P W' 0 (fun b => decide (b < W.heap.size)) true ts vs ds ps
  | [], vs, ds, ps, _, h, _ => by
    obtain ⟨rfl, rfl, rfl⟩ := trodAll_nil h
    exact trodAll_mk0
  | t :: ts, vs, ds, ps, ht, h, hlt => by
    obtain ⟨v0, vs0, d0, ds0, p0, q0, rfl, rfl, rfl, h0, r0⟩ := trodAll_cons h
    simp only [List.all_cons, Bool.and_eq_true, decide_eq_true_eq] at ht
    exact trodAll_cons_mk (Below.trod hP ht.1.1 ht.1.2 h0 hb (fun x hx => hlt x (List.mem_append_left _ hx))) (args_stay hP hb (by simpa using ht.2) r0 (fun x hx => hlt x (List.mem_append_right _ hx)))

/-- what every law's proof ends with: it answers true, and no elder block has changed -/
theorem post_true {fn : Func} {spec : ChangeSpec} (hv : spec.vars = []) (hr : fn.resultTypes.toList = [4]) (hs : fn.resultTypes.size = 1) (hts : (fn.params.toList.all fun t => Tryd.prog.readableRec t && decide (t < Tryd.prog.types.size)) = true)
    {args : Array Value} {ds gs : List (DataW H)} {before : List MemPlace} (hW : DataW.Whole enc Tryd.prog fn.params.toList spec.vars false W args.toList ds gs before) (hfn : ds.length = fn.params.toList.length → spec.fn H ds = { results := [.lit (.bool true)], args := ds })
    {W' : World} (hu : Upto [] W W') : spec.post enc Tryd.prog fn false true false false W args (.bool true) W' := by
  have hW' := hW
  obtain ⟨p, q, hA, hV, rfl, _, _⟩ := hW
  rw [hv] at hV
  obtain ⟨rfl, rfl⟩ := trodVars_none hV
  have hb : Below W.heap.size W W' := Upto.ext hu
  have hlt : ∀ x ∈ p, x.block < W.heap.size := fun x hx => by simpa using hW'.lt x (List.mem_append_left _ hx)
  have hn : ds.length = fn.params.toList.length := (Go.trodAll_length hA).2
  refine ⟨ds, [], _, [], p, [], hW', ?_, ?_, ?_, hb.frame _, fun h => by cases h⟩
  · rw [List.append_nil, hfn hn, hr, hs]
    exact trodAll_cons_mk (shut_bool Tryd.underlying4 _) trodAll_mk0
  · rw [List.append_nil, hfn hn]
    exact args_stay laidOut hb hts hA hlt
  · rw [List.append_nil, hfn hn, hv]
    rfl
end

/-- A world for the witness: the settled one, the tables holding what their initialisers lay. -/
noncomputable def laidWorld (os : Os) : World := World.laidAll Tryd.prog os Rows.lexerTokenizeRow.laid
theorem laidWorld_os (os : Os) : (laidWorld os).os = os := World.laidAll_os _ _ _
theorem laid_met (os : Os) (args : Array Value) : laidMet Tryd.prog Rows.lexerTokenizeRow.laid ((laidWorld os).forCall (fun _ _ => 0) ⟨#[], args, []⟩).memory :=
  laidMet_laidAll args (by kernel_rfl) (by kernel_rfl)

set_option maxRecDepth 100000 in
/-- what the rows' tables say of the world -/
theorem env_of {W : World} (h : laidMetH Tryd.prog Rows.lexerTokenizeRow.laid W) : Env W := by
  rw [MakeChecks.laidMetH_plain _ _ _ (by kernel_rfl)] at h
  refine ⟨?_, ?_⟩
  · have h1 := h.filter (fun x => x.1 == "strings.asciiSpace")
    rw [show (Rows.lexerTokenizeRow.laid.filter fun x => x.1 == "strings.asciiSpace") = [("strings.asciiSpace", Lib.tabData .u8 Lib.asciiSpaceTab)] by kernel_rfl] at h1
    exact Lib.tabIs_of_head (g := 0) (by kernel_rfl) (by kernel_rfl) (t := 105) Tryd.underlying105 Tryd.underlying5 (by kernel_rfl) (by kernel_rfl) h1
  · have h1 := h.filter (fun x => x.1 == "strconv.ErrRange")
    rw [show (Rows.lexerTokenizeRow.laid.filter fun x => x.1 == "strconv.ErrRange") = [("strconv.ErrRange", Rows.laid_strconv_ErrRange)] by kernel_rfl] at h1
    obtain ⟨ps, ⟨g, t, cs, fuel, p, q, hg, ht, hvar, hd, _, _⟩, _⟩ := h1
    obtain rfl : g = 5 := (Option.some.inj ((show Tryd.prog.globalNamed "strconv.ErrRange" = some 5 by kernel_rfl).symm.trans hg)).symm
    obtain rfl : t = 112 := (Option.some.inj ((show (Tryd.prog.globals[5]?).map (·.type) = some 112 by kernel_rfl).symm.trans ht)).symm
    obtain ⟨f, u, v, hcs, -, -⟩ := iface_of_trod Tryd.underlying112 hd
    refine ⟨u, v, ?_⟩
    have := World.var?_cell hg hvar 0
    rw [this]
    have h2 : cs = #[.iface u v] := by cases cs; simp_all
    rw [h2]
    rfl
end Go.Proofs.YtkhbpebpljdifaaDoor

/- What FormulaBlanks' row lays: the tables of the lexer and of the sorts. -/
namespace Go.Proofs.YtkhbpebpljdifaaDoor
open Go.ChangeShapes Go.WideShapes Go.ChangeAt Go.RowKit Go.PL Go.Deep

set_option maxRecDepth 100000 in
theorem str_of {H : Type} {enc : TypeId × Value → H} {W : World} {sp : Nat → Bool} {held : Bool} {m : Nat} {v : Value} {bs : List UInt8} {p : List MemPlace} {b : Nat} (h : DataW.trod enc Tryd.prog W b sp held m 9 [v] = some (.lit (.string bs), p)) : v = .string ⟨bs.toArray⟩ := by
  cases m with
  | zero => simp [DataW.trod] at h
  | succ m =>
    rw [DataW.trod_step] at h
    simp only [DataW.trodStep, Tryd.underlying9] at h
    cases v
    case string s =>
      simp at h
      obtain ⟨-, rfl, -⟩ := h
      cases s
      simp
    all_goals (exfalso; simp at h)
set_option maxRecDepth 100000 in
theorem senv_of {W : World} (h : laidMetH Tryd.prog Rows.formulaBlanksRow.laid W) : SEnv W := by
  rw [MakeChecks.laidMetH_plain _ _ _ (by kernel_rfl)] at h
  have h1 := h.filter (fun x => x.1 == "palmette/formula.sorts")
  rw [show (Rows.formulaBlanksRow.laid.filter fun x => x.1 == "palmette/formula.sorts") = [("palmette/formula.sorts", Rows.laid_palmette_formula_sorts)] by kernel_rfl] at h1
  obtain ⟨ps, ⟨g, t, cs, fuel, p, q, hg, ht, hvar, hd, _, _⟩, _⟩ := h1
  obtain rfl : g = 2 := (Option.some.inj ((show Tryd.prog.globalNamed "palmette/formula.sorts" = some 2 by kernel_rfl).symm.trans hg)).symm
  obtain rfl : t = 143 := (Option.some.inj ((show (Tryd.prog.globals[2]?).map (·.type) = some 143 by kernel_rfl).symm.trans ht)).symm
  obtain ⟨xs, m, _, hx, hlen, hxl, hxi⟩ := DataW.trod_array Tryd.underlying143 hd
  rw [show Tryd.prog.cellsOf 143 = 4 by kernel_rfl] at hlen
  simp only [show Tryd.prog.cellsOf 9 = 1 by kernel_rfl] at hxi
  have key : ∀ (i : Nat) (v : Value) (bs : List UInt8), i < 4 → cs.toList[i]? = some v → (xs.map (·.1))[i]? = some (.lit (.string bs)) → v = .string ⟨bs.toArray⟩ := by
    intro i v bs hi hv hb
    have h1 := hxi i hi
    rw [List.getElem?_map] at hb
    cases hq : xs[i]? with
    | none => rw [hq] at hb; cases hb
    | some y =>
      obtain ⟨y1, y2⟩ := y
      rw [hq] at hb h1
      simp at hb
      subst hb
      have hd : (cs.toList.drop (i * 1)).take 1 = [v] := by
        rw [Nat.mul_one]
        obtain ⟨hl, rfl⟩ := List.getElem?_eq_some_iff.1 hv
        rw [List.drop_eq_getElem_cons hl]
        rfl
      rw [hd] at h1
      exact str_of h1
  have hxm : xs.map (·.1) = [.lit (.string [118, 101, 114, 116, 101, 120]), .lit (.string [101, 100, 103, 101]), .lit (.string [115, 101, 116]), .lit (.string [101, 100, 103, 101, 115])] := by
    have h2 := (Prod.mk.inj hx).1
    unfold Rows.laid_palmette_formula_sorts at h2
    exact (DataW.agg.inj h2).symm
  have at_ : ∀ (i : Nat) (bs : List UInt8), i < 4 → (xs.map (·.1))[i]? = some (.lit (.string bs)) → W.cell? ⟨2, i, none⟩ = some (.string ⟨bs.toArray⟩) := by
    intro i bs hi hb
    have hil : i < cs.toList.length := by omega
    have h3 := key i cs.toList[i] bs hi (List.getElem?_eq_getElem hil) hb
    have h4 := World.var?_cell hg hvar i
    rw [h4, ← h3]
    simp at hil
    simp [hil]
  exact ⟨at_ 0 _ (by omega) (by rw [hxm]; rfl), at_ 1 _ (by omega) (by rw [hxm]; rfl), at_ 2 _ (by omega) (by rw [hxm]; rfl), at_ 3 _ (by omega) (by rw [hxm]; rfl)⟩
set_option maxRecDepth 100000 in
/-- what the rows' tables say of the world -/
theorem fenv_of {W : World} (h : laidMetH Tryd.prog Rows.formulaBlanksRow.laid W) : Env W := by
  rw [MakeChecks.laidMetH_plain _ _ _ (by kernel_rfl)] at h
  refine ⟨?_, ?_⟩
  · have h1 := h.filter (fun x => x.1 == "strings.asciiSpace")
    rw [show (Rows.formulaBlanksRow.laid.filter fun x => x.1 == "strings.asciiSpace") = [("strings.asciiSpace", Lib.tabData .u8 Lib.asciiSpaceTab)] by kernel_rfl] at h1
    exact Lib.tabIs_of_head (g := 0) (by kernel_rfl) (by kernel_rfl) (t := 105) Tryd.underlying105 Tryd.underlying5 (by kernel_rfl) (by kernel_rfl) h1
  · have h1 := h.filter (fun x => x.1 == "strconv.ErrRange")
    rw [show (Rows.formulaBlanksRow.laid.filter fun x => x.1 == "strconv.ErrRange") = [("strconv.ErrRange", Rows.laid_strconv_ErrRange)] by kernel_rfl] at h1
    obtain ⟨ps, ⟨g, t, cs, fuel, p, q, hg, ht, hvar, hd, _, _⟩, _⟩ := h1
    obtain rfl : g = 5 := (Option.some.inj ((show Tryd.prog.globalNamed "strconv.ErrRange" = some 5 by kernel_rfl).symm.trans hg)).symm
    obtain rfl : t = 112 := (Option.some.inj ((show (Tryd.prog.globals[5]?).map (·.type) = some 112 by kernel_rfl).symm.trans ht)).symm
    obtain ⟨f, u, v, hcs, -, -⟩ := iface_of_trod Tryd.underlying112 hd
    refine ⟨u, v, ?_⟩
    have := World.var?_cell hg hvar 0
    rw [this]
    have h2 : cs = #[.iface u v] := by cases cs; simp_all
    rw [h2]
    rfl
end Go.Proofs.YtkhbpebpljdifaaDoor

/- Opening an argument of the type []uint8. -/
namespace Go.Proofs.YtkhbpebpljdifaaDoor
open Go.ChangeShapes Go.WideShapes Go.ChangeAt Go.RowKit Go.PL Go.Deep

theorem u8s_of {H : Type} {enc : TypeId × Value → H} {W : World} : ∀ (xs : List Value), (∀ x ∈ xs, ∃ n y, DataW.trod enc Tryd.prog W 0 (fun _ => true) true n 5 [x] = some y) → ∃ bl : List Nat, xs = u8C bl ∧ ∀ k ∈ bl, k < 256
  | [], _ => ⟨[], rfl, by simp⟩
  | x :: xs, h => by
    obtain ⟨bl, rfl, hb⟩ := u8s_of xs (fun y hy => h y (by simp [hy]))
    obtain ⟨n, y, hy⟩ := h x (by simp)
    obtain ⟨k, hk, -, hw⟩ := DataW.trod_int Tryd.underlying5 hy
    simp at hk
    simp [Lit.wf, IntKind.min, IntKind.max, IntKind.signed, IntKind.bits] at hw
    refine ⟨k.toNat :: bl, ?_, ?_⟩
    · have : ((k.toNat : Nat) : Int) = k := Int.toNat_of_nonneg hw.1
      simp [u8C, hk, this]
    · intro j hj
      rcases List.mem_cons.1 hj with rfl | hj
      · omega
      · exact hb j hj
theorem open_byts {H : Type} {enc : TypeId × Value → H} {W : World} {v : Value} {d : DataW H} {ps : List MemPlace} (hv : ∃ a n c, v = .slice a n c) (h : DataW.Trod enc Tryd.prog W 0 (fun _ => true) true 38 v d ps) :
    ∃ bl : List Nat, SlC W v (u8C bl) ∧ (∀ k ∈ bl, k < 256) ∧ bl.length ≤ maxLen := by
  obtain ⟨va, vc, xs, rfl, hs, hl, hx⟩ := open_slc Tryd.underlying38 (by kernel_rfl) hv h
  obtain ⟨bl, rfl, hb⟩ := u8s_of xs (fun x hx' => by obtain ⟨n, y, h1, -⟩ := hx x hx'; exact ⟨n, y, h1⟩)
  have e : (u8C bl).length = bl.length := by simp [u8C]
  refine ⟨bl, hs, hb, by rw [← e]; exact hl⟩
end Go.Proofs.YtkhbpebpljdifaaDoor
