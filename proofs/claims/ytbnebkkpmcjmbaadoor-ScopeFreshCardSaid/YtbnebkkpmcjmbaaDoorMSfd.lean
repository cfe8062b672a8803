/- Texts merged, in build order: Open, Oq, Env10, Z7, Z8, Z9, Z10, Z11, Z3a, Z12, Z13, Kf, Kg, Zc, Kl, Km, Kn, Ot. -/
import Derived.Test.YtbnebkkpmcjmbaaDoorMSfc
import Derived.Test.YtbnebkkpmcjmbaaDoorRows
import Derived.WalkKit
import Derived.WalkSpells
import Derived.WalkLawsBesides
import Derived.Maps.OwnSet
import Derived.Lib.Hide
import Derived.Laws.BytesArg
import Derived.Deep.QuietTactic
import Derived.BigQuiet
import Derived.Test.YtbnebkkpmcjmbaaDoorProg
import Derived.Shelf.Small.Strs
import Derived.Shelf.LaysM
import Derived.Shelf.Strings.SplitShaped
import Derived.Deep.DeepCutAuto
import Derived.Deep.CutBlock
import Derived.Lib.Strings
import Derived.Lib.Walk
import Derived.Lib.ConvBytes
import Derived.Lib.ParseIntBMem
import Derived.Lib.AtoiErrMem
import Derived.Lib.BufferWrite
import Derived.Lib.UnsafeStr
import Derived.Lib.IfaceEq
import Derived.Laws.MakeOwn
import Derived.Laws.Strings3
import Derived.Laws.Closers25
import Derived.Laws.Closers25b
import Derived.RegionTactic
import Derived.Deep.RegionWith
import Derived.BigCall
import Derived.BigGuard
import Derived.Lib.AppendIntMem
import Derived.Carry
import Derived.OrdersHeld
import Derived.Deep.RegionHeld3
import Derived.Shelf.Strconv.Itoa3
import Derived.Shelf.Slices.Turned
import Derived.Shelf.Slices.Clone
import Derived.Deep.RegionLaw
import Derived.RangeFuncNested
import Derived.RangeFuncBound
import Derived.RangeFuncCalls
import Derived.RangeFuncLeaves
import Derived.RangeFuncBox
import Derived.Shelf.Abstract
import Derived.OwnWalkIn
import Derived.TacticsInMore
import Derived.LoopNIn
import Derived.LoopIn
import Derived.Laws.EntriesVeiled
import Derived.Laws.AppendOwn
import Derived.Shelf.SlMaps.Clone
import Derived.Test.YtbnebkkpmcjmbaaDoorCards
import Derived.Test.YtbnebkkpmcjmbaaDoorTie
import Derived.ProofKit
import Derived.OpenShut
import Derived.Deep.DeepHandedRow
import Derived.Deep.Slices
import Derived.Lay
import Derived.ChangeCalls
import Derived.LaidSub
import Derived.MakeChecks
import Derived.LaidLaws
import Derived.Lib.LaidTab
namespace Go.Proofs.YtbnebkkpmcjmbaaDoor
open Go.ChangeShapes Go.WideShapes Go.ChangeAt Go.RowKit Go.PL Go.Deep

theorem own : ownKnob Tryd.prog.godebug = none := by kernel_rfl
theorem laidOut : laidOutB Tryd.prog = true := by kernel_rfl

section
variable {H : Type} {enc : TypeId × Value → H} {W : World}

theorem args_stay {P : Program} (hP : laidOutB P = true) {W' : World} (hb : Below W.heap.size W W') : ∀ {ts : List TypeId} {vs : List Value} {ds : List (DataW H)} {ps : List MemPlace}, (ts.all fun t => P.readableRec t && decide (t < P.types.size)) = true →
    DataW.TrodAll enc P W 0 (fun _ => true) true ts vs ds ps → (∀ x ∈ ps, x.block < W.heap.size) → DataW.TrodAll enc P W' 0 (fun b => decide (b < W.heap.size)) true ts vs ds ps
  | [], vs, ds, ps, _, h, _ => by
    obtain ⟨rfl, rfl, rfl⟩ := trodAll_nil h
    exact trodAll_mk0
  | t :: ts, vs, ds, ps, ht, h, hlt => by
    obtain ⟨v0, vs0, d0, ds0, p0, q0, rfl, rfl, rfl, h0, r0⟩ := trodAll_cons h
    simp only [List.all_cons, Bool.and_eq_true, decide_eq_true_eq] at ht
    exact trodAll_cons_mk (Below.trod hP ht.1.1 ht.1.2 h0 hb (fun x hx => hlt x (List.mem_append_left _ hx))) (args_stay hP hb (by simpa using ht.2) r0 (fun x hx => hlt x (List.mem_append_right _ hx)))

/-- what every law's proof ends with: it answers true, and no elder block has changed -/
theorem post_true {fn : Func} {spec : ChangeSpec} (hv : spec.vars = []) (hr : fn.resultTypes.toList = [4]) (hs : fn.resultTypes.size = 1) (hts : (fn.params.toList.all fun t => Tryd.prog.readableRec t && decide (t < Tryd.prog.types.size)) = true)
    {args : Array Value} {ds gs : List (DataW H)} {before : List MemPlace} (hW : DataW.Whole enc Tryd.prog fn.params.toList spec.vars false W args.toList ds gs before) (hfn : ds.length = fn.params.toList.length → spec.fn H ds = { results := [.lit (.bool true)], args := ds })
    {W' : World} (hu : Upto [] W W') : spec.post enc Tryd.prog fn false true false false W args (.bool true) W' := by
  have hW' := hW
  obtain ⟨p, q, hA, hV, rfl, _, _⟩ := hW
  rw [hv] at hV
  obtain ⟨rfl, rfl⟩ := trodVars_none hV
  have hb : Below W.heap.size W W' := Upto.ext hu
  have hlt : ∀ x ∈ p, x.block < W.heap.size := fun x hx => by simpa using hW'.lt x (List.mem_append_left _ hx)
  have hn : ds.length = fn.params.toList.length := (Go.trodAll_length hA).2
  refine ⟨ds, [], _, [], p, [], hW', ?_, ?_, ?_, hb.frame _, fun h => by cases h⟩
  · rw [List.append_nil, hfn hn, hr, hs]
    exact trodAll_cons_mk (shut_bool Tryd.underlying4 _) trodAll_mk0
  · rw [List.append_nil, hfn hn]
    exact args_stay laidOut hb hts hA hlt
  · rw [List.append_nil, hfn hn, hv]
    rfl
end

end Go.Proofs.YtbnebkkpmcjmbaaDoor


namespace Go.Proofs.YtbnebkkpmcjmbaaDoor
open Go.RowKit Go.PL Go.Maps
open Go.ChangeShapes Go.WideShapes Go.ChangeAt Go.Deep

mutual
/-- no list and no name in it is longer than M -/
def inN (M : Nat) : Nd → Prop
  | .mk _ names _ _ _ l => names.length ≤ M ∧ (∀ x ∈ names, x.length ≤ M) ∧ l.length ≤ M ∧ insN M l
def insN (M : Nat) : List Nd → Prop
  | [] => True
  | x :: xs => inN M x ∧ insN M xs
end
mutual
theorem inN.mono {M M' : Nat} (h : M ≤ M') : ∀ (n : Nd), inN M n → inN M' n
  | .mk _ _ _ _ _ l, hn => by
    unfold inN at hn ⊢
    exact ⟨by omega, fun x hx => Nat.le_trans (hn.2.1 x hx) h, by omega, insN.mono h l hn.2.2.2⟩
theorem insN.mono {M M' : Nat} (h : M ≤ M') : ∀ (l : List Nd), insN M l → insN M' l
  | [], _ => by unfold insN; trivial
  | x :: xs, hn => by
    unfold insN at hn ⊢
    exact ⟨inN.mono h x hn.1, insN.mono h xs hn.2⟩
end
instance : Inhabited Nd := ⟨.zero⟩
section
variable {H : Type} {enc : TypeId × Value → H} {W : World}
end
end Go.Proofs.YtbnebkkpmcjmbaaDoor


namespace Go.Proofs.YtbnebkkpmcjmbaaDoor
open Go.RowKit Go.PL Go.Maps
open Go.ChangeShapes Go.WideShapes Go.ChangeAt Go.Deep

/-- the words of the printer, by operation -/
def pwordL : List (List UInt8) := [[], [], [61], [105, 110], [115, 117, 98], [97, 100, 106], [111, 110], [], [], [], [], [110, 111, 116], [97, 110, 100], [111, 114], [105, 109, 112, 108, 105, 101, 115], [105, 102, 102], [115, 111, 109, 101], [101, 118, 101, 114, 121]]
def tightL : List Int := [0, 0, 0, 0, 0, 0, 0, 0, 0, 0, 0, 5, 4, 3, 2, 1, 5, 5]
/-- the table of forms: names at least, at most, operands, whether it has a sort -/
structure FEnv (w : World) : Prop where
  at_ : ∀ k : Nat, k < 18 → w.cell? ⟨2, k * 4, none⟩ = some (.int .i64 ((hasF k).1 : Nat)) ∧ w.cell? ⟨2, k * 4 + 1, none⟩ = some (.int .i64 ((hasF k).2.1 : Nat)) ∧ w.cell? ⟨2, k * 4 + 2, none⟩ = some (.int .i64 ((hasF k).2.2 : Nat)) ∧ w.cell? ⟨2, k * 4 + 3, none⟩ = some (.bool (decide (16 ≤ k)))
structure PEnv (w : World) : Prop where
  word : ∀ (k : Nat) x, pwordL[k]? = some x → w.cell? ⟨1, k, none⟩ = some (.string ⟨x.toArray⟩)
  tight : ∀ (k : Nat) x, tightL[k]? = some x → w.cell? ⟨3, k, none⟩ = some (.int .i64 x)
theorem FEnv.ext {w w' : World} (h : FEnv w) (hu : Upto [] w w') : FEnv w' := ⟨fun k hk => by
  obtain ⟨h0, h1, h2, h3⟩ := h.at_ k hk
  have up : ∀ {p : Addr} {u : Value}, w.cell? p = some u → w'.cell? p = some u := fun hp => (hu.cell (World.block_lt_of_cell? w _ hp) (by simp)).trans hp
  exact ⟨up h0, up h1, up h2, up h3⟩⟩
theorem PEnv.ext {w w' : World} (h : PEnv w) (hu : Upto [] w w') : PEnv w' := by
  have up : ∀ {p : Addr} {u : Value}, w.cell? p = some u → w'.cell? p = some u := fun hp => (hu.cell (World.block_lt_of_cell? w _ hp) (by simp)).trans hp
  exact ⟨fun k x h1 => up (h.word k x h1), fun k x h1 => up (h.tight k x h1)⟩

set_option maxRecDepth 100000 in
theorem str_of {H : Type} {enc : TypeId × Value → H} {W : World} {sp : Nat → Bool} {held : Bool} {m : Nat} {v : Value} {bs : List UInt8} {p : List MemPlace} {b : Nat} (h : DataW.trod enc Tryd.prog W b sp held m 9 [v] = some (.lit (.string bs), p)) : v = .string ⟨bs.toArray⟩ := by
  obtain ⟨s, h1, h2, -⟩ := DataW.trod_string Tryd.underlying9 h
  obtain rfl : v = .string s := by simpa using h1
  have h3 : bs = s.data.toList := by simpa using (congrArg Prod.fst h2)
  cases s
  rw [h3]
theorem int_of {H : Type} {enc : TypeId × Value → H} {W : World} {sp : Nat → Bool} {held : Bool} {m : Nat} {v : Value} {k : Int} {p : List MemPlace} {b : Nat} (h : DataW.trod enc Tryd.prog W b sp held m 3 [v] = some (.lit (.int .i64 k), p)) : v = .int .i64 k := by
  obtain ⟨s, h1, h2, -⟩ := DataW.trod_int Tryd.underlying3 h
  obtain rfl : v = .int .i64 s := by simpa using h1
  have h3 : k = s := by simpa using (congrArg Prod.fst h2)
  rw [h3]
theorem bool_of {H : Type} {enc : TypeId × Value → H} {W : World} {sp : Nat → Bool} {held : Bool} {m : Nat} {v : Value} {k : Bool} {p : List MemPlace} {b : Nat} (h : DataW.trod enc Tryd.prog W b sp held m 4 [v] = some (.lit (.bool k), p)) : v = .bool k := by
  obtain ⟨s, h1, h2⟩ := DataW.trod_bool Tryd.underlying4 h
  obtain rfl : v = .bool s := by simpa using h1
  have h3 : k = s := by simpa using (congrArg Prod.fst h2)
  rw [h3]
/-- what a listed array of n elements, z cells each, holds -/
theorem arr_of {W : World} {L : List (String × DataW Unit)} {name : String} {ds : List (DataW Unit)} {g t e n z : Nat} (hg' : Tryd.prog.globalNamed name = some g) (ht' : (Tryd.prog.globals[g]?).map (·.type) = some t) (hu : Tryd.prog.underlying t = some (.array n e)) (hz : Tryd.prog.cellsOf e = z) (hc : Tryd.prog.cellsOf t = n * z)
    (h : laidMet Tryd.prog L W) (hf : L.filter (fun x => x.1 == name) = [(name, .agg ds)]) : ∃ cs : Array Value, (∀ i, W.cell? ⟨g, i, none⟩ = cs[i]?) ∧ cs.size = n * z ∧ ∀ i d, ds[i]? = some d → ∃ (enc : TypeId × Value → Unit) (b : Nat) (sp : Nat → Bool) (held : Bool) (m : Nat) (p : List MemPlace), DataW.trod enc Tryd.prog W b sp held m e ((cs.toList.drop (i * z)).take z) = some (d, p) := by
  have h1 := h.filter (fun x => x.1 == name)
  rw [hf] at h1
  obtain ⟨ps, ⟨g, t, cs, fuel, p, q, hg, ht, hvar, hd, _, _⟩, _⟩ := h1
  obtain rfl := Option.some.inj (hg'.symm.trans hg)
  obtain rfl := Option.some.inj (ht'.symm.trans ht)
  obtain ⟨xs, m, _, hx, hlen, hxl, hxi⟩ := DataW.trod_array hu hd
  rw [hc] at hlen
  rw [hz] at hxi
  refine ⟨cs, World.var?_cell hg hvar, by simpa using hlen, fun i d hi => ?_⟩
  have h2 := (Prod.mk.inj hx).1
  have h3 : ds = xs.map (·.1) := DataW.agg.inj h2
  rw [h3, List.getElem?_map] at hi
  cases hq : xs[i]? with
  | none => rw [hq] at hi; cases hi
  | some y =>
    rw [hq] at hi
    have hin : i < n := by
      have := (List.getElem?_eq_some_iff.1 hq).1
      omega
    have h4 := hxi i hin
    rw [hq] at h4
    obtain ⟨y1, y2⟩ := y
    have : y1 = d := by simpa using hi
    subst this
    exact ⟨_, _, _, _, _, y2, h4⟩
theorem take_one {α : Type} (l : List α) (i : Nat) (v : α) (h : l[i]? = some v) : (l.drop (i * 1)).take 1 = [v] := by
  rw [Nat.mul_one]
  obtain ⟨hl, rfl⟩ := List.getElem?_eq_some_iff.1 h
  rw [List.drop_eq_getElem_cons hl]
  rfl
theorem one_at {W : World} {g n : Nat} {cs : Array Value} {i : Nat} {_R : Value → Prop} {u : Value} (h1 : ∀ i, W.cell? ⟨g, i, none⟩ = cs[i]?) (h2 : cs.size = n * 1) (hi : i < n) (h3 : ∀ v, (cs.toList.drop (i * 1)).take 1 = [v] → v = u) : W.cell? ⟨g, i, none⟩ = some u := by
  have hil : i < cs.toList.length := by simp; omega
  have := h3 cs.toList[i] (take_one _ _ _ (List.getElem?_eq_getElem hil))
  rw [h1 i, ← this]
  simp at hil
  simp [hil]
section
variable {W : World} {L : List (String × DataW Unit)}
set_option maxRecDepth 100000 in
theorem senv_of (h : laidMet Tryd.prog L W) (hf : L.filter (fun x => x.1 == "palmette/formula.sorts") = [("palmette/formula.sorts", Rows.laid_palmette_formula_sorts)]) : SEnv W := by
  obtain ⟨cs, h1, h2, h3⟩ := arr_of (g := 0) (t := 80) (n := 4) (e := 9) (z := 1) (by kernel_rfl) (by kernel_rfl) Tryd.underlying80 (by kernel_rfl) (by kernel_rfl) h hf
  have key : ∀ (i : Nat) (bs : List UInt8), i < 4 → ([.lit (.string [118, 101, 114, 116, 101, 120]), .lit (.string [101, 100, 103, 101]), .lit (.string [115, 101, 116]), .lit (.string [101, 100, 103, 101, 115])] : List (DataW Unit))[i]? = some (.lit (.string bs)) → W.cell? ⟨0, i, none⟩ = some (.string ⟨bs.toArray⟩) := by
    intro i bs hi hb
    obtain ⟨enc, b0, sp, held, m, p, h4⟩ := h3 i _ hb
    exact one_at (_R := fun _ => True) h1 h2 hi (fun v hv => by rw [hv] at h4; exact str_of h4)
  exact ⟨key 0 _ (by omega) rfl, key 1 _ (by omega) rfl, key 2 _ (by omega) rfl, key 3 _ (by omega) rfl⟩
set_option maxRecDepth 100000 in
theorem env_of (h : laidMet Tryd.prog L W) (hf : L.filter (fun x => x.1 == "strings.asciiSpace") = [("strings.asciiSpace", Lib.tabData .u8 Lib.asciiSpaceTab)]) (hf2 : L.filter (fun x => x.1 == "strconv.ErrRange") = [("strconv.ErrRange", Rows.laid_strconv_ErrRange)]) : Env W := by
  refine ⟨?_, ?_⟩
  · have h1 := h.filter (fun x => x.1 == "strings.asciiSpace")
    rw [hf] at h1
    exact Lib.tabIs_of_head (g := 4) (by kernel_rfl) (by kernel_rfl) (t := 119) Tryd.underlying119 Tryd.underlying5 (by kernel_rfl) (by kernel_rfl) h1
  · have h1 := h.filter (fun x => x.1 == "strconv.ErrRange")
    rw [hf2] at h1
    obtain ⟨ps, ⟨g, t, cs, fuel, p, q, hg, ht, hvar, hd, _, _⟩, _⟩ := h1
    obtain rfl : g = 10 := (Option.some.inj ((show Tryd.prog.globalNamed "strconv.ErrRange" = some 10 by kernel_rfl).symm.trans hg)).symm
    obtain rfl : t = 115 := (Option.some.inj ((show (Tryd.prog.globals[10]?).map (·.type) = some 115 by kernel_rfl).symm.trans ht)).symm
    obtain ⟨f, u, v, hcs, -, -⟩ := iface_of_trod Tryd.underlying115 hd
    refine ⟨u, v, ?_⟩
    have := World.var?_cell hg hvar 0
    rw [this]
    have h2 : cs = #[.iface u v] := by cases cs; simp_all
    rw [h2]
    rfl
set_option maxRecDepth 100000 in
theorem fenv_of (h : laidMet Tryd.prog L W) (hf : L.filter (fun x => x.1 == "palmette/formula.forms") = [("palmette/formula.forms", Rows.laid_palmette_formula_forms)]) : FEnv W := by
  obtain ⟨cs, h1, h2, h3⟩ := arr_of (g := 2) (t := 101) (n := 18) (e := 100) (z := 4) (by kernel_rfl) (by kernel_rfl) Tryd.underlying101 (by kernel_rfl) (by kernel_rfl) h hf
  refine ⟨fun k hk => ?_⟩
  obtain ⟨ds, hds, hfm⟩ : ∃ ds : List (DataW Unit), Rows.laid_palmette_formula_forms = .agg ds ∧ ∀ k < 18, ds[k]? = some (.agg [.lit (.int .i64 ((hasF k).1 : Nat)), .lit (.int .i64 ((hasF k).2.1 : Nat)), .lit (.int .i64 ((hasF k).2.2 : Nat)), .lit (.bool (decide (16 ≤ k)))]) := by
    refine ⟨_, rfl, fun k hk => ?_⟩
    have hk18 : k = 0 ∨ k = 1 ∨ k = 2 ∨ k = 3 ∨ k = 4 ∨ k = 5 ∨ k = 6 ∨ k = 7 ∨ k = 8 ∨ k = 9 ∨ k = 10 ∨ k = 11 ∨ k = 12 ∨ k = 13 ∨ k = 14 ∨ k = 15 ∨ k = 16 ∨ k = 17 := by omega
    rcases hk18 with rfl | rfl | rfl | rfl | rfl | rfl | rfl | rfl | rfl | rfl | rfl | rfl | rfl | rfl | rfl | rfl | rfl | rfl <;> rfl
  obtain ⟨enc, b0, sp, held, m, p, h4⟩ := h3 k _ (by
    have := hfm k hk
    unfold Rows.laid_palmette_formula_forms at hds
    rw [← DataW.agg.inj hds] at this
    exact this)
  have hl : (cs.toList.drop (k * 4)).length ≥ 4 := by simp; omega
  obtain ⟨a, b, c, d, r, hr⟩ : ∃ a b c d r, cs.toList.drop (k * 4) = a :: b :: c :: d :: r := by
    match cs.toList.drop (k * 4), hl with
    | a :: b :: c :: d :: r, _ => exact ⟨a, b, c, d, r, rfl⟩
  rw [hr] at h4
  obtain ⟨xs, n, rfl, hx, _, hlen, hfi⟩ := DataW.trod_struct Tryd.underlying100 h4
  match xs, hlen with
  | [y0, y1, y2, y3], _ =>
    have f0 := hfi 0 { name := "names", type := 3, offset := 0, embedded := false, tag := "", pkgPath := "palmette/formula", byteOffset := 0 } rfl
    have f1 := hfi 1 { name := "more", type := 3, offset := 1, embedded := false, tag := "", pkgPath := "palmette/formula", byteOffset := 8 } rfl
    have f2 := hfi 2 { name := "nodes", type := 3, offset := 2, embedded := false, tag := "", pkgPath := "palmette/formula", byteOffset := 16 } rfl
    have f3 := hfi 3 { name := "sort", type := 4, offset := 3, embedded := false, tag := "", pkgPath := "palmette/formula", byteOffset := 24 } rfl
    simp only [show Tryd.prog.cellsOf 3 = 1 by kernel_rfl, show Tryd.prog.cellsOf 4 = 1 by kernel_rfl] at f0 f1 f2 f3
    simp at f0 f1 f2 f3
    have hx1 := congrArg Prod.fst hx
    simp only [List.map_cons, List.map_nil, DataW.agg.injEq, List.cons.injEq, and_true] at hx1
    obtain ⟨z0, z1, z2, z3⟩ := hx1
    obtain ⟨y0, q0⟩ := y0
    obtain ⟨y1, q1⟩ := y1
    obtain ⟨y2, q2⟩ := y2
    obtain ⟨y3, q3⟩ := y3
    simp only at z0 z1 z2 z3
    subst z0 z1 z2 z3
    have e0 := int_of f0
    have e1 := int_of f1
    have e2 := int_of f2
    have e3 := bool_of f3
    have at_ : ∀ j v, (cs.toList.drop (k * 4))[j]? = some v → W.cell? ⟨2, k * 4 + j, none⟩ = some v := by
      intro j v hj
      rw [List.getElem?_drop] at hj
      rw [h1]
      simpa using hj
    rw [hr] at at_
    exact ⟨by rw [← e0]; exact at_ 0 a rfl, by rw [← e1]; exact at_ 1 b rfl, by rw [← e2]; exact at_ 2 c rfl, by rw [← e3]; exact at_ 3 d rfl⟩
end
end Go.Proofs.YtbnebkkpmcjmbaaDoor


namespace Go.Proofs.YtbnebkkpmcjmbaaDoor
open Go.RowKit Go.PL Go.Maps
set_option maxRecDepth 100000 in
set_option maxHeartbeats 6400000 in
theorem has_7a (so nn mm : Int) (nms : List (List UInt8)) (l : List Nd) (hin : inN 10000000 (.mk 7 nms so nn mm l)) (v : Value) (w : World) (P : Nat → Prop) (h : NdV w P (.mk 7 nms so nn mm l) v) (he : Env w) (hf : FEnv w) (hk0 : (0 : Int) ≤ 7) (_hk1 : (7 : Int) ≤ 17) (hsb : shapeBad 7 nms.length l.length = false) (hall : nms.all identF = true) (hz : so ≠ 0) : Calls Tryd.prog 44 #[v] w fun e w' => e = .returned (.bool false) ∧ Upto [] w w' := by
  obtain ⟨a1, c1, a2, c2, rfl, hs, hg⟩ := h.open
  unfold inN at hin
  obtain ⟨a1', c1', ev, hnm⟩ := hs.get
  obtain ⟨rfl, rfl⟩ : a1 = a1' ∧ c1 = c1' := by simpa using ev
  have hu1 : Upto [] w (w.alloc (.cells #[.int .i64 7, .slice a1 nms.length c1, .int .i64 so, .int .i64 nn, .int .i64 mm, .slice a2 l.length c2] 30)) := (Upto.refl [] w).alloc _
  have hll := hin.2.2.1
  have hnl := hin.1
  have HCF := Lib.hid (fun u (hu : Upto [] w u) => containsf_calls nms a1 c1 u (he.ext hu) hnl hin.2.1 (fun i x hi => by
    obtain ⟨g, o, e1, e2⟩ := hnm i _ (by rw [List.getElem?_map, hi]; rfl)
    exact ⟨g, o, e1, (hu.cell (p := ⟨g, o + i, none⟩) (World.block_lt_of_cell? w _ e2) (by simp)).trans e2⟩))
  have hL0 : (0 : Int) ≤ l.length := by omega
  have hL1 : (l.length : Int) ≤ 10000000 := by omega
  have hN0 : (0 : Int) ≤ nms.length := by omega
  have hN1 : (nms.length : Int) ≤ 10000000 := by omega
  obtain ⟨a, b, c, habc, ha17, hb17, hc17⟩ : ∃ a b c : Nat, hasF 7 = (a, b, c) ∧ a ≤ 17 ∧ b ≤ 17 ∧ c ≤ 17 := by
    unfold hasF
    repeat' split
    all_goals exact ⟨_, _, _, rfl, by decide, by decide, by decide⟩
  obtain ⟨t0, t1, t2, t3⟩ := (hf.ext hu1).at_ 7 (by omega)
  try simp only [Nat.reduceMul, Nat.reduceAdd] at t0 t1 t2 t3
  rw [show hasF (7 : Nat) = (a, b, c) from habc] at t0 t1 t2
  simp only at t0 t1 t2
  have ha0 : (0 : Int) ≤ a := by omega
  have hb0 : (0 : Int) ≤ b := by omega
  have hc0 : (0 : Int) ≤ c := by omega
  have ha1 : (a : Int) ≤ 17 := by omega
  have hb1 : (b : Int) ≤ 17 := by omega
  have hc1 : (c : Int) ≤ 17 := by omega
  obtain ⟨hs0, hs1, hs2⟩ : ¬ nms.length < a ∧ ¬ b < nms.length ∧ l.length = c := by
    unfold shapeBad at hsb
    rw [habc] at hsb
    simp at hsb
    omega
  have q0 : ¬ (nms.length : Int) < a := by omega
  have q1 : ¬ (b : Int) < nms.length := by omega
  have q2 : ((l.length : Int) == (c : Int)) = true := by rw [hs2, beq_iff_eq]
  have q2b : ((l.length : Int) != (c : Int)) = false := by rw [bne, q2]; rfl
  have HB1 := Lib.hid (new_at w (.cells #[.int .i64 7, .slice a1 nms.length c1, .int .i64 so, .int .i64 nn, .int .i64 mm, .slice a2 l.length c2] 30))
  have HU1 := Lib.hid hu1
  have hb := new_at w (.cells #[.int .i64 7, .slice a1 nms.length c1, .int .i64 so, .int .i64 nn, .int .i64 mm, .slice a2 l.length c2] 30)
  obtain ⟨y0, y1, y2, y3, y4, y5⟩ := cells6 hb

  rw [hall] at HCF
  have HBF := Lib.hid (new_at1 w (.cells #[.int .i64 7, .slice a1 nms.length c1, .int .i64 so, .int .i64 nn, .int .i64 mm, .slice a2 l.length c2] 30) (.cells #[.int .i64 a, .int .i64 b, .int .i64 c, .bool false] 100))
  have HU2 : Hid (Upto [] w ((w.alloc (.cells #[.int .i64 7, .slice a1 nms.length c1, .int .i64 so, .int .i64 nn, .int .i64 mm, .slice a2 l.length c2] 30)).alloc (.cells #[.int .i64 a, .int .i64 b, .int .i64 c, .bool false] 100))) := Lib.hid (hu1.alloc _)
  have HBO := Lib.hid (alloc_old hb (.cells #[.int .i64 a, .int .i64 b, .int .i64 c, .bool false] 100))
  have eso0 : (so == (0 : Int)) = false := by rw [beq_eq_false_iff_ne]; exact hz
  have fso0 : (so != (0 : Int)) = true := by rw [bne, eso0]; rfl
  clear habc hsb hall h hs hg hu1 hnm ev hin hb hs2 he hf
  go_enter Tryd.func44, Tryd.ntmps44
  go_wp2_with fail
  refine (HCF.out _ HU2.out).mono ?_
  rintro e w5 ⟨rfl, hu5⟩
  have HU5 := Lib.hid (HU2.out.trans_ext hu5)
  have hb5 := hu5.at HBO.out (by simp)
  have hf5 := hu5.at HBF.out (by simp)
  have z0 := cell_of hb5 0
  have z1 := cell_of hb5 1
  have z2 := cell_of hb5 2
  have z3 := cell_of hb5 3
  have z4 := cell_of hb5 4
  have z5 := cell_of hb5 5
  have x3 := cell_of hf5 3
  simp only [List.getElem?_toArray, List.getElem?_cons_zero, List.getElem?_cons_succ] at z0 z1 z2 z3 z4 z5 x3
  clear hu5 hb5 hf5 y0 y1 y2 y3 y4 y5 t0 t1 t2 t3
  go_wp2_with fail
  go_ret
  exact ⟨rfl, HU5.out⟩

set_option maxRecDepth 100000 in
set_option maxHeartbeats 6400000 in
theorem has_7b (nn mm : Int) (nms : List (List UInt8)) (l : List Nd) (hin : inN 10000000 (.mk 7 nms 0 nn mm l)) (v : Value) (w : World) (P : Nat → Prop) (h : NdV w P (.mk 7 nms 0 nn mm l) v) (he : Env w) (hf : FEnv w) (hk0 : (0 : Int) ≤ 7) (_hk1 : (7 : Int) ≤ 17) (hsb : shapeBad 7 nms.length l.length = false) (hall : nms.all identF = true) (hz : mm ≠ 0) : Calls Tryd.prog 44 #[v] w fun e w' => e = .returned (.bool false) ∧ Upto [] w w' := by
  obtain ⟨a1, c1, a2, c2, rfl, hs, hg⟩ := h.open
  unfold inN at hin
  obtain ⟨a1', c1', ev, hnm⟩ := hs.get
  obtain ⟨rfl, rfl⟩ : a1 = a1' ∧ c1 = c1' := by simpa using ev
  have hu1 : Upto [] w (w.alloc (.cells #[.int .i64 7, .slice a1 nms.length c1, .int .i64 0, .int .i64 nn, .int .i64 mm, .slice a2 l.length c2] 30)) := (Upto.refl [] w).alloc _
  have hll := hin.2.2.1
  have hnl := hin.1
  have HCF := Lib.hid (fun u (hu : Upto [] w u) => containsf_calls nms a1 c1 u (he.ext hu) hnl hin.2.1 (fun i x hi => by
    obtain ⟨g, o, e1, e2⟩ := hnm i _ (by rw [List.getElem?_map, hi]; rfl)
    exact ⟨g, o, e1, (hu.cell (p := ⟨g, o + i, none⟩) (World.block_lt_of_cell? w _ e2) (by simp)).trans e2⟩))
  have hL0 : (0 : Int) ≤ l.length := by omega
  have hL1 : (l.length : Int) ≤ 10000000 := by omega
  have hN0 : (0 : Int) ≤ nms.length := by omega
  have hN1 : (nms.length : Int) ≤ 10000000 := by omega
  obtain ⟨a, b, c, habc, ha17, hb17, hc17⟩ : ∃ a b c : Nat, hasF 7 = (a, b, c) ∧ a ≤ 17 ∧ b ≤ 17 ∧ c ≤ 17 := by
    unfold hasF
    repeat' split
    all_goals exact ⟨_, _, _, rfl, by decide, by decide, by decide⟩
  obtain ⟨t0, t1, t2, t3⟩ := (hf.ext hu1).at_ 7 (by omega)
  try simp only [Nat.reduceMul, Nat.reduceAdd] at t0 t1 t2 t3
  rw [show hasF (7 : Nat) = (a, b, c) from habc] at t0 t1 t2
  simp only at t0 t1 t2
  have ha0 : (0 : Int) ≤ a := by omega
  have hb0 : (0 : Int) ≤ b := by omega
  have hc0 : (0 : Int) ≤ c := by omega
  have ha1 : (a : Int) ≤ 17 := by omega
  have hb1 : (b : Int) ≤ 17 := by omega
  have hc1 : (c : Int) ≤ 17 := by omega
  obtain ⟨hs0, hs1, hs2⟩ : ¬ nms.length < a ∧ ¬ b < nms.length ∧ l.length = c := by
    unfold shapeBad at hsb
    rw [habc] at hsb
    simp at hsb
    omega
  have q0 : ¬ (nms.length : Int) < a := by omega
  have q1 : ¬ (b : Int) < nms.length := by omega
  have q2 : ((l.length : Int) == (c : Int)) = true := by rw [hs2, beq_iff_eq]
  have q2b : ((l.length : Int) != (c : Int)) = false := by rw [bne, q2]; rfl
  have HB1 := Lib.hid (new_at w (.cells #[.int .i64 7, .slice a1 nms.length c1, .int .i64 0, .int .i64 nn, .int .i64 mm, .slice a2 l.length c2] 30))
  have HU1 := Lib.hid hu1
  have hb := new_at w (.cells #[.int .i64 7, .slice a1 nms.length c1, .int .i64 0, .int .i64 nn, .int .i64 mm, .slice a2 l.length c2] 30)
  obtain ⟨y0, y1, y2, y3, y4, y5⟩ := cells6 hb

  rw [hall] at HCF
  have HBF := Lib.hid (new_at1 w (.cells #[.int .i64 7, .slice a1 nms.length c1, .int .i64 0, .int .i64 nn, .int .i64 mm, .slice a2 l.length c2] 30) (.cells #[.int .i64 a, .int .i64 b, .int .i64 c, .bool false] 100))
  have HU2 : Hid (Upto [] w ((w.alloc (.cells #[.int .i64 7, .slice a1 nms.length c1, .int .i64 0, .int .i64 nn, .int .i64 mm, .slice a2 l.length c2] 30)).alloc (.cells #[.int .i64 a, .int .i64 b, .int .i64 c, .bool false] 100))) := Lib.hid (hu1.alloc _)
  have HBO := Lib.hid (alloc_old hb (.cells #[.int .i64 a, .int .i64 b, .int .i64 c, .bool false] 100))
  have emm0 : (mm == (0 : Int)) = false := by rw [beq_eq_false_iff_ne]; exact hz
  have fmm0 : (mm != (0 : Int)) = true := by rw [bne, emm0]; rfl
  clear habc hsb hall h hs hg hu1 hnm ev hin hb hs2 he hf
  go_enter Tryd.func44, Tryd.ntmps44
  go_wp2_with fail
  refine (HCF.out _ HU2.out).mono ?_
  rintro e w5 ⟨rfl, hu5⟩
  have HU5 := Lib.hid (HU2.out.trans_ext hu5)
  have hb5 := hu5.at HBO.out (by simp)
  have hf5 := hu5.at HBF.out (by simp)
  have z0 := cell_of hb5 0
  have z1 := cell_of hb5 1
  have z2 := cell_of hb5 2
  have z3 := cell_of hb5 3
  have z4 := cell_of hb5 4
  have z5 := cell_of hb5 5
  have x3 := cell_of hf5 3
  simp only [List.getElem?_toArray, List.getElem?_cons_zero, List.getElem?_cons_succ] at z0 z1 z2 z3 z4 z5 x3
  clear hu5 hb5 hf5 y0 y1 y2 y3 y4 y5 t0 t1 t2 t3
  go_wp2_with fail
  go_ret
  exact ⟨rfl, HU5.out⟩

set_option maxRecDepth 100000 in
set_option maxHeartbeats 6400000 in
theorem has_7g (nn : Int) (nms : List (List UInt8)) (l : List Nd) (hin : inN 10000000 (.mk 7 nms 0 nn 0 l)) (v : Value) (w : World) (P : Nat → Prop) (h : NdV w P (.mk 7 nms 0 nn 0 l) v) (he : Env w) (hf : FEnv w) (hk0 : (0 : Int) ≤ 7) (_hk1 : (7 : Int) ≤ 17) (hsb : shapeBad 7 nms.length l.length = false) (hall : nms.all identF = true) : Calls Tryd.prog 44 #[v] w fun e w' => e = .returned (.bool true) ∧ Upto [] w w' := by
  obtain ⟨a1, c1, a2, c2, rfl, hs, hg⟩ := h.open
  unfold inN at hin
  obtain ⟨a1', c1', ev, hnm⟩ := hs.get
  obtain ⟨rfl, rfl⟩ : a1 = a1' ∧ c1 = c1' := by simpa using ev
  have hu1 : Upto [] w (w.alloc (.cells #[.int .i64 7, .slice a1 nms.length c1, .int .i64 0, .int .i64 nn, .int .i64 0, .slice a2 l.length c2] 30)) := (Upto.refl [] w).alloc _
  have hll := hin.2.2.1
  have hnl := hin.1
  have HCF := Lib.hid (fun u (hu : Upto [] w u) => containsf_calls nms a1 c1 u (he.ext hu) hnl hin.2.1 (fun i x hi => by
    obtain ⟨g, o, e1, e2⟩ := hnm i _ (by rw [List.getElem?_map, hi]; rfl)
    exact ⟨g, o, e1, (hu.cell (p := ⟨g, o + i, none⟩) (World.block_lt_of_cell? w _ e2) (by simp)).trans e2⟩))
  have hL0 : (0 : Int) ≤ l.length := by omega
  have hL1 : (l.length : Int) ≤ 10000000 := by omega
  have hN0 : (0 : Int) ≤ nms.length := by omega
  have hN1 : (nms.length : Int) ≤ 10000000 := by omega
  obtain ⟨a, b, c, habc, ha17, hb17, hc17⟩ : ∃ a b c : Nat, hasF 7 = (a, b, c) ∧ a ≤ 17 ∧ b ≤ 17 ∧ c ≤ 17 := by
    unfold hasF
    repeat' split
    all_goals exact ⟨_, _, _, rfl, by decide, by decide, by decide⟩
  obtain ⟨t0, t1, t2, t3⟩ := (hf.ext hu1).at_ 7 (by omega)
  try simp only [Nat.reduceMul, Nat.reduceAdd] at t0 t1 t2 t3
  rw [show hasF (7 : Nat) = (a, b, c) from habc] at t0 t1 t2
  simp only at t0 t1 t2
  have ha0 : (0 : Int) ≤ a := by omega
  have hb0 : (0 : Int) ≤ b := by omega
  have hc0 : (0 : Int) ≤ c := by omega
  have ha1 : (a : Int) ≤ 17 := by omega
  have hb1 : (b : Int) ≤ 17 := by omega
  have hc1 : (c : Int) ≤ 17 := by omega
  obtain ⟨hs0, hs1, hs2⟩ : ¬ nms.length < a ∧ ¬ b < nms.length ∧ l.length = c := by
    unfold shapeBad at hsb
    rw [habc] at hsb
    simp at hsb
    omega
  have q0 : ¬ (nms.length : Int) < a := by omega
  have q1 : ¬ (b : Int) < nms.length := by omega
  have q2 : ((l.length : Int) == (c : Int)) = true := by rw [hs2, beq_iff_eq]
  have q2b : ((l.length : Int) != (c : Int)) = false := by rw [bne, q2]; rfl
  have HB1 := Lib.hid (new_at w (.cells #[.int .i64 7, .slice a1 nms.length c1, .int .i64 0, .int .i64 nn, .int .i64 0, .slice a2 l.length c2] 30))
  have HU1 := Lib.hid hu1
  have hb := new_at w (.cells #[.int .i64 7, .slice a1 nms.length c1, .int .i64 0, .int .i64 nn, .int .i64 0, .slice a2 l.length c2] 30)
  obtain ⟨y0, y1, y2, y3, y4, y5⟩ := cells6 hb

  rw [hall] at HCF
  have HBF := Lib.hid (new_at1 w (.cells #[.int .i64 7, .slice a1 nms.length c1, .int .i64 0, .int .i64 nn, .int .i64 0, .slice a2 l.length c2] 30) (.cells #[.int .i64 a, .int .i64 b, .int .i64 c, .bool false] 100))
  have HU2 : Hid (Upto [] w ((w.alloc (.cells #[.int .i64 7, .slice a1 nms.length c1, .int .i64 0, .int .i64 nn, .int .i64 0, .slice a2 l.length c2] 30)).alloc (.cells #[.int .i64 a, .int .i64 b, .int .i64 c, .bool false] 100))) := Lib.hid (hu1.alloc _)
  have HBO := Lib.hid (alloc_old hb (.cells #[.int .i64 a, .int .i64 b, .int .i64 c, .bool false] 100))

  clear habc hsb hall h hs hg hu1 hnm ev hin hb hs2 he hf
  go_enter Tryd.func44, Tryd.ntmps44
  go_wp2_with fail
  refine (HCF.out _ HU2.out).mono ?_
  rintro e w5 ⟨rfl, hu5⟩
  have HU5 := Lib.hid (HU2.out.trans_ext hu5)
  have hb5 := hu5.at HBO.out (by simp)
  have hf5 := hu5.at HBF.out (by simp)
  have z0 := cell_of hb5 0
  have z1 := cell_of hb5 1
  have z2 := cell_of hb5 2
  have z3 := cell_of hb5 3
  have z4 := cell_of hb5 4
  have z5 := cell_of hb5 5
  have x3 := cell_of hf5 3
  simp only [List.getElem?_toArray, List.getElem?_cons_zero, List.getElem?_cons_succ] at z0 z1 z2 z3 z4 z5 x3
  clear hu5 hb5 hf5 y0 y1 y2 y3 y4 y5 t0 t1 t2 t3
  go_wp2_with fail
  go_ret
  exact ⟨rfl, HU5.out⟩

set_option maxRecDepth 100000 in
set_option maxHeartbeats 6400000 in
theorem has_8a (so nn mm : Int) (nms : List (List UInt8)) (l : List Nd) (hin : inN 10000000 (.mk 8 nms so nn mm l)) (v : Value) (w : World) (P : Nat → Prop) (h : NdV w P (.mk 8 nms so nn mm l) v) (he : Env w) (hf : FEnv w) (hk0 : (0 : Int) ≤ 8) (_hk1 : (8 : Int) ≤ 17) (hsb : shapeBad 8 nms.length l.length = false) (hall : nms.all identF = true) (hz : so ≠ 0) : Calls Tryd.prog 44 #[v] w fun e w' => e = .returned (.bool false) ∧ Upto [] w w' := by
  obtain ⟨a1, c1, a2, c2, rfl, hs, hg⟩ := h.open
  unfold inN at hin
  obtain ⟨a1', c1', ev, hnm⟩ := hs.get
  obtain ⟨rfl, rfl⟩ : a1 = a1' ∧ c1 = c1' := by simpa using ev
  have hu1 : Upto [] w (w.alloc (.cells #[.int .i64 8, .slice a1 nms.length c1, .int .i64 so, .int .i64 nn, .int .i64 mm, .slice a2 l.length c2] 30)) := (Upto.refl [] w).alloc _
  have hll := hin.2.2.1
  have hnl := hin.1
  have HCF := Lib.hid (fun u (hu : Upto [] w u) => containsf_calls nms a1 c1 u (he.ext hu) hnl hin.2.1 (fun i x hi => by
    obtain ⟨g, o, e1, e2⟩ := hnm i _ (by rw [List.getElem?_map, hi]; rfl)
    exact ⟨g, o, e1, (hu.cell (p := ⟨g, o + i, none⟩) (World.block_lt_of_cell? w _ e2) (by simp)).trans e2⟩))
  have hL0 : (0 : Int) ≤ l.length := by omega
  have hL1 : (l.length : Int) ≤ 10000000 := by omega
  have hN0 : (0 : Int) ≤ nms.length := by omega
  have hN1 : (nms.length : Int) ≤ 10000000 := by omega
  obtain ⟨a, b, c, habc, ha17, hb17, hc17⟩ : ∃ a b c : Nat, hasF 8 = (a, b, c) ∧ a ≤ 17 ∧ b ≤ 17 ∧ c ≤ 17 := by
    unfold hasF
    repeat' split
    all_goals exact ⟨_, _, _, rfl, by decide, by decide, by decide⟩
  obtain ⟨t0, t1, t2, t3⟩ := (hf.ext hu1).at_ 8 (by omega)
  try simp only [Nat.reduceMul, Nat.reduceAdd] at t0 t1 t2 t3
  rw [show hasF (8 : Nat) = (a, b, c) from habc] at t0 t1 t2
  simp only at t0 t1 t2
  have ha0 : (0 : Int) ≤ a := by omega
  have hb0 : (0 : Int) ≤ b := by omega
  have hc0 : (0 : Int) ≤ c := by omega
  have ha1 : (a : Int) ≤ 17 := by omega
  have hb1 : (b : Int) ≤ 17 := by omega
  have hc1 : (c : Int) ≤ 17 := by omega
  obtain ⟨hs0, hs1, hs2⟩ : ¬ nms.length < a ∧ ¬ b < nms.length ∧ l.length = c := by
    unfold shapeBad at hsb
    rw [habc] at hsb
    simp at hsb
    omega
  have q0 : ¬ (nms.length : Int) < a := by omega
  have q1 : ¬ (b : Int) < nms.length := by omega
  have q2 : ((l.length : Int) == (c : Int)) = true := by rw [hs2, beq_iff_eq]
  have q2b : ((l.length : Int) != (c : Int)) = false := by rw [bne, q2]; rfl
  have HB1 := Lib.hid (new_at w (.cells #[.int .i64 8, .slice a1 nms.length c1, .int .i64 so, .int .i64 nn, .int .i64 mm, .slice a2 l.length c2] 30))
  have HU1 := Lib.hid hu1
  have hb := new_at w (.cells #[.int .i64 8, .slice a1 nms.length c1, .int .i64 so, .int .i64 nn, .int .i64 mm, .slice a2 l.length c2] 30)
  obtain ⟨y0, y1, y2, y3, y4, y5⟩ := cells6 hb

  rw [hall] at HCF
  have HBF := Lib.hid (new_at1 w (.cells #[.int .i64 8, .slice a1 nms.length c1, .int .i64 so, .int .i64 nn, .int .i64 mm, .slice a2 l.length c2] 30) (.cells #[.int .i64 a, .int .i64 b, .int .i64 c, .bool false] 100))
  have HU2 : Hid (Upto [] w ((w.alloc (.cells #[.int .i64 8, .slice a1 nms.length c1, .int .i64 so, .int .i64 nn, .int .i64 mm, .slice a2 l.length c2] 30)).alloc (.cells #[.int .i64 a, .int .i64 b, .int .i64 c, .bool false] 100))) := Lib.hid (hu1.alloc _)
  have HBO := Lib.hid (alloc_old hb (.cells #[.int .i64 a, .int .i64 b, .int .i64 c, .bool false] 100))
  have eso0 : (so == (0 : Int)) = false := by rw [beq_eq_false_iff_ne]; exact hz
  have fso0 : (so != (0 : Int)) = true := by rw [bne, eso0]; rfl
  clear habc hsb hall h hs hg hu1 hnm ev hin hb hs2 he hf
  go_enter Tryd.func44, Tryd.ntmps44
  go_wp2_with fail
  refine (HCF.out _ HU2.out).mono ?_
  rintro e w5 ⟨rfl, hu5⟩
  have HU5 := Lib.hid (HU2.out.trans_ext hu5)
  have hb5 := hu5.at HBO.out (by simp)
  have hf5 := hu5.at HBF.out (by simp)
  have z0 := cell_of hb5 0
  have z1 := cell_of hb5 1
  have z2 := cell_of hb5 2
  have z3 := cell_of hb5 3
  have z4 := cell_of hb5 4
  have z5 := cell_of hb5 5
  have x3 := cell_of hf5 3
  simp only [List.getElem?_toArray, List.getElem?_cons_zero, List.getElem?_cons_succ] at z0 z1 z2 z3 z4 z5 x3
  clear hu5 hb5 hf5 y0 y1 y2 y3 y4 y5 t0 t1 t2 t3
  go_wp2_with fail
  go_ret
  exact ⟨rfl, HU5.out⟩

set_option maxRecDepth 100000 in
set_option maxHeartbeats 6400000 in
theorem has_8g (nn mm : Int) (nms : List (List UInt8)) (l : List Nd) (hin : inN 10000000 (.mk 8 nms 0 nn mm l)) (v : Value) (w : World) (P : Nat → Prop) (h : NdV w P (.mk 8 nms 0 nn mm l) v) (he : Env w) (hf : FEnv w) (hk0 : (0 : Int) ≤ 8) (_hk1 : (8 : Int) ≤ 17) (hsb : shapeBad 8 nms.length l.length = false) (hall : nms.all identF = true) : Calls Tryd.prog 44 #[v] w fun e w' => e = .returned (.bool true) ∧ Upto [] w w' := by
  obtain ⟨a1, c1, a2, c2, rfl, hs, hg⟩ := h.open
  unfold inN at hin
  obtain ⟨a1', c1', ev, hnm⟩ := hs.get
  obtain ⟨rfl, rfl⟩ : a1 = a1' ∧ c1 = c1' := by simpa using ev
  have hu1 : Upto [] w (w.alloc (.cells #[.int .i64 8, .slice a1 nms.length c1, .int .i64 0, .int .i64 nn, .int .i64 mm, .slice a2 l.length c2] 30)) := (Upto.refl [] w).alloc _
  have hll := hin.2.2.1
  have hnl := hin.1
  have HCF := Lib.hid (fun u (hu : Upto [] w u) => containsf_calls nms a1 c1 u (he.ext hu) hnl hin.2.1 (fun i x hi => by
    obtain ⟨g, o, e1, e2⟩ := hnm i _ (by rw [List.getElem?_map, hi]; rfl)
    exact ⟨g, o, e1, (hu.cell (p := ⟨g, o + i, none⟩) (World.block_lt_of_cell? w _ e2) (by simp)).trans e2⟩))
  have hL0 : (0 : Int) ≤ l.length := by omega
  have hL1 : (l.length : Int) ≤ 10000000 := by omega
  have hN0 : (0 : Int) ≤ nms.length := by omega
  have hN1 : (nms.length : Int) ≤ 10000000 := by omega
  obtain ⟨a, b, c, habc, ha17, hb17, hc17⟩ : ∃ a b c : Nat, hasF 8 = (a, b, c) ∧ a ≤ 17 ∧ b ≤ 17 ∧ c ≤ 17 := by
    unfold hasF
    repeat' split
    all_goals exact ⟨_, _, _, rfl, by decide, by decide, by decide⟩
  obtain ⟨t0, t1, t2, t3⟩ := (hf.ext hu1).at_ 8 (by omega)
  try simp only [Nat.reduceMul, Nat.reduceAdd] at t0 t1 t2 t3
  rw [show hasF (8 : Nat) = (a, b, c) from habc] at t0 t1 t2
  simp only at t0 t1 t2
  have ha0 : (0 : Int) ≤ a := by omega
  have hb0 : (0 : Int) ≤ b := by omega
  have hc0 : (0 : Int) ≤ c := by omega
  have ha1 : (a : Int) ≤ 17 := by omega
  have hb1 : (b : Int) ≤ 17 := by omega
  have hc1 : (c : Int) ≤ 17 := by omega
  obtain ⟨hs0, hs1, hs2⟩ : ¬ nms.length < a ∧ ¬ b < nms.length ∧ l.length = c := by
    unfold shapeBad at hsb
    rw [habc] at hsb
    simp at hsb
    omega
  have q0 : ¬ (nms.length : Int) < a := by omega
  have q1 : ¬ (b : Int) < nms.length := by omega
  have q2 : ((l.length : Int) == (c : Int)) = true := by rw [hs2, beq_iff_eq]
  have q2b : ((l.length : Int) != (c : Int)) = false := by rw [bne, q2]; rfl
  have HB1 := Lib.hid (new_at w (.cells #[.int .i64 8, .slice a1 nms.length c1, .int .i64 0, .int .i64 nn, .int .i64 mm, .slice a2 l.length c2] 30))
  have HU1 := Lib.hid hu1
  have hb := new_at w (.cells #[.int .i64 8, .slice a1 nms.length c1, .int .i64 0, .int .i64 nn, .int .i64 mm, .slice a2 l.length c2] 30)
  obtain ⟨y0, y1, y2, y3, y4, y5⟩ := cells6 hb

  rw [hall] at HCF
  have HBF := Lib.hid (new_at1 w (.cells #[.int .i64 8, .slice a1 nms.length c1, .int .i64 0, .int .i64 nn, .int .i64 mm, .slice a2 l.length c2] 30) (.cells #[.int .i64 a, .int .i64 b, .int .i64 c, .bool false] 100))
  have HU2 : Hid (Upto [] w ((w.alloc (.cells #[.int .i64 8, .slice a1 nms.length c1, .int .i64 0, .int .i64 nn, .int .i64 mm, .slice a2 l.length c2] 30)).alloc (.cells #[.int .i64 a, .int .i64 b, .int .i64 c, .bool false] 100))) := Lib.hid (hu1.alloc _)
  have HBO := Lib.hid (alloc_old hb (.cells #[.int .i64 a, .int .i64 b, .int .i64 c, .bool false] 100))

  clear habc hsb hall h hs hg hu1 hnm ev hin hb hs2 he hf
  go_enter Tryd.func44, Tryd.ntmps44
  go_wp2_with fail
  refine (HCF.out _ HU2.out).mono ?_
  rintro e w5 ⟨rfl, hu5⟩
  have HU5 := Lib.hid (HU2.out.trans_ext hu5)
  have hb5 := hu5.at HBO.out (by simp)
  have hf5 := hu5.at HBF.out (by simp)
  have z0 := cell_of hb5 0
  have z1 := cell_of hb5 1
  have z2 := cell_of hb5 2
  have z3 := cell_of hb5 3
  have z4 := cell_of hb5 4
  have z5 := cell_of hb5 5
  have x3 := cell_of hf5 3
  simp only [List.getElem?_toArray, List.getElem?_cons_zero, List.getElem?_cons_succ] at z0 z1 z2 z3 z4 z5 x3
  clear hu5 hb5 hf5 y0 y1 y2 y3 y4 y5 t0 t1 t2 t3
  go_wp2_with fail
  go_ret
  exact ⟨rfl, HU5.out⟩

set_option maxRecDepth 100000 in
set_option maxHeartbeats 6400000 in
theorem has_oa (k : Nat) (so nn mm : Int) (nms : List (List UInt8)) (l : List Nd) (hin : inN 10000000 (.mk (k : Int) nms so nn mm l)) (v : Value) (w : World) (P : Nat → Prop) (h : NdV w P (.mk (k : Int) nms so nn mm l) v) (he : Env w) (hf : FEnv w) (hk0 : (0 : Int) ≤ (k : Int)) (hk1 : ((k : Int) : Int) ≤ 17) (hsb : shapeBad (k : Int) nms.length l.length = false) (hall : nms.all identF = true) (o7 : (k : Int) ≠ 7) (o8 : (k : Int) ≠ 8) (o16 : k < 16) (hz : so ≠ 0) : Calls Tryd.prog 44 #[v] w fun e w' => e = .returned (.bool false) ∧ Upto [] w w' := by
  obtain ⟨a1, c1, a2, c2, rfl, hs, hg⟩ := h.open
  unfold inN at hin
  obtain ⟨a1', c1', ev, hnm⟩ := hs.get
  obtain ⟨rfl, rfl⟩ : a1 = a1' ∧ c1 = c1' := by simpa using ev
  have hu1 : Upto [] w (w.alloc (.cells #[.int .i64 (k : Int), .slice a1 nms.length c1, .int .i64 so, .int .i64 nn, .int .i64 mm, .slice a2 l.length c2] 30)) := (Upto.refl [] w).alloc _
  have hll := hin.2.2.1
  have hnl := hin.1
  have HCF := Lib.hid (fun u (hu : Upto [] w u) => containsf_calls nms a1 c1 u (he.ext hu) hnl hin.2.1 (fun i x hi => by
    obtain ⟨g, o, e1, e2⟩ := hnm i _ (by rw [List.getElem?_map, hi]; rfl)
    exact ⟨g, o, e1, (hu.cell (p := ⟨g, o + i, none⟩) (World.block_lt_of_cell? w _ e2) (by simp)).trans e2⟩))
  have hL0 : (0 : Int) ≤ l.length := by omega
  have hL1 : (l.length : Int) ≤ 10000000 := by omega
  have hN0 : (0 : Int) ≤ nms.length := by omega
  have hN1 : (nms.length : Int) ≤ 10000000 := by omega
  obtain ⟨a, b, c, habc, ha17, hb17, hc17⟩ : ∃ a b c : Nat, hasF (k : Int) = (a, b, c) ∧ a ≤ 17 ∧ b ≤ 17 ∧ c ≤ 17 := by
    unfold hasF
    repeat' split
    all_goals exact ⟨_, _, _, rfl, by decide, by decide, by decide⟩
  obtain ⟨t0, t1, t2, t3⟩ := (hf.ext hu1).at_ k (by omega)
  try simp only [Nat.reduceMul, Nat.reduceAdd] at t0 t1 t2 t3
  rw [show hasF (k : Nat) = (a, b, c) from habc] at t0 t1 t2
  simp only at t0 t1 t2
  have ha0 : (0 : Int) ≤ a := by omega
  have hb0 : (0 : Int) ≤ b := by omega
  have hc0 : (0 : Int) ≤ c := by omega
  have ha1 : (a : Int) ≤ 17 := by omega
  have hb1 : (b : Int) ≤ 17 := by omega
  have hc1 : (c : Int) ≤ 17 := by omega
  obtain ⟨hs0, hs1, hs2⟩ : ¬ nms.length < a ∧ ¬ b < nms.length ∧ l.length = c := by
    unfold shapeBad at hsb
    rw [habc] at hsb
    simp at hsb
    omega
  have q0 : ¬ (nms.length : Int) < a := by omega
  have q1 : ¬ (b : Int) < nms.length := by omega
  have q2 : ((l.length : Int) == (c : Int)) = true := by rw [hs2, beq_iff_eq]
  have q2b : ((l.length : Int) != (c : Int)) = false := by rw [bne, q2]; rfl
  have HB1 := Lib.hid (new_at w (.cells #[.int .i64 (k : Int), .slice a1 nms.length c1, .int .i64 so, .int .i64 nn, .int .i64 mm, .slice a2 l.length c2] 30))
  have HU1 := Lib.hid hu1
  have hb := new_at w (.cells #[.int .i64 (k : Int), .slice a1 nms.length c1, .int .i64 so, .int .i64 nn, .int .i64 mm, .slice a2 l.length c2] 30)
  obtain ⟨y0, y1, y2, y3, y4, y5⟩ := cells6 hb
  rw [show decide (16 ≤ k) = false from decide_eq_false (by omega)] at t3
  rw [hall] at HCF
  have HBF := Lib.hid (new_at1 w (.cells #[.int .i64 (k : Int), .slice a1 nms.length c1, .int .i64 so, .int .i64 nn, .int .i64 mm, .slice a2 l.length c2] 30) (.cells #[.int .i64 a, .int .i64 b, .int .i64 c, .bool false] 100))
  have HU2 : Hid (Upto [] w ((w.alloc (.cells #[.int .i64 (k : Int), .slice a1 nms.length c1, .int .i64 so, .int .i64 nn, .int .i64 mm, .slice a2 l.length c2] 30)).alloc (.cells #[.int .i64 a, .int .i64 b, .int .i64 c, .bool false] 100))) := Lib.hid (hu1.alloc _)
  have HBO := Lib.hid (alloc_old hb (.cells #[.int .i64 a, .int .i64 b, .int .i64 c, .bool false] 100))
  have e7 : ((k : Int) == (7 : Int)) = false := by rw [beq_eq_false_iff_ne]; exact o7
  have f7 : ((k : Int) != (7 : Int)) = true := by rw [bne, e7]; rfl
  have e8 : ((k : Int) == (8 : Int)) = false := by rw [beq_eq_false_iff_ne]; exact o8
  have f8 : ((k : Int) != (8 : Int)) = true := by rw [bne, e8]; rfl
  have eso0 : (so == (0 : Int)) = false := by rw [beq_eq_false_iff_ne]; exact hz
  have fso0 : (so != (0 : Int)) = true := by rw [bne, eso0]; rfl
  clear habc hsb hall h hs hg hu1 hnm ev hin hb hs2 he hf
  go_enter Tryd.func44, Tryd.ntmps44
  go_wp2_with fail
  refine (HCF.out _ HU2.out).mono ?_
  rintro e w5 ⟨rfl, hu5⟩
  have HU5 := Lib.hid (HU2.out.trans_ext hu5)
  have hb5 := hu5.at HBO.out (by simp)
  have hf5 := hu5.at HBF.out (by simp)
  have z0 := cell_of hb5 0
  have z1 := cell_of hb5 1
  have z2 := cell_of hb5 2
  have z3 := cell_of hb5 3
  have z4 := cell_of hb5 4
  have z5 := cell_of hb5 5
  have x3 := cell_of hf5 3
  simp only [List.getElem?_toArray, List.getElem?_cons_zero, List.getElem?_cons_succ] at z0 z1 z2 z3 z4 z5 x3
  clear hu5 hb5 hf5 y0 y1 y2 y3 y4 y5 t0 t1 t2 t3
  go_wp2_with fail
  go_ret
  exact ⟨rfl, HU5.out⟩

set_option maxRecDepth 100000 in
set_option maxHeartbeats 6400000 in
theorem has_ob (k : Nat) (nn mm : Int) (nms : List (List UInt8)) (l : List Nd) (hin : inN 10000000 (.mk (k : Int) nms 0 nn mm l)) (v : Value) (w : World) (P : Nat → Prop) (h : NdV w P (.mk (k : Int) nms 0 nn mm l) v) (he : Env w) (hf : FEnv w) (hk0 : (0 : Int) ≤ (k : Int)) (hk1 : ((k : Int) : Int) ≤ 17) (hsb : shapeBad (k : Int) nms.length l.length = false) (hall : nms.all identF = true) (o7 : (k : Int) ≠ 7) (o8 : (k : Int) ≠ 8) (o16 : k < 16) (hz : nn ≠ 0) : Calls Tryd.prog 44 #[v] w fun e w' => e = .returned (.bool false) ∧ Upto [] w w' := by
  obtain ⟨a1, c1, a2, c2, rfl, hs, hg⟩ := h.open
  unfold inN at hin
  obtain ⟨a1', c1', ev, hnm⟩ := hs.get
  obtain ⟨rfl, rfl⟩ : a1 = a1' ∧ c1 = c1' := by simpa using ev
  have hu1 : Upto [] w (w.alloc (.cells #[.int .i64 (k : Int), .slice a1 nms.length c1, .int .i64 0, .int .i64 nn, .int .i64 mm, .slice a2 l.length c2] 30)) := (Upto.refl [] w).alloc _
  have hll := hin.2.2.1
  have hnl := hin.1
  have HCF := Lib.hid (fun u (hu : Upto [] w u) => containsf_calls nms a1 c1 u (he.ext hu) hnl hin.2.1 (fun i x hi => by
    obtain ⟨g, o, e1, e2⟩ := hnm i _ (by rw [List.getElem?_map, hi]; rfl)
    exact ⟨g, o, e1, (hu.cell (p := ⟨g, o + i, none⟩) (World.block_lt_of_cell? w _ e2) (by simp)).trans e2⟩))
  have hL0 : (0 : Int) ≤ l.length := by omega
  have hL1 : (l.length : Int) ≤ 10000000 := by omega
  have hN0 : (0 : Int) ≤ nms.length := by omega
  have hN1 : (nms.length : Int) ≤ 10000000 := by omega
  obtain ⟨a, b, c, habc, ha17, hb17, hc17⟩ : ∃ a b c : Nat, hasF (k : Int) = (a, b, c) ∧ a ≤ 17 ∧ b ≤ 17 ∧ c ≤ 17 := by
    unfold hasF
    repeat' split
    all_goals exact ⟨_, _, _, rfl, by decide, by decide, by decide⟩
  obtain ⟨t0, t1, t2, t3⟩ := (hf.ext hu1).at_ k (by omega)
  try simp only [Nat.reduceMul, Nat.reduceAdd] at t0 t1 t2 t3
  rw [show hasF (k : Nat) = (a, b, c) from habc] at t0 t1 t2
  simp only at t0 t1 t2
  have ha0 : (0 : Int) ≤ a := by omega
  have hb0 : (0 : Int) ≤ b := by omega
  have hc0 : (0 : Int) ≤ c := by omega
  have ha1 : (a : Int) ≤ 17 := by omega
  have hb1 : (b : Int) ≤ 17 := by omega
  have hc1 : (c : Int) ≤ 17 := by omega
  obtain ⟨hs0, hs1, hs2⟩ : ¬ nms.length < a ∧ ¬ b < nms.length ∧ l.length = c := by
    unfold shapeBad at hsb
    rw [habc] at hsb
    simp at hsb
    omega
  have q0 : ¬ (nms.length : Int) < a := by omega
  have q1 : ¬ (b : Int) < nms.length := by omega
  have q2 : ((l.length : Int) == (c : Int)) = true := by rw [hs2, beq_iff_eq]
  have q2b : ((l.length : Int) != (c : Int)) = false := by rw [bne, q2]; rfl
  have HB1 := Lib.hid (new_at w (.cells #[.int .i64 (k : Int), .slice a1 nms.length c1, .int .i64 0, .int .i64 nn, .int .i64 mm, .slice a2 l.length c2] 30))
  have HU1 := Lib.hid hu1
  have hb := new_at w (.cells #[.int .i64 (k : Int), .slice a1 nms.length c1, .int .i64 0, .int .i64 nn, .int .i64 mm, .slice a2 l.length c2] 30)
  obtain ⟨y0, y1, y2, y3, y4, y5⟩ := cells6 hb
  rw [show decide (16 ≤ k) = false from decide_eq_false (by omega)] at t3
  rw [hall] at HCF
  have HBF := Lib.hid (new_at1 w (.cells #[.int .i64 (k : Int), .slice a1 nms.length c1, .int .i64 0, .int .i64 nn, .int .i64 mm, .slice a2 l.length c2] 30) (.cells #[.int .i64 a, .int .i64 b, .int .i64 c, .bool false] 100))
  have HU2 : Hid (Upto [] w ((w.alloc (.cells #[.int .i64 (k : Int), .slice a1 nms.length c1, .int .i64 0, .int .i64 nn, .int .i64 mm, .slice a2 l.length c2] 30)).alloc (.cells #[.int .i64 a, .int .i64 b, .int .i64 c, .bool false] 100))) := Lib.hid (hu1.alloc _)
  have HBO := Lib.hid (alloc_old hb (.cells #[.int .i64 a, .int .i64 b, .int .i64 c, .bool false] 100))
  have e7 : ((k : Int) == (7 : Int)) = false := by rw [beq_eq_false_iff_ne]; exact o7
  have f7 : ((k : Int) != (7 : Int)) = true := by rw [bne, e7]; rfl
  have e8 : ((k : Int) == (8 : Int)) = false := by rw [beq_eq_false_iff_ne]; exact o8
  have f8 : ((k : Int) != (8 : Int)) = true := by rw [bne, e8]; rfl
  have enn0 : (nn == (0 : Int)) = false := by rw [beq_eq_false_iff_ne]; exact hz
  have fnn0 : (nn != (0 : Int)) = true := by rw [bne, enn0]; rfl
  clear habc hsb hall h hs hg hu1 hnm ev hin hb hs2 he hf
  go_enter Tryd.func44, Tryd.ntmps44
  go_wp2_with fail
  refine (HCF.out _ HU2.out).mono ?_
  rintro e w5 ⟨rfl, hu5⟩
  have HU5 := Lib.hid (HU2.out.trans_ext hu5)
  have hb5 := hu5.at HBO.out (by simp)
  have hf5 := hu5.at HBF.out (by simp)
  have z0 := cell_of hb5 0
  have z1 := cell_of hb5 1
  have z2 := cell_of hb5 2
  have z3 := cell_of hb5 3
  have z4 := cell_of hb5 4
  have z5 := cell_of hb5 5
  have x3 := cell_of hf5 3
  simp only [List.getElem?_toArray, List.getElem?_cons_zero, List.getElem?_cons_succ] at z0 z1 z2 z3 z4 z5 x3
  clear hu5 hb5 hf5 y0 y1 y2 y3 y4 y5 t0 t1 t2 t3
  go_wp2_with fail
  go_ret
  exact ⟨rfl, HU5.out⟩

set_option maxRecDepth 100000 in
set_option maxHeartbeats 6400000 in
theorem has_oc (k : Nat) (mm : Int) (nms : List (List UInt8)) (l : List Nd) (hin : inN 10000000 (.mk (k : Int) nms 0 0 mm l)) (v : Value) (w : World) (P : Nat → Prop) (h : NdV w P (.mk (k : Int) nms 0 0 mm l) v) (he : Env w) (hf : FEnv w) (hk0 : (0 : Int) ≤ (k : Int)) (hk1 : ((k : Int) : Int) ≤ 17) (hsb : shapeBad (k : Int) nms.length l.length = false) (hall : nms.all identF = true) (o7 : (k : Int) ≠ 7) (o8 : (k : Int) ≠ 8) (o16 : k < 16) (hz : mm ≠ 0) : Calls Tryd.prog 44 #[v] w fun e w' => e = .returned (.bool false) ∧ Upto [] w w' := by
  obtain ⟨a1, c1, a2, c2, rfl, hs, hg⟩ := h.open
  unfold inN at hin
  obtain ⟨a1', c1', ev, hnm⟩ := hs.get
  obtain ⟨rfl, rfl⟩ : a1 = a1' ∧ c1 = c1' := by simpa using ev
  have hu1 : Upto [] w (w.alloc (.cells #[.int .i64 (k : Int), .slice a1 nms.length c1, .int .i64 0, .int .i64 0, .int .i64 mm, .slice a2 l.length c2] 30)) := (Upto.refl [] w).alloc _
  have hll := hin.2.2.1
  have hnl := hin.1
  have HCF := Lib.hid (fun u (hu : Upto [] w u) => containsf_calls nms a1 c1 u (he.ext hu) hnl hin.2.1 (fun i x hi => by
    obtain ⟨g, o, e1, e2⟩ := hnm i _ (by rw [List.getElem?_map, hi]; rfl)
    exact ⟨g, o, e1, (hu.cell (p := ⟨g, o + i, none⟩) (World.block_lt_of_cell? w _ e2) (by simp)).trans e2⟩))
  have hL0 : (0 : Int) ≤ l.length := by omega
  have hL1 : (l.length : Int) ≤ 10000000 := by omega
  have hN0 : (0 : Int) ≤ nms.length := by omega
  have hN1 : (nms.length : Int) ≤ 10000000 := by omega
  obtain ⟨a, b, c, habc, ha17, hb17, hc17⟩ : ∃ a b c : Nat, hasF (k : Int) = (a, b, c) ∧ a ≤ 17 ∧ b ≤ 17 ∧ c ≤ 17 := by
    unfold hasF
    repeat' split
    all_goals exact ⟨_, _, _, rfl, by decide, by decide, by decide⟩
  obtain ⟨t0, t1, t2, t3⟩ := (hf.ext hu1).at_ k (by omega)
  try simp only [Nat.reduceMul, Nat.reduceAdd] at t0 t1 t2 t3
  rw [show hasF (k : Nat) = (a, b, c) from habc] at t0 t1 t2
  simp only at t0 t1 t2
  have ha0 : (0 : Int) ≤ a := by omega
  have hb0 : (0 : Int) ≤ b := by omega
  have hc0 : (0 : Int) ≤ c := by omega
  have ha1 : (a : Int) ≤ 17 := by omega
  have hb1 : (b : Int) ≤ 17 := by omega
  have hc1 : (c : Int) ≤ 17 := by omega
  obtain ⟨hs0, hs1, hs2⟩ : ¬ nms.length < a ∧ ¬ b < nms.length ∧ l.length = c := by
    unfold shapeBad at hsb
    rw [habc] at hsb
    simp at hsb
    omega
  have q0 : ¬ (nms.length : Int) < a := by omega
  have q1 : ¬ (b : Int) < nms.length := by omega
  have q2 : ((l.length : Int) == (c : Int)) = true := by rw [hs2, beq_iff_eq]
  have q2b : ((l.length : Int) != (c : Int)) = false := by rw [bne, q2]; rfl
  have HB1 := Lib.hid (new_at w (.cells #[.int .i64 (k : Int), .slice a1 nms.length c1, .int .i64 0, .int .i64 0, .int .i64 mm, .slice a2 l.length c2] 30))
  have HU1 := Lib.hid hu1
  have hb := new_at w (.cells #[.int .i64 (k : Int), .slice a1 nms.length c1, .int .i64 0, .int .i64 0, .int .i64 mm, .slice a2 l.length c2] 30)
  obtain ⟨y0, y1, y2, y3, y4, y5⟩ := cells6 hb
  rw [show decide (16 ≤ k) = false from decide_eq_false (by omega)] at t3
  rw [hall] at HCF
  have HBF := Lib.hid (new_at1 w (.cells #[.int .i64 (k : Int), .slice a1 nms.length c1, .int .i64 0, .int .i64 0, .int .i64 mm, .slice a2 l.length c2] 30) (.cells #[.int .i64 a, .int .i64 b, .int .i64 c, .bool false] 100))
  have HU2 : Hid (Upto [] w ((w.alloc (.cells #[.int .i64 (k : Int), .slice a1 nms.length c1, .int .i64 0, .int .i64 0, .int .i64 mm, .slice a2 l.length c2] 30)).alloc (.cells #[.int .i64 a, .int .i64 b, .int .i64 c, .bool false] 100))) := Lib.hid (hu1.alloc _)
  have HBO := Lib.hid (alloc_old hb (.cells #[.int .i64 a, .int .i64 b, .int .i64 c, .bool false] 100))
  have e7 : ((k : Int) == (7 : Int)) = false := by rw [beq_eq_false_iff_ne]; exact o7
  have f7 : ((k : Int) != (7 : Int)) = true := by rw [bne, e7]; rfl
  have e8 : ((k : Int) == (8 : Int)) = false := by rw [beq_eq_false_iff_ne]; exact o8
  have f8 : ((k : Int) != (8 : Int)) = true := by rw [bne, e8]; rfl
  have emm0 : (mm == (0 : Int)) = false := by rw [beq_eq_false_iff_ne]; exact hz
  have fmm0 : (mm != (0 : Int)) = true := by rw [bne, emm0]; rfl
  clear habc hsb hall h hs hg hu1 hnm ev hin hb hs2 he hf
  go_enter Tryd.func44, Tryd.ntmps44
  go_wp2_with fail
  refine (HCF.out _ HU2.out).mono ?_
  rintro e w5 ⟨rfl, hu5⟩
  have HU5 := Lib.hid (HU2.out.trans_ext hu5)
  have hb5 := hu5.at HBO.out (by simp)
  have hf5 := hu5.at HBF.out (by simp)
  have z0 := cell_of hb5 0
  have z1 := cell_of hb5 1
  have z2 := cell_of hb5 2
  have z3 := cell_of hb5 3
  have z4 := cell_of hb5 4
  have z5 := cell_of hb5 5
  have x3 := cell_of hf5 3
  simp only [List.getElem?_toArray, List.getElem?_cons_zero, List.getElem?_cons_succ] at z0 z1 z2 z3 z4 z5 x3
  clear hu5 hb5 hf5 y0 y1 y2 y3 y4 y5 t0 t1 t2 t3
  go_wp2_with fail
  go_ret
  exact ⟨rfl, HU5.out⟩

set_option maxRecDepth 100000 in
set_option maxHeartbeats 6400000 in
theorem has_og (k : Nat) (nms : List (List UInt8)) (l : List Nd) (hin : inN 10000000 (.mk (k : Int) nms 0 0 0 l)) (v : Value) (w : World) (P : Nat → Prop) (h : NdV w P (.mk (k : Int) nms 0 0 0 l) v) (he : Env w) (hf : FEnv w) (hk0 : (0 : Int) ≤ (k : Int)) (hk1 : ((k : Int) : Int) ≤ 17) (hsb : shapeBad (k : Int) nms.length l.length = false) (hall : nms.all identF = true) (o7 : (k : Int) ≠ 7) (o8 : (k : Int) ≠ 8) (o16 : k < 16) : Calls Tryd.prog 44 #[v] w fun e w' => e = .returned (.bool true) ∧ Upto [] w w' := by
  obtain ⟨a1, c1, a2, c2, rfl, hs, hg⟩ := h.open
  unfold inN at hin
  obtain ⟨a1', c1', ev, hnm⟩ := hs.get
  obtain ⟨rfl, rfl⟩ : a1 = a1' ∧ c1 = c1' := by simpa using ev
  have hu1 : Upto [] w (w.alloc (.cells #[.int .i64 (k : Int), .slice a1 nms.length c1, .int .i64 0, .int .i64 0, .int .i64 0, .slice a2 l.length c2] 30)) := (Upto.refl [] w).alloc _
  have hll := hin.2.2.1
  have hnl := hin.1
  have HCF := Lib.hid (fun u (hu : Upto [] w u) => containsf_calls nms a1 c1 u (he.ext hu) hnl hin.2.1 (fun i x hi => by
    obtain ⟨g, o, e1, e2⟩ := hnm i _ (by rw [List.getElem?_map, hi]; rfl)
    exact ⟨g, o, e1, (hu.cell (p := ⟨g, o + i, none⟩) (World.block_lt_of_cell? w _ e2) (by simp)).trans e2⟩))
  have hL0 : (0 : Int) ≤ l.length := by omega
  have hL1 : (l.length : Int) ≤ 10000000 := by omega
  have hN0 : (0 : Int) ≤ nms.length := by omega
  have hN1 : (nms.length : Int) ≤ 10000000 := by omega
  obtain ⟨a, b, c, habc, ha17, hb17, hc17⟩ : ∃ a b c : Nat, hasF (k : Int) = (a, b, c) ∧ a ≤ 17 ∧ b ≤ 17 ∧ c ≤ 17 := by
    unfold hasF
    repeat' split
    all_goals exact ⟨_, _, _, rfl, by decide, by decide, by decide⟩
  obtain ⟨t0, t1, t2, t3⟩ := (hf.ext hu1).at_ k (by omega)
  try simp only [Nat.reduceMul, Nat.reduceAdd] at t0 t1 t2 t3
  rw [show hasF (k : Nat) = (a, b, c) from habc] at t0 t1 t2
  simp only at t0 t1 t2
  have ha0 : (0 : Int) ≤ a := by omega
  have hb0 : (0 : Int) ≤ b := by omega
  have hc0 : (0 : Int) ≤ c := by omega
  have ha1 : (a : Int) ≤ 17 := by omega
  have hb1 : (b : Int) ≤ 17 := by omega
  have hc1 : (c : Int) ≤ 17 := by omega
  obtain ⟨hs0, hs1, hs2⟩ : ¬ nms.length < a ∧ ¬ b < nms.length ∧ l.length = c := by
    unfold shapeBad at hsb
    rw [habc] at hsb
    simp at hsb
    omega
  have q0 : ¬ (nms.length : Int) < a := by omega
  have q1 : ¬ (b : Int) < nms.length := by omega
  have q2 : ((l.length : Int) == (c : Int)) = true := by rw [hs2, beq_iff_eq]
  have q2b : ((l.length : Int) != (c : Int)) = false := by rw [bne, q2]; rfl
  have HB1 := Lib.hid (new_at w (.cells #[.int .i64 (k : Int), .slice a1 nms.length c1, .int .i64 0, .int .i64 0, .int .i64 0, .slice a2 l.length c2] 30))
  have HU1 := Lib.hid hu1
  have hb := new_at w (.cells #[.int .i64 (k : Int), .slice a1 nms.length c1, .int .i64 0, .int .i64 0, .int .i64 0, .slice a2 l.length c2] 30)
  obtain ⟨y0, y1, y2, y3, y4, y5⟩ := cells6 hb
  rw [show decide (16 ≤ k) = false from decide_eq_false (by omega)] at t3
  rw [hall] at HCF
  have HBF := Lib.hid (new_at1 w (.cells #[.int .i64 (k : Int), .slice a1 nms.length c1, .int .i64 0, .int .i64 0, .int .i64 0, .slice a2 l.length c2] 30) (.cells #[.int .i64 a, .int .i64 b, .int .i64 c, .bool false] 100))
  have HU2 : Hid (Upto [] w ((w.alloc (.cells #[.int .i64 (k : Int), .slice a1 nms.length c1, .int .i64 0, .int .i64 0, .int .i64 0, .slice a2 l.length c2] 30)).alloc (.cells #[.int .i64 a, .int .i64 b, .int .i64 c, .bool false] 100))) := Lib.hid (hu1.alloc _)
  have HBO := Lib.hid (alloc_old hb (.cells #[.int .i64 a, .int .i64 b, .int .i64 c, .bool false] 100))
  have e7 : ((k : Int) == (7 : Int)) = false := by rw [beq_eq_false_iff_ne]; exact o7
  have f7 : ((k : Int) != (7 : Int)) = true := by rw [bne, e7]; rfl
  have e8 : ((k : Int) == (8 : Int)) = false := by rw [beq_eq_false_iff_ne]; exact o8
  have f8 : ((k : Int) != (8 : Int)) = true := by rw [bne, e8]; rfl
  clear habc hsb hall h hs hg hu1 hnm ev hin hb hs2 he hf
  go_enter Tryd.func44, Tryd.ntmps44
  go_wp2_with fail
  refine (HCF.out _ HU2.out).mono ?_
  rintro e w5 ⟨rfl, hu5⟩
  have HU5 := Lib.hid (HU2.out.trans_ext hu5)
  have hb5 := hu5.at HBO.out (by simp)
  have hf5 := hu5.at HBF.out (by simp)
  have z0 := cell_of hb5 0
  have z1 := cell_of hb5 1
  have z2 := cell_of hb5 2
  have z3 := cell_of hb5 3
  have z4 := cell_of hb5 4
  have z5 := cell_of hb5 5
  have x3 := cell_of hf5 3
  simp only [List.getElem?_toArray, List.getElem?_cons_zero, List.getElem?_cons_succ] at z0 z1 z2 z3 z4 z5 x3
  clear hu5 hb5 hf5 y0 y1 y2 y3 y4 y5 t0 t1 t2 t3
  go_wp2_with fail
  go_ret
  exact ⟨rfl, HU5.out⟩

set_option maxRecDepth 100000 in
set_option maxHeartbeats 6400000 in
theorem has_hb (k : Nat) (so nn mm : Int) (nms : List (List UInt8)) (l : List Nd) (hin : inN 10000000 (.mk (k : Int) nms so nn mm l)) (v : Value) (w : World) (P : Nat → Prop) (h : NdV w P (.mk (k : Int) nms so nn mm l) v) (he : Env w) (hf : FEnv w) (hk0 : (0 : Int) ≤ (k : Int)) (hk1 : ((k : Int) : Int) ≤ 17) (hsb : shapeBad (k : Int) nms.length l.length = false) (hall : nms.all identF = true) (o7 : (k : Int) ≠ 7) (o8 : (k : Int) ≠ 8) (o16 : ¬ k < 16) (hz : nn ≠ 0) : Calls Tryd.prog 44 #[v] w fun e w' => e = .returned (.bool false) ∧ Upto [] w w' := by
  obtain ⟨a1, c1, a2, c2, rfl, hs, hg⟩ := h.open
  unfold inN at hin
  obtain ⟨a1', c1', ev, hnm⟩ := hs.get
  obtain ⟨rfl, rfl⟩ : a1 = a1' ∧ c1 = c1' := by simpa using ev
  have hu1 : Upto [] w (w.alloc (.cells #[.int .i64 (k : Int), .slice a1 nms.length c1, .int .i64 so, .int .i64 nn, .int .i64 mm, .slice a2 l.length c2] 30)) := (Upto.refl [] w).alloc _
  have hll := hin.2.2.1
  have hnl := hin.1
  have HCF := Lib.hid (fun u (hu : Upto [] w u) => containsf_calls nms a1 c1 u (he.ext hu) hnl hin.2.1 (fun i x hi => by
    obtain ⟨g, o, e1, e2⟩ := hnm i _ (by rw [List.getElem?_map, hi]; rfl)
    exact ⟨g, o, e1, (hu.cell (p := ⟨g, o + i, none⟩) (World.block_lt_of_cell? w _ e2) (by simp)).trans e2⟩))
  have hL0 : (0 : Int) ≤ l.length := by omega
  have hL1 : (l.length : Int) ≤ 10000000 := by omega
  have hN0 : (0 : Int) ≤ nms.length := by omega
  have hN1 : (nms.length : Int) ≤ 10000000 := by omega
  obtain ⟨a, b, c, habc, ha17, hb17, hc17⟩ : ∃ a b c : Nat, hasF (k : Int) = (a, b, c) ∧ a ≤ 17 ∧ b ≤ 17 ∧ c ≤ 17 := by
    unfold hasF
    repeat' split
    all_goals exact ⟨_, _, _, rfl, by decide, by decide, by decide⟩
  obtain ⟨t0, t1, t2, t3⟩ := (hf.ext hu1).at_ k (by omega)
  try simp only [Nat.reduceMul, Nat.reduceAdd] at t0 t1 t2 t3
  rw [show hasF (k : Nat) = (a, b, c) from habc] at t0 t1 t2
  simp only at t0 t1 t2
  have ha0 : (0 : Int) ≤ a := by omega
  have hb0 : (0 : Int) ≤ b := by omega
  have hc0 : (0 : Int) ≤ c := by omega
  have ha1 : (a : Int) ≤ 17 := by omega
  have hb1 : (b : Int) ≤ 17 := by omega
  have hc1 : (c : Int) ≤ 17 := by omega
  obtain ⟨hs0, hs1, hs2⟩ : ¬ nms.length < a ∧ ¬ b < nms.length ∧ l.length = c := by
    unfold shapeBad at hsb
    rw [habc] at hsb
    simp at hsb
    omega
  have q0 : ¬ (nms.length : Int) < a := by omega
  have q1 : ¬ (b : Int) < nms.length := by omega
  have q2 : ((l.length : Int) == (c : Int)) = true := by rw [hs2, beq_iff_eq]
  have q2b : ((l.length : Int) != (c : Int)) = false := by rw [bne, q2]; rfl
  have HB1 := Lib.hid (new_at w (.cells #[.int .i64 (k : Int), .slice a1 nms.length c1, .int .i64 so, .int .i64 nn, .int .i64 mm, .slice a2 l.length c2] 30))
  have HU1 := Lib.hid hu1
  have hb := new_at w (.cells #[.int .i64 (k : Int), .slice a1 nms.length c1, .int .i64 so, .int .i64 nn, .int .i64 mm, .slice a2 l.length c2] 30)
  obtain ⟨y0, y1, y2, y3, y4, y5⟩ := cells6 hb
  rw [show decide (16 ≤ k) = true from decide_eq_true (by omega)] at t3
  rw [hall] at HCF
  have HBF := Lib.hid (new_at1 w (.cells #[.int .i64 (k : Int), .slice a1 nms.length c1, .int .i64 so, .int .i64 nn, .int .i64 mm, .slice a2 l.length c2] 30) (.cells #[.int .i64 a, .int .i64 b, .int .i64 c, .bool true] 100))
  have HU2 : Hid (Upto [] w ((w.alloc (.cells #[.int .i64 (k : Int), .slice a1 nms.length c1, .int .i64 so, .int .i64 nn, .int .i64 mm, .slice a2 l.length c2] 30)).alloc (.cells #[.int .i64 a, .int .i64 b, .int .i64 c, .bool true] 100))) := Lib.hid (hu1.alloc _)
  have HBO := Lib.hid (alloc_old hb (.cells #[.int .i64 a, .int .i64 b, .int .i64 c, .bool true] 100))
  have e7 : ((k : Int) == (7 : Int)) = false := by rw [beq_eq_false_iff_ne]; exact o7
  have f7 : ((k : Int) != (7 : Int)) = true := by rw [bne, e7]; rfl
  have e8 : ((k : Int) == (8 : Int)) = false := by rw [beq_eq_false_iff_ne]; exact o8
  have f8 : ((k : Int) != (8 : Int)) = true := by rw [bne, e8]; rfl
  have enn0 : (nn == (0 : Int)) = false := by rw [beq_eq_false_iff_ne]; exact hz
  have fnn0 : (nn != (0 : Int)) = true := by rw [bne, enn0]; rfl
  clear habc hsb hall h hs hg hu1 hnm ev hin hb hs2 he hf
  go_enter Tryd.func44, Tryd.ntmps44
  go_wp2_with fail
  refine (HCF.out _ HU2.out).mono ?_
  rintro e w5 ⟨rfl, hu5⟩
  have HU5 := Lib.hid (HU2.out.trans_ext hu5)
  have hb5 := hu5.at HBO.out (by simp)
  have hf5 := hu5.at HBF.out (by simp)
  have z0 := cell_of hb5 0
  have z1 := cell_of hb5 1
  have z2 := cell_of hb5 2
  have z3 := cell_of hb5 3
  have z4 := cell_of hb5 4
  have z5 := cell_of hb5 5
  have x3 := cell_of hf5 3
  simp only [List.getElem?_toArray, List.getElem?_cons_zero, List.getElem?_cons_succ] at z0 z1 z2 z3 z4 z5 x3
  clear hu5 hb5 hf5 y0 y1 y2 y3 y4 y5 t0 t1 t2 t3
  go_wp2_with fail
  go_ret
  exact ⟨rfl, HU5.out⟩

set_option maxRecDepth 100000 in
set_option maxHeartbeats 6400000 in
theorem has_hc (k : Nat) (so mm : Int) (nms : List (List UInt8)) (l : List Nd) (hin : inN 10000000 (.mk (k : Int) nms so 0 mm l)) (v : Value) (w : World) (P : Nat → Prop) (h : NdV w P (.mk (k : Int) nms so 0 mm l) v) (he : Env w) (hf : FEnv w) (hk0 : (0 : Int) ≤ (k : Int)) (hk1 : ((k : Int) : Int) ≤ 17) (hsb : shapeBad (k : Int) nms.length l.length = false) (hall : nms.all identF = true) (o7 : (k : Int) ≠ 7) (o8 : (k : Int) ≠ 8) (o16 : ¬ k < 16) (hz : mm ≠ 0) : Calls Tryd.prog 44 #[v] w fun e w' => e = .returned (.bool false) ∧ Upto [] w w' := by
  obtain ⟨a1, c1, a2, c2, rfl, hs, hg⟩ := h.open
  unfold inN at hin
  obtain ⟨a1', c1', ev, hnm⟩ := hs.get
  obtain ⟨rfl, rfl⟩ : a1 = a1' ∧ c1 = c1' := by simpa using ev
  have hu1 : Upto [] w (w.alloc (.cells #[.int .i64 (k : Int), .slice a1 nms.length c1, .int .i64 so, .int .i64 0, .int .i64 mm, .slice a2 l.length c2] 30)) := (Upto.refl [] w).alloc _
  have hll := hin.2.2.1
  have hnl := hin.1
  have HCF := Lib.hid (fun u (hu : Upto [] w u) => containsf_calls nms a1 c1 u (he.ext hu) hnl hin.2.1 (fun i x hi => by
    obtain ⟨g, o, e1, e2⟩ := hnm i _ (by rw [List.getElem?_map, hi]; rfl)
    exact ⟨g, o, e1, (hu.cell (p := ⟨g, o + i, none⟩) (World.block_lt_of_cell? w _ e2) (by simp)).trans e2⟩))
  have hL0 : (0 : Int) ≤ l.length := by omega
  have hL1 : (l.length : Int) ≤ 10000000 := by omega
  have hN0 : (0 : Int) ≤ nms.length := by omega
  have hN1 : (nms.length : Int) ≤ 10000000 := by omega
  obtain ⟨a, b, c, habc, ha17, hb17, hc17⟩ : ∃ a b c : Nat, hasF (k : Int) = (a, b, c) ∧ a ≤ 17 ∧ b ≤ 17 ∧ c ≤ 17 := by
    unfold hasF
    repeat' split
    all_goals exact ⟨_, _, _, rfl, by decide, by decide, by decide⟩
  obtain ⟨t0, t1, t2, t3⟩ := (hf.ext hu1).at_ k (by omega)
  try simp only [Nat.reduceMul, Nat.reduceAdd] at t0 t1 t2 t3
  rw [show hasF (k : Nat) = (a, b, c) from habc] at t0 t1 t2
  simp only at t0 t1 t2
  have ha0 : (0 : Int) ≤ a := by omega
  have hb0 : (0 : Int) ≤ b := by omega
  have hc0 : (0 : Int) ≤ c := by omega
  have ha1 : (a : Int) ≤ 17 := by omega
  have hb1 : (b : Int) ≤ 17 := by omega
  have hc1 : (c : Int) ≤ 17 := by omega
  obtain ⟨hs0, hs1, hs2⟩ : ¬ nms.length < a ∧ ¬ b < nms.length ∧ l.length = c := by
    unfold shapeBad at hsb
    rw [habc] at hsb
    simp at hsb
    omega
  have q0 : ¬ (nms.length : Int) < a := by omega
  have q1 : ¬ (b : Int) < nms.length := by omega
  have q2 : ((l.length : Int) == (c : Int)) = true := by rw [hs2, beq_iff_eq]
  have q2b : ((l.length : Int) != (c : Int)) = false := by rw [bne, q2]; rfl
  have HB1 := Lib.hid (new_at w (.cells #[.int .i64 (k : Int), .slice a1 nms.length c1, .int .i64 so, .int .i64 0, .int .i64 mm, .slice a2 l.length c2] 30))
  have HU1 := Lib.hid hu1
  have hb := new_at w (.cells #[.int .i64 (k : Int), .slice a1 nms.length c1, .int .i64 so, .int .i64 0, .int .i64 mm, .slice a2 l.length c2] 30)
  obtain ⟨y0, y1, y2, y3, y4, y5⟩ := cells6 hb
  rw [show decide (16 ≤ k) = true from decide_eq_true (by omega)] at t3
  rw [hall] at HCF
  have HBF := Lib.hid (new_at1 w (.cells #[.int .i64 (k : Int), .slice a1 nms.length c1, .int .i64 so, .int .i64 0, .int .i64 mm, .slice a2 l.length c2] 30) (.cells #[.int .i64 a, .int .i64 b, .int .i64 c, .bool true] 100))
  have HU2 : Hid (Upto [] w ((w.alloc (.cells #[.int .i64 (k : Int), .slice a1 nms.length c1, .int .i64 so, .int .i64 0, .int .i64 mm, .slice a2 l.length c2] 30)).alloc (.cells #[.int .i64 a, .int .i64 b, .int .i64 c, .bool true] 100))) := Lib.hid (hu1.alloc _)
  have HBO := Lib.hid (alloc_old hb (.cells #[.int .i64 a, .int .i64 b, .int .i64 c, .bool true] 100))
  have e7 : ((k : Int) == (7 : Int)) = false := by rw [beq_eq_false_iff_ne]; exact o7
  have f7 : ((k : Int) != (7 : Int)) = true := by rw [bne, e7]; rfl
  have e8 : ((k : Int) == (8 : Int)) = false := by rw [beq_eq_false_iff_ne]; exact o8
  have f8 : ((k : Int) != (8 : Int)) = true := by rw [bne, e8]; rfl
  have emm0 : (mm == (0 : Int)) = false := by rw [beq_eq_false_iff_ne]; exact hz
  have fmm0 : (mm != (0 : Int)) = true := by rw [bne, emm0]; rfl
  clear habc hsb hall h hs hg hu1 hnm ev hin hb hs2 he hf
  go_enter Tryd.func44, Tryd.ntmps44
  go_wp2_with fail
  refine (HCF.out _ HU2.out).mono ?_
  rintro e w5 ⟨rfl, hu5⟩
  have HU5 := Lib.hid (HU2.out.trans_ext hu5)
  have hb5 := hu5.at HBO.out (by simp)
  have hf5 := hu5.at HBF.out (by simp)
  have z0 := cell_of hb5 0
  have z1 := cell_of hb5 1
  have z2 := cell_of hb5 2
  have z3 := cell_of hb5 3
  have z4 := cell_of hb5 4
  have z5 := cell_of hb5 5
  have x3 := cell_of hf5 3
  simp only [List.getElem?_toArray, List.getElem?_cons_zero, List.getElem?_cons_succ] at z0 z1 z2 z3 z4 z5 x3
  clear hu5 hb5 hf5 y0 y1 y2 y3 y4 y5 t0 t1 t2 t3
  go_wp2_with fail
  go_ret
  exact ⟨rfl, HU5.out⟩

set_option maxRecDepth 100000 in
set_option maxHeartbeats 6400000 in
theorem has_hg (k : Nat) (so : Int) (nms : List (List UInt8)) (l : List Nd) (hin : inN 10000000 (.mk (k : Int) nms so 0 0 l)) (v : Value) (w : World) (P : Nat → Prop) (h : NdV w P (.mk (k : Int) nms so 0 0 l) v) (he : Env w) (hf : FEnv w) (hk0 : (0 : Int) ≤ (k : Int)) (hk1 : ((k : Int) : Int) ≤ 17) (hsb : shapeBad (k : Int) nms.length l.length = false) (hall : nms.all identF = true) (o7 : (k : Int) ≠ 7) (o8 : (k : Int) ≠ 8) (o16 : ¬ k < 16) : Calls Tryd.prog 44 #[v] w fun e w' => e = .returned (.bool true) ∧ Upto [] w w' := by
  obtain ⟨a1, c1, a2, c2, rfl, hs, hg⟩ := h.open
  unfold inN at hin
  obtain ⟨a1', c1', ev, hnm⟩ := hs.get
  obtain ⟨rfl, rfl⟩ : a1 = a1' ∧ c1 = c1' := by simpa using ev
  have hu1 : Upto [] w (w.alloc (.cells #[.int .i64 (k : Int), .slice a1 nms.length c1, .int .i64 so, .int .i64 0, .int .i64 0, .slice a2 l.length c2] 30)) := (Upto.refl [] w).alloc _
  have hll := hin.2.2.1
  have hnl := hin.1
  have HCF := Lib.hid (fun u (hu : Upto [] w u) => containsf_calls nms a1 c1 u (he.ext hu) hnl hin.2.1 (fun i x hi => by
    obtain ⟨g, o, e1, e2⟩ := hnm i _ (by rw [List.getElem?_map, hi]; rfl)
    exact ⟨g, o, e1, (hu.cell (p := ⟨g, o + i, none⟩) (World.block_lt_of_cell? w _ e2) (by simp)).trans e2⟩))
  have hL0 : (0 : Int) ≤ l.length := by omega
  have hL1 : (l.length : Int) ≤ 10000000 := by omega
  have hN0 : (0 : Int) ≤ nms.length := by omega
  have hN1 : (nms.length : Int) ≤ 10000000 := by omega
  obtain ⟨a, b, c, habc, ha17, hb17, hc17⟩ : ∃ a b c : Nat, hasF (k : Int) = (a, b, c) ∧ a ≤ 17 ∧ b ≤ 17 ∧ c ≤ 17 := by
    unfold hasF
    repeat' split
    all_goals exact ⟨_, _, _, rfl, by decide, by decide, by decide⟩
  obtain ⟨t0, t1, t2, t3⟩ := (hf.ext hu1).at_ k (by omega)
  try simp only [Nat.reduceMul, Nat.reduceAdd] at t0 t1 t2 t3
  rw [show hasF (k : Nat) = (a, b, c) from habc] at t0 t1 t2
  simp only at t0 t1 t2
  have ha0 : (0 : Int) ≤ a := by omega
  have hb0 : (0 : Int) ≤ b := by omega
  have hc0 : (0 : Int) ≤ c := by omega
  have ha1 : (a : Int) ≤ 17 := by omega
  have hb1 : (b : Int) ≤ 17 := by omega
  have hc1 : (c : Int) ≤ 17 := by omega
  obtain ⟨hs0, hs1, hs2⟩ : ¬ nms.length < a ∧ ¬ b < nms.length ∧ l.length = c := by
    unfold shapeBad at hsb
    rw [habc] at hsb
    simp at hsb
    omega
  have q0 : ¬ (nms.length : Int) < a := by omega
  have q1 : ¬ (b : Int) < nms.length := by omega
  have q2 : ((l.length : Int) == (c : Int)) = true := by rw [hs2, beq_iff_eq]
  have q2b : ((l.length : Int) != (c : Int)) = false := by rw [bne, q2]; rfl
  have HB1 := Lib.hid (new_at w (.cells #[.int .i64 (k : Int), .slice a1 nms.length c1, .int .i64 so, .int .i64 0, .int .i64 0, .slice a2 l.length c2] 30))
  have HU1 := Lib.hid hu1
  have hb := new_at w (.cells #[.int .i64 (k : Int), .slice a1 nms.length c1, .int .i64 so, .int .i64 0, .int .i64 0, .slice a2 l.length c2] 30)
  obtain ⟨y0, y1, y2, y3, y4, y5⟩ := cells6 hb
  rw [show decide (16 ≤ k) = true from decide_eq_true (by omega)] at t3
  rw [hall] at HCF
  have HBF := Lib.hid (new_at1 w (.cells #[.int .i64 (k : Int), .slice a1 nms.length c1, .int .i64 so, .int .i64 0, .int .i64 0, .slice a2 l.length c2] 30) (.cells #[.int .i64 a, .int .i64 b, .int .i64 c, .bool true] 100))
  have HU2 : Hid (Upto [] w ((w.alloc (.cells #[.int .i64 (k : Int), .slice a1 nms.length c1, .int .i64 so, .int .i64 0, .int .i64 0, .slice a2 l.length c2] 30)).alloc (.cells #[.int .i64 a, .int .i64 b, .int .i64 c, .bool true] 100))) := Lib.hid (hu1.alloc _)
  have HBO := Lib.hid (alloc_old hb (.cells #[.int .i64 a, .int .i64 b, .int .i64 c, .bool true] 100))
  have e7 : ((k : Int) == (7 : Int)) = false := by rw [beq_eq_false_iff_ne]; exact o7
  have f7 : ((k : Int) != (7 : Int)) = true := by rw [bne, e7]; rfl
  have e8 : ((k : Int) == (8 : Int)) = false := by rw [beq_eq_false_iff_ne]; exact o8
  have f8 : ((k : Int) != (8 : Int)) = true := by rw [bne, e8]; rfl
  clear habc hsb hall h hs hg hu1 hnm ev hin hb hs2 he hf
  go_enter Tryd.func44, Tryd.ntmps44
  go_wp2_with fail
  refine (HCF.out _ HU2.out).mono ?_
  rintro e w5 ⟨rfl, hu5⟩
  have HU5 := Lib.hid (HU2.out.trans_ext hu5)
  have hb5 := hu5.at HBO.out (by simp)
  have hf5 := hu5.at HBF.out (by simp)
  have z0 := cell_of hb5 0
  have z1 := cell_of hb5 1
  have z2 := cell_of hb5 2
  have z3 := cell_of hb5 3
  have z4 := cell_of hb5 4
  have z5 := cell_of hb5 5
  have x3 := cell_of hf5 3
  simp only [List.getElem?_toArray, List.getElem?_cons_zero, List.getElem?_cons_succ] at z0 z1 z2 z3 z4 z5 x3
  clear hu5 hb5 hf5 y0 y1 y2 y3 y4 y5 t0 t1 t2 t3
  go_wp2_with fail
  go_ret
  exact ⟨rfl, HU5.out⟩

end Go.Proofs.YtbnebkkpmcjmbaaDoor


namespace Go.Proofs.YtbnebkkpmcjmbaaDoor
open Go.RowKit Go.PL Go.Maps
set_option maxRecDepth 100000 in
set_option maxHeartbeats 6400000 in
theorem has_n (k : Nat) (so nn mm : Int) (nms : List (List UInt8)) (l : List Nd) (hin : inN 10000000 (.mk (k : Int) nms so nn mm l)) (v : Value) (w : World) (P : Nat → Prop) (h : NdV w P (.mk (k : Int) nms so nn mm l) v) (he : Env w) (hf : FEnv w) (hk0 : (0 : Int) ≤ (k : Int)) (hk1 : ((k : Int) : Int) ≤ 17) (hsb : shapeBad (k : Int) nms.length l.length = false) (hall : nms.all identF = false) : Calls Tryd.prog 44 #[v] w fun e w' => e = .returned (.bool false) ∧ Upto [] w w' := by
  obtain ⟨a1, c1, a2, c2, rfl, hs, hg⟩ := h.open
  unfold inN at hin
  obtain ⟨a1', c1', ev, hnm⟩ := hs.get
  obtain ⟨rfl, rfl⟩ : a1 = a1' ∧ c1 = c1' := by simpa using ev
  have hu1 : Upto [] w (w.alloc (.cells #[.int .i64 (k : Int), .slice a1 nms.length c1, .int .i64 so, .int .i64 nn, .int .i64 mm, .slice a2 l.length c2] 30)) := (Upto.refl [] w).alloc _
  have hll := hin.2.2.1
  have hnl := hin.1
  have HCF := Lib.hid (fun u (hu : Upto [] w u) => containsf_calls nms a1 c1 u (he.ext hu) hnl hin.2.1 (fun i x hi => by
    obtain ⟨g, o, e1, e2⟩ := hnm i _ (by rw [List.getElem?_map, hi]; rfl)
    exact ⟨g, o, e1, (hu.cell (p := ⟨g, o + i, none⟩) (World.block_lt_of_cell? w _ e2) (by simp)).trans e2⟩))
  have hL0 : (0 : Int) ≤ l.length := by omega
  have hL1 : (l.length : Int) ≤ 10000000 := by omega
  have hN0 : (0 : Int) ≤ nms.length := by omega
  have hN1 : (nms.length : Int) ≤ 10000000 := by omega
  obtain ⟨a, b, c, habc, ha17, hb17, hc17⟩ : ∃ a b c : Nat, hasF (k : Int) = (a, b, c) ∧ a ≤ 17 ∧ b ≤ 17 ∧ c ≤ 17 := by
    unfold hasF
    repeat' split
    all_goals exact ⟨_, _, _, rfl, by decide, by decide, by decide⟩
  obtain ⟨t0, t1, t2, t3⟩ := (hf.ext hu1).at_ k (by omega)
  try simp only [Nat.reduceMul, Nat.reduceAdd] at t0 t1 t2 t3
  rw [show hasF (k : Nat) = (a, b, c) from habc] at t0 t1 t2
  simp only at t0 t1 t2
  have ha0 : (0 : Int) ≤ a := by omega
  have hb0 : (0 : Int) ≤ b := by omega
  have hc0 : (0 : Int) ≤ c := by omega
  have ha1 : (a : Int) ≤ 17 := by omega
  have hb1 : (b : Int) ≤ 17 := by omega
  have hc1 : (c : Int) ≤ 17 := by omega
  obtain ⟨hs0, hs1, hs2⟩ : ¬ nms.length < a ∧ ¬ b < nms.length ∧ l.length = c := by
    unfold shapeBad at hsb
    rw [habc] at hsb
    simp at hsb
    omega
  have q0 : ¬ (nms.length : Int) < a := by omega
  have q1 : ¬ (b : Int) < nms.length := by omega
  have q2 : ((l.length : Int) == (c : Int)) = true := by rw [hs2, beq_iff_eq]
  have q2b : ((l.length : Int) != (c : Int)) = false := by rw [bne, q2]; rfl
  have HB1 := Lib.hid (new_at w (.cells #[.int .i64 (k : Int), .slice a1 nms.length c1, .int .i64 so, .int .i64 nn, .int .i64 mm, .slice a2 l.length c2] 30))
  have HU1 := Lib.hid hu1
  have hb := new_at w (.cells #[.int .i64 (k : Int), .slice a1 nms.length c1, .int .i64 so, .int .i64 nn, .int .i64 mm, .slice a2 l.length c2] 30)
  obtain ⟨y0, y1, y2, y3, y4, y5⟩ := cells6 hb
  rw [hall] at HCF
  have HBF := Lib.hid (new_at1 w (.cells #[.int .i64 (k : Int), .slice a1 nms.length c1, .int .i64 so, .int .i64 nn, .int .i64 mm, .slice a2 l.length c2] 30) (.cells #[.int .i64 a, .int .i64 b, .int .i64 c, .bool (decide (16 ≤ k))] 100))
  have HU2 : Hid (Upto [] w ((w.alloc (.cells #[.int .i64 (k : Int), .slice a1 nms.length c1, .int .i64 so, .int .i64 nn, .int .i64 mm, .slice a2 l.length c2] 30)).alloc (.cells #[.int .i64 a, .int .i64 b, .int .i64 c, .bool (decide (16 ≤ k))] 100))) := Lib.hid (hu1.alloc _)
  have HBO := Lib.hid (alloc_old hb (.cells #[.int .i64 a, .int .i64 b, .int .i64 c, .bool (decide (16 ≤ k))] 100))

  clear habc hsb hall h hs hg hu1 hnm ev hin hb hs2 he hf
  go_enter Tryd.func44, Tryd.ntmps44
  go_wp2_with fail
  refine (HCF.out _ HU2.out).mono ?_
  rintro e w5 ⟨rfl, hu5⟩
  have HU5 := Lib.hid (HU2.out.trans_ext hu5)
  have hb5 := hu5.at HBO.out (by simp)
  have hf5 := hu5.at HBF.out (by simp)
  clear hu5 hb5 hf5 y0 y1 y2 y3 y4 y5 t0 t1 t2 t3
  go_wp2_with fail
  go_ret
  exact ⟨rfl, HU5.out⟩

set_option maxRecDepth 100000 in
set_option maxHeartbeats 6400000 in
theorem has_s1 (k : Nat) (so nn mm : Int) (nms : List (List UInt8)) (l : List Nd) (hin : inN 10000000 (.mk (k : Int) nms so nn mm l)) (v : Value) (w : World) (P : Nat → Prop) (h : NdV w P (.mk (k : Int) nms so nn mm l) v) (he : Env w) (hf : FEnv w) (hk0 : (0 : Int) ≤ (k : Int)) (hk1 : ((k : Int) : Int) ≤ 17) (_hsb : shapeBad (k : Int) nms.length l.length = true) (hs0 : nms.length < (hasF (k : Int)).1) : Calls Tryd.prog 44 #[v] w fun e w' => e = .returned (.bool false) ∧ Upto [] w w' := by
  obtain ⟨a1, c1, a2, c2, rfl, hs, hg⟩ := h.open
  unfold inN at hin
  obtain ⟨a1', c1', ev, hnm⟩ := hs.get
  obtain ⟨rfl, rfl⟩ : a1 = a1' ∧ c1 = c1' := by simpa using ev
  have hu1 : Upto [] w (w.alloc (.cells #[.int .i64 (k : Int), .slice a1 nms.length c1, .int .i64 so, .int .i64 nn, .int .i64 mm, .slice a2 l.length c2] 30)) := (Upto.refl [] w).alloc _
  have hll := hin.2.2.1
  have hnl := hin.1
  have HCF := Lib.hid (fun u (hu : Upto [] w u) => containsf_calls nms a1 c1 u (he.ext hu) hnl hin.2.1 (fun i x hi => by
    obtain ⟨g, o, e1, e2⟩ := hnm i _ (by rw [List.getElem?_map, hi]; rfl)
    exact ⟨g, o, e1, (hu.cell (p := ⟨g, o + i, none⟩) (World.block_lt_of_cell? w _ e2) (by simp)).trans e2⟩))
  have hL0 : (0 : Int) ≤ l.length := by omega
  have hL1 : (l.length : Int) ≤ 10000000 := by omega
  have hN0 : (0 : Int) ≤ nms.length := by omega
  have hN1 : (nms.length : Int) ≤ 10000000 := by omega
  obtain ⟨a, b, c, habc, ha17, hb17, hc17⟩ : ∃ a b c : Nat, hasF (k : Int) = (a, b, c) ∧ a ≤ 17 ∧ b ≤ 17 ∧ c ≤ 17 := by
    unfold hasF
    repeat' split
    all_goals exact ⟨_, _, _, rfl, by decide, by decide, by decide⟩
  obtain ⟨t0, t1, t2, t3⟩ := (hf.ext hu1).at_ k (by omega)
  try simp only [Nat.reduceMul, Nat.reduceAdd] at t0 t1 t2 t3
  rw [show hasF (k : Nat) = (a, b, c) from habc] at t0 t1 t2
  simp only at t0 t1 t2
  have ha0 : (0 : Int) ≤ a := by omega
  have hb0 : (0 : Int) ≤ b := by omega
  have hc0 : (0 : Int) ≤ c := by omega
  have ha1 : (a : Int) ≤ 17 := by omega
  have hb1 : (b : Int) ≤ 17 := by omega
  have hc1 : (c : Int) ≤ 17 := by omega
  rw [habc] at hs0
  simp only at hs0
  have q0 : (nms.length : Int) < a := by omega
  have HB1 := Lib.hid (new_at w (.cells #[.int .i64 (k : Int), .slice a1 nms.length c1, .int .i64 so, .int .i64 nn, .int .i64 mm, .slice a2 l.length c2] 30))
  have HU1 := Lib.hid hu1
  have hb := new_at w (.cells #[.int .i64 (k : Int), .slice a1 nms.length c1, .int .i64 so, .int .i64 nn, .int .i64 mm, .slice a2 l.length c2] 30)
  obtain ⟨y0, y1, y2, y3, y4, y5⟩ := cells6 hb
  have HBF := Lib.hid (new_at1 w (.cells #[.int .i64 (k : Int), .slice a1 nms.length c1, .int .i64 so, .int .i64 nn, .int .i64 mm, .slice a2 l.length c2] 30) (.cells #[.int .i64 a, .int .i64 b, .int .i64 c, .bool (decide (16 ≤ k))] 100))
  have HU2 : Hid (Upto [] w ((w.alloc (.cells #[.int .i64 (k : Int), .slice a1 nms.length c1, .int .i64 so, .int .i64 nn, .int .i64 mm, .slice a2 l.length c2] 30)).alloc (.cells #[.int .i64 a, .int .i64 b, .int .i64 c, .bool (decide (16 ≤ k))] 100))) := Lib.hid (hu1.alloc _)
  have HBO := Lib.hid (alloc_old hb (.cells #[.int .i64 a, .int .i64 b, .int .i64 c, .bool (decide (16 ≤ k))] 100))

  clear habc _hsb h hs hg hu1 hnm ev hin hb he hf
  go_enter Tryd.func44, Tryd.ntmps44
  go_wp2_with fail
  go_ret
  exact ⟨rfl, HU2.out⟩
set_option maxRecDepth 100000 in
set_option maxHeartbeats 6400000 in
theorem has_s2 (k : Nat) (so nn mm : Int) (nms : List (List UInt8)) (l : List Nd) (hin : inN 10000000 (.mk (k : Int) nms so nn mm l)) (v : Value) (w : World) (P : Nat → Prop) (h : NdV w P (.mk (k : Int) nms so nn mm l) v) (he : Env w) (hf : FEnv w) (hk0 : (0 : Int) ≤ (k : Int)) (hk1 : ((k : Int) : Int) ≤ 17) (_hsb : shapeBad (k : Int) nms.length l.length = true) (hs0 : ¬ nms.length < (hasF (k : Int)).1) (hs1 : (hasF (k : Int)).2.1 < nms.length) : Calls Tryd.prog 44 #[v] w fun e w' => e = .returned (.bool false) ∧ Upto [] w w' := by
  obtain ⟨a1, c1, a2, c2, rfl, hs, hg⟩ := h.open
  unfold inN at hin
  obtain ⟨a1', c1', ev, hnm⟩ := hs.get
  obtain ⟨rfl, rfl⟩ : a1 = a1' ∧ c1 = c1' := by simpa using ev
  have hu1 : Upto [] w (w.alloc (.cells #[.int .i64 (k : Int), .slice a1 nms.length c1, .int .i64 so, .int .i64 nn, .int .i64 mm, .slice a2 l.length c2] 30)) := (Upto.refl [] w).alloc _
  have hll := hin.2.2.1
  have hnl := hin.1
  have HCF := Lib.hid (fun u (hu : Upto [] w u) => containsf_calls nms a1 c1 u (he.ext hu) hnl hin.2.1 (fun i x hi => by
    obtain ⟨g, o, e1, e2⟩ := hnm i _ (by rw [List.getElem?_map, hi]; rfl)
    exact ⟨g, o, e1, (hu.cell (p := ⟨g, o + i, none⟩) (World.block_lt_of_cell? w _ e2) (by simp)).trans e2⟩))
  have hL0 : (0 : Int) ≤ l.length := by omega
  have hL1 : (l.length : Int) ≤ 10000000 := by omega
  have hN0 : (0 : Int) ≤ nms.length := by omega
  have hN1 : (nms.length : Int) ≤ 10000000 := by omega
  obtain ⟨a, b, c, habc, ha17, hb17, hc17⟩ : ∃ a b c : Nat, hasF (k : Int) = (a, b, c) ∧ a ≤ 17 ∧ b ≤ 17 ∧ c ≤ 17 := by
    unfold hasF
    repeat' split
    all_goals exact ⟨_, _, _, rfl, by decide, by decide, by decide⟩
  obtain ⟨t0, t1, t2, t3⟩ := (hf.ext hu1).at_ k (by omega)
  try simp only [Nat.reduceMul, Nat.reduceAdd] at t0 t1 t2 t3
  rw [show hasF (k : Nat) = (a, b, c) from habc] at t0 t1 t2
  simp only at t0 t1 t2
  have ha0 : (0 : Int) ≤ a := by omega
  have hb0 : (0 : Int) ≤ b := by omega
  have hc0 : (0 : Int) ≤ c := by omega
  have ha1 : (a : Int) ≤ 17 := by omega
  have hb1 : (b : Int) ≤ 17 := by omega
  have hc1 : (c : Int) ≤ 17 := by omega
  rw [habc] at hs0 hs1
  simp only at hs0 hs1
  have q0 : ¬ (nms.length : Int) < a := by omega
  have q1 : (b : Int) < nms.length := by omega
  have HB1 := Lib.hid (new_at w (.cells #[.int .i64 (k : Int), .slice a1 nms.length c1, .int .i64 so, .int .i64 nn, .int .i64 mm, .slice a2 l.length c2] 30))
  have HU1 := Lib.hid hu1
  have hb := new_at w (.cells #[.int .i64 (k : Int), .slice a1 nms.length c1, .int .i64 so, .int .i64 nn, .int .i64 mm, .slice a2 l.length c2] 30)
  obtain ⟨y0, y1, y2, y3, y4, y5⟩ := cells6 hb
  have HBF := Lib.hid (new_at1 w (.cells #[.int .i64 (k : Int), .slice a1 nms.length c1, .int .i64 so, .int .i64 nn, .int .i64 mm, .slice a2 l.length c2] 30) (.cells #[.int .i64 a, .int .i64 b, .int .i64 c, .bool (decide (16 ≤ k))] 100))
  have HU2 : Hid (Upto [] w ((w.alloc (.cells #[.int .i64 (k : Int), .slice a1 nms.length c1, .int .i64 so, .int .i64 nn, .int .i64 mm, .slice a2 l.length c2] 30)).alloc (.cells #[.int .i64 a, .int .i64 b, .int .i64 c, .bool (decide (16 ≤ k))] 100))) := Lib.hid (hu1.alloc _)
  have HBO := Lib.hid (alloc_old hb (.cells #[.int .i64 a, .int .i64 b, .int .i64 c, .bool (decide (16 ≤ k))] 100))

  clear habc _hsb h hs hg hu1 hnm ev hin hb he hf
  go_enter Tryd.func44, Tryd.ntmps44
  go_wp2_with fail
  go_ret
  exact ⟨rfl, HU2.out⟩
set_option maxRecDepth 100000 in
set_option maxHeartbeats 6400000 in
theorem has_s3 (k : Nat) (so nn mm : Int) (nms : List (List UInt8)) (l : List Nd) (hin : inN 10000000 (.mk (k : Int) nms so nn mm l)) (v : Value) (w : World) (P : Nat → Prop) (h : NdV w P (.mk (k : Int) nms so nn mm l) v) (he : Env w) (hf : FEnv w) (hk0 : (0 : Int) ≤ (k : Int)) (hk1 : ((k : Int) : Int) ≤ 17) (_hsb : shapeBad (k : Int) nms.length l.length = true) (hs0 : ¬ nms.length < (hasF (k : Int)).1) (hs1 : ¬ (hasF (k : Int)).2.1 < nms.length) (hs3 : l.length ≠ (hasF (k : Int)).2.2) : Calls Tryd.prog 44 #[v] w fun e w' => e = .returned (.bool false) ∧ Upto [] w w' := by
  obtain ⟨a1, c1, a2, c2, rfl, hs, hg⟩ := h.open
  unfold inN at hin
  obtain ⟨a1', c1', ev, hnm⟩ := hs.get
  obtain ⟨rfl, rfl⟩ : a1 = a1' ∧ c1 = c1' := by simpa using ev
  have hu1 : Upto [] w (w.alloc (.cells #[.int .i64 (k : Int), .slice a1 nms.length c1, .int .i64 so, .int .i64 nn, .int .i64 mm, .slice a2 l.length c2] 30)) := (Upto.refl [] w).alloc _
  have hll := hin.2.2.1
  have hnl := hin.1
  have HCF := Lib.hid (fun u (hu : Upto [] w u) => containsf_calls nms a1 c1 u (he.ext hu) hnl hin.2.1 (fun i x hi => by
    obtain ⟨g, o, e1, e2⟩ := hnm i _ (by rw [List.getElem?_map, hi]; rfl)
    exact ⟨g, o, e1, (hu.cell (p := ⟨g, o + i, none⟩) (World.block_lt_of_cell? w _ e2) (by simp)).trans e2⟩))
  have hL0 : (0 : Int) ≤ l.length := by omega
  have hL1 : (l.length : Int) ≤ 10000000 := by omega
  have hN0 : (0 : Int) ≤ nms.length := by omega
  have hN1 : (nms.length : Int) ≤ 10000000 := by omega
  obtain ⟨a, b, c, habc, ha17, hb17, hc17⟩ : ∃ a b c : Nat, hasF (k : Int) = (a, b, c) ∧ a ≤ 17 ∧ b ≤ 17 ∧ c ≤ 17 := by
    unfold hasF
    repeat' split
    all_goals exact ⟨_, _, _, rfl, by decide, by decide, by decide⟩
  obtain ⟨t0, t1, t2, t3⟩ := (hf.ext hu1).at_ k (by omega)
  try simp only [Nat.reduceMul, Nat.reduceAdd] at t0 t1 t2 t3
  rw [show hasF (k : Nat) = (a, b, c) from habc] at t0 t1 t2
  simp only at t0 t1 t2
  have ha0 : (0 : Int) ≤ a := by omega
  have hb0 : (0 : Int) ≤ b := by omega
  have hc0 : (0 : Int) ≤ c := by omega
  have ha1 : (a : Int) ≤ 17 := by omega
  have hb1 : (b : Int) ≤ 17 := by omega
  have hc1 : (c : Int) ≤ 17 := by omega
  rw [habc] at hs0 hs1 hs3
  simp only at hs0 hs1 hs3
  have q0 : ¬ (nms.length : Int) < a := by omega
  have q1 : ¬ (b : Int) < nms.length := by omega
  have q2 : ((l.length : Int) == (c : Int)) = false := by rw [beq_eq_false_iff_ne]; omega
  have q2b : ((l.length : Int) != (c : Int)) = true := by rw [bne, q2]; rfl
  have HB1 := Lib.hid (new_at w (.cells #[.int .i64 (k : Int), .slice a1 nms.length c1, .int .i64 so, .int .i64 nn, .int .i64 mm, .slice a2 l.length c2] 30))
  have HU1 := Lib.hid hu1
  have hb := new_at w (.cells #[.int .i64 (k : Int), .slice a1 nms.length c1, .int .i64 so, .int .i64 nn, .int .i64 mm, .slice a2 l.length c2] 30)
  obtain ⟨y0, y1, y2, y3, y4, y5⟩ := cells6 hb
  have HBF := Lib.hid (new_at1 w (.cells #[.int .i64 (k : Int), .slice a1 nms.length c1, .int .i64 so, .int .i64 nn, .int .i64 mm, .slice a2 l.length c2] 30) (.cells #[.int .i64 a, .int .i64 b, .int .i64 c, .bool (decide (16 ≤ k))] 100))
  have HU2 : Hid (Upto [] w ((w.alloc (.cells #[.int .i64 (k : Int), .slice a1 nms.length c1, .int .i64 so, .int .i64 nn, .int .i64 mm, .slice a2 l.length c2] 30)).alloc (.cells #[.int .i64 a, .int .i64 b, .int .i64 c, .bool (decide (16 ≤ k))] 100))) := Lib.hid (hu1.alloc _)
  have HBO := Lib.hid (alloc_old hb (.cells #[.int .i64 a, .int .i64 b, .int .i64 c, .bool (decide (16 ≤ k))] 100))

  clear habc _hsb h hs hg hu1 hnm ev hin hb he hf
  go_enter Tryd.func44, Tryd.ntmps44
  go_wp2_with fail
  go_ret
  exact ⟨rfl, HU2.out⟩
end Go.Proofs.YtbnebkkpmcjmbaaDoor


namespace Go.Proofs.YtbnebkkpmcjmbaaDoor
open Go.RowKit Go.PL Go.Maps
theorem hasf_calls (op so nn mm : Int) (nms : List (List UInt8)) (l : List Nd) (hin : inN 10000000 (.mk op nms so nn mm l)) (v : Value) (w : World) (P : Nat → Prop) (h : NdV w P (.mk op nms so nn mm l) v) (he : Env w) (hf : FEnv w) (hk0 : (0 : Int) ≤ op) (hk1 : op ≤ 17) :
    Calls Tryd.prog 44 #[v] w fun e w' => e = .returned (.bool (!shapeBad op nms.length l.length && nms.all identF && !zeroBad op so nn mm)) ∧ Upto [] w w' := by
  obtain ⟨k, rfl⟩ := Int.eq_ofNat_of_zero_le hk0
  cases hs : shapeBad (k : Int) nms.length l.length with
  | true =>
    rw [show (!true && nms.all identF && !zeroBad (k : Int) so nn mm) = false from rfl]
    by_cases s1 : nms.length < (hasF (k : Int)).1
    · exact has_s1 k so nn mm nms l hin v w P h he hf hk0 hk1 hs s1
    by_cases s2 : (hasF (k : Int)).2.1 < nms.length
    · exact has_s2 k so nn mm nms l hin v w P h he hf hk0 hk1 hs s1 s2
    refine has_s3 k so nn mm nms l hin v w P h he hf hk0 hk1 hs s1 s2 ?_
    intro s3
    unfold shapeBad at hs
    simp at hs
    omega
  | false =>
    cases ha : nms.all identF with
    | false => exact has_n k so nn mm nms l hin v w P h he hf hk0 hk1 hs ha
    | true =>
      have T : zeroBad (k : Int) so nn mm = true → (!false && true && !zeroBad (k : Int) so nn mm) = false := fun h => by rw [h]; rfl
      have G : zeroBad (k : Int) so nn mm = false → (!false && true && !zeroBad (k : Int) so nn mm) = true := fun h => by rw [h]; rfl
      by_cases c7 : k = 7
      · subst c7
        by_cases t1 : so ≠ 0
        · rw [T (by simp [zeroBad, *])]; exact has_7a so nn mm nms l hin v w P h he hf hk0 hk1 hs ha t1
        obtain rfl : so = 0 := Decidable.not_not.1 t1
        by_cases t2 : mm ≠ 0
        · rw [T (by simp [zeroBad, *])]; exact has_7b nn mm nms l hin v w P h he hf hk0 hk1 hs ha t2
        obtain rfl : mm = 0 := Decidable.not_not.1 t2
        rw [G (by simp [zeroBad])]; exact has_7g nn nms l hin v w P h he hf hk0 hk1 hs ha
      by_cases c8 : k = 8
      · subst c8
        by_cases t1 : so ≠ 0
        · rw [T (by simp [zeroBad, *])]; exact has_8a so nn mm nms l hin v w P h he hf hk0 hk1 hs ha t1
        obtain rfl : so = 0 := Decidable.not_not.1 t1
        rw [G (by simp [zeroBad])]; exact has_8g nn mm nms l hin v w P h he hf hk0 hk1 hs ha
      have o7 : (k : Int) ≠ 7 := by omega
      have o8 : (k : Int) ≠ 8 := by omega
      by_cases c16 : k < 16
      · have c16' : (k : Int) < 16 := by omega
        by_cases t1 : so ≠ 0
        · rw [T (by simp [zeroBad, *])]; exact has_oa k so nn mm nms l hin v w P h he hf hk0 hk1 hs ha o7 o8 c16 t1
        obtain rfl : so = 0 := Decidable.not_not.1 t1
        by_cases t2 : nn ≠ 0
        · rw [T (by simp [zeroBad, *])]; exact has_ob k nn mm nms l hin v w P h he hf hk0 hk1 hs ha o7 o8 c16 t2
        obtain rfl : nn = 0 := Decidable.not_not.1 t2
        by_cases t3 : mm ≠ 0
        · rw [T (by simp [zeroBad, *])]; exact has_oc k mm nms l hin v w P h he hf hk0 hk1 hs ha o7 o8 c16 t3
        obtain rfl : mm = 0 := Decidable.not_not.1 t3
        rw [G (by simp [zeroBad])]; exact has_og k nms l hin v w P h he hf hk0 hk1 hs ha o7 o8 c16
      have c16' : ¬ (k : Int) < 16 := by omega
      by_cases t2 : nn ≠ 0
      · rw [T (by simp [zeroBad, *])]; exact has_hb k so nn mm nms l hin v w P h he hf hk0 hk1 hs ha o7 o8 c16 t2
      obtain rfl : nn = 0 := Decidable.not_not.1 t2
      by_cases t3 : mm ≠ 0
      · rw [T (by simp [zeroBad, *])]; exact has_hc k so mm nms l hin v w P h he hf hk0 hk1 hs ha o7 o8 c16 t3
      obtain rfl : mm = 0 := Decidable.not_not.1 t3
      rw [G (by simp [zeroBad, *])]; exact has_hg k so nms l hin v w P h he hf hk0 hk1 hs ha o7 o8 c16
end Go.Proofs.YtbnebkkpmcjmbaaDoor


namespace Go.Proofs.YtbnebkkpmcjmbaaDoor
open Go.RowKit Go.PL Go.Maps
set_option maxRecDepth 100000 in
set_option maxHeartbeats 1600000 in
theorem rg_7a (so nn mm : Int) (a1 a2 : Option Addr) (n1 n2 c1 c2 : Nat) (w : World) (h : nn < 0) : Calls Tryd.prog 45 #[.agg #[.int .i64 7, .slice a1 n1 c1, .int .i64 so, .int .i64 nn, .int .i64 mm, .slice a2 n2 c2]] w fun e w' => e = .returned (.bool false) ∧ Upto [] w w' := by
  have hu : Upto [] w (w.alloc (.cells #[.int .i64 7, .slice a1 n1 c1, .int .i64 so, .int .i64 nn, .int .i64 mm, .slice a2 n2 c2] 30)) := (Upto.refl [] w).alloc _
  have hb := new_at w (.cells #[.int .i64 7, .slice a1 n1 c1, .int .i64 so, .int .i64 nn, .int .i64 mm, .slice a2 n2 c2] 30)
  obtain ⟨y0, y1, y2, y3, y4, y5⟩ := cells6 hb
  have HU := Lib.hid hu
  clear hb hu
  have q : ¬ (0 : Int) ≤ nn := by omega
  go_enter Tryd.func45, Tryd.ntmps45
  go_wp2_with fail
  go_ret
  exact ⟨rfl, HU.out⟩
set_option maxRecDepth 100000 in
set_option maxHeartbeats 1600000 in
theorem rg_7b (so nn mm : Int) (a1 a2 : Option Addr) (n1 n2 c1 c2 : Nat) (w : World) (h : (0 : Int) ≤ nn) (h2 : 7 < nn) : Calls Tryd.prog 45 #[.agg #[.int .i64 7, .slice a1 n1 c1, .int .i64 so, .int .i64 nn, .int .i64 mm, .slice a2 n2 c2]] w fun e w' => e = .returned (.bool false) ∧ Upto [] w w' := by
  have hu : Upto [] w (w.alloc (.cells #[.int .i64 7, .slice a1 n1 c1, .int .i64 so, .int .i64 nn, .int .i64 mm, .slice a2 n2 c2] 30)) := (Upto.refl [] w).alloc _
  have hb := new_at w (.cells #[.int .i64 7, .slice a1 n1 c1, .int .i64 so, .int .i64 nn, .int .i64 mm, .slice a2 n2 c2] 30)
  obtain ⟨y0, y1, y2, y3, y4, y5⟩ := cells6 hb
  have HU := Lib.hid hu
  clear hb hu
  have q : ¬ nn ≤ (7 : Int) := by omega
  go_enter Tryd.func45, Tryd.ntmps45
  go_wp2_with fail
  go_ret
  exact ⟨rfl, HU.out⟩
set_option maxRecDepth 100000 in
set_option maxHeartbeats 1600000 in
theorem rg_7g (so nn mm : Int) (a1 a2 : Option Addr) (n1 n2 c1 c2 : Nat) (w : World) (h : (0 : Int) ≤ nn) (h2 : nn ≤ 7) : Calls Tryd.prog 45 #[.agg #[.int .i64 7, .slice a1 n1 c1, .int .i64 so, .int .i64 nn, .int .i64 mm, .slice a2 n2 c2]] w fun e w' => e = .returned (.bool true) ∧ Upto [] w w' := by
  have hu : Upto [] w (w.alloc (.cells #[.int .i64 7, .slice a1 n1 c1, .int .i64 so, .int .i64 nn, .int .i64 mm, .slice a2 n2 c2] 30)) := (Upto.refl [] w).alloc _
  have hb := new_at w (.cells #[.int .i64 7, .slice a1 n1 c1, .int .i64 so, .int .i64 nn, .int .i64 mm, .slice a2 n2 c2] 30)
  obtain ⟨y0, y1, y2, y3, y4, y5⟩ := cells6 hb
  have HU := Lib.hid hu
  clear hb hu
  go_enter Tryd.func45, Tryd.ntmps45
  go_wp2_with fail
  go_ret
  exact ⟨rfl, HU.out⟩
set_option maxRecDepth 100000 in
set_option maxHeartbeats 1600000 in
theorem rg_8a (so nn mm : Int) (a1 a2 : Option Addr) (n1 n2 c1 c2 : Nat) (w : World) (h : mm < 1) : Calls Tryd.prog 45 #[.agg #[.int .i64 8, .slice a1 n1 c1, .int .i64 so, .int .i64 nn, .int .i64 mm, .slice a2 n2 c2]] w fun e w' => e = .returned (.bool false) ∧ Upto [] w w' := by
  have hu : Upto [] w (w.alloc (.cells #[.int .i64 8, .slice a1 n1 c1, .int .i64 so, .int .i64 nn, .int .i64 mm, .slice a2 n2 c2] 30)) := (Upto.refl [] w).alloc _
  have hb := new_at w (.cells #[.int .i64 8, .slice a1 n1 c1, .int .i64 so, .int .i64 nn, .int .i64 mm, .slice a2 n2 c2] 30)
  obtain ⟨y0, y1, y2, y3, y4, y5⟩ := cells6 hb
  have HU := Lib.hid hu
  clear hb hu
  have q : ¬ (1 : Int) ≤ mm := by omega
  go_enter Tryd.func45, Tryd.ntmps45
  go_wp2_with fail
  go_ret
  exact ⟨rfl, HU.out⟩
set_option maxRecDepth 100000 in
set_option maxHeartbeats 1600000 in
theorem rg_8b (so nn mm : Int) (a1 a2 : Option Addr) (n1 n2 c1 c2 : Nat) (w : World) (h : (1 : Int) ≤ mm) (h2 : 64 < mm) : Calls Tryd.prog 45 #[.agg #[.int .i64 8, .slice a1 n1 c1, .int .i64 so, .int .i64 nn, .int .i64 mm, .slice a2 n2 c2]] w fun e w' => e = .returned (.bool false) ∧ Upto [] w w' := by
  have hu : Upto [] w (w.alloc (.cells #[.int .i64 8, .slice a1 n1 c1, .int .i64 so, .int .i64 nn, .int .i64 mm, .slice a2 n2 c2] 30)) := (Upto.refl [] w).alloc _
  have hb := new_at w (.cells #[.int .i64 8, .slice a1 n1 c1, .int .i64 so, .int .i64 nn, .int .i64 mm, .slice a2 n2 c2] 30)
  obtain ⟨y0, y1, y2, y3, y4, y5⟩ := cells6 hb
  have HU := Lib.hid hu
  clear hb hu
  have q : ¬ mm ≤ (64 : Int) := by omega
  go_enter Tryd.func45, Tryd.ntmps45
  go_wp2_with fail
  go_ret
  exact ⟨rfl, HU.out⟩
set_option maxRecDepth 100000 in
set_option maxHeartbeats 1600000 in
theorem rg_8c (so nn mm : Int) (a1 a2 : Option Addr) (n1 n2 c1 c2 : Nat) (w : World) (h : (1 : Int) ≤ mm) (h2 : mm ≤ 64) (h3 : nn < 0) : Calls Tryd.prog 45 #[.agg #[.int .i64 8, .slice a1 n1 c1, .int .i64 so, .int .i64 nn, .int .i64 mm, .slice a2 n2 c2]] w fun e w' => e = .returned (.bool false) ∧ Upto [] w w' := by
  have hu : Upto [] w (w.alloc (.cells #[.int .i64 8, .slice a1 n1 c1, .int .i64 so, .int .i64 nn, .int .i64 mm, .slice a2 n2 c2] 30)) := (Upto.refl [] w).alloc _
  have hb := new_at w (.cells #[.int .i64 8, .slice a1 n1 c1, .int .i64 so, .int .i64 nn, .int .i64 mm, .slice a2 n2 c2] 30)
  obtain ⟨y0, y1, y2, y3, y4, y5⟩ := cells6 hb
  have HU := Lib.hid hu
  clear hb hu
  have q : ¬ (0 : Int) ≤ nn := by omega
  go_enter Tryd.func45, Tryd.ntmps45
  go_wp2_with fail
  go_ret
  exact ⟨rfl, HU.out⟩
set_option maxRecDepth 100000 in
set_option maxHeartbeats 1600000 in
theorem rg_8d (so nn mm : Int) (a1 a2 : Option Addr) (n1 n2 c1 c2 : Nat) (w : World) (h : (1 : Int) ≤ mm) (h2 : mm ≤ 64) (h3 : (0 : Int) ≤ nn) (h4 : mm ≤ nn) : Calls Tryd.prog 45 #[.agg #[.int .i64 8, .slice a1 n1 c1, .int .i64 so, .int .i64 nn, .int .i64 mm, .slice a2 n2 c2]] w fun e w' => e = .returned (.bool false) ∧ Upto [] w w' := by
  have hu : Upto [] w (w.alloc (.cells #[.int .i64 8, .slice a1 n1 c1, .int .i64 so, .int .i64 nn, .int .i64 mm, .slice a2 n2 c2] 30)) := (Upto.refl [] w).alloc _
  have hb := new_at w (.cells #[.int .i64 8, .slice a1 n1 c1, .int .i64 so, .int .i64 nn, .int .i64 mm, .slice a2 n2 c2] 30)
  obtain ⟨y0, y1, y2, y3, y4, y5⟩ := cells6 hb
  have HU := Lib.hid hu
  clear hb hu
  have q : ¬ nn < mm := by omega
  go_enter Tryd.func45, Tryd.ntmps45
  go_wp2_with fail
  go_ret
  exact ⟨rfl, HU.out⟩
set_option maxRecDepth 100000 in
set_option maxHeartbeats 1600000 in
theorem rg_8g (so nn mm : Int) (a1 a2 : Option Addr) (n1 n2 c1 c2 : Nat) (w : World) (h : (1 : Int) ≤ mm) (h2 : mm ≤ 64) (h3 : (0 : Int) ≤ nn) (h4 : nn < mm) : Calls Tryd.prog 45 #[.agg #[.int .i64 8, .slice a1 n1 c1, .int .i64 so, .int .i64 nn, .int .i64 mm, .slice a2 n2 c2]] w fun e w' => e = .returned (.bool true) ∧ Upto [] w w' := by
  have hu : Upto [] w (w.alloc (.cells #[.int .i64 8, .slice a1 n1 c1, .int .i64 so, .int .i64 nn, .int .i64 mm, .slice a2 n2 c2] 30)) := (Upto.refl [] w).alloc _
  have hb := new_at w (.cells #[.int .i64 8, .slice a1 n1 c1, .int .i64 so, .int .i64 nn, .int .i64 mm, .slice a2 n2 c2] 30)
  obtain ⟨y0, y1, y2, y3, y4, y5⟩ := cells6 hb
  have HU := Lib.hid hu
  clear hb hu
  go_enter Tryd.func45, Tryd.ntmps45
  go_wp2_with fail
  go_ret
  exact ⟨rfl, HU.out⟩
set_option maxRecDepth 100000 in
set_option maxHeartbeats 1600000 in
theorem rg_oa (op so nn mm : Int) (a1 a2 : Option Addr) (n1 n2 c1 c2 : Nat) (w : World) (o7 : op ≠ 7) (o8 : op ≠ 8) (h : so < 0) : Calls Tryd.prog 45 #[.agg #[.int .i64 op, .slice a1 n1 c1, .int .i64 so, .int .i64 nn, .int .i64 mm, .slice a2 n2 c2]] w fun e w' => e = .returned (.bool false) ∧ Upto [] w w' := by
  have hu : Upto [] w (w.alloc (.cells #[.int .i64 op, .slice a1 n1 c1, .int .i64 so, .int .i64 nn, .int .i64 mm, .slice a2 n2 c2] 30)) := (Upto.refl [] w).alloc _
  have hb := new_at w (.cells #[.int .i64 op, .slice a1 n1 c1, .int .i64 so, .int .i64 nn, .int .i64 mm, .slice a2 n2 c2] 30)
  obtain ⟨y0, y1, y2, y3, y4, y5⟩ := cells6 hb
  have HU := Lib.hid hu
  clear hb hu
  have e7 : (op == (7 : Int)) = false := by rw [beq_eq_false_iff_ne]; exact o7
  have e8 : (op == (8 : Int)) = false := by rw [beq_eq_false_iff_ne]; exact o8
  have q : ¬ (0 : Int) ≤ so := by omega
  go_enter Tryd.func45, Tryd.ntmps45
  go_wp2_with fail
  go_ret
  exact ⟨rfl, HU.out⟩
set_option maxRecDepth 100000 in
set_option maxHeartbeats 1600000 in
theorem rg_ob (op so nn mm : Int) (a1 a2 : Option Addr) (n1 n2 c1 c2 : Nat) (w : World) (o7 : op ≠ 7) (o8 : op ≠ 8) (h : (0 : Int) ≤ so) (h2 : 3 < so) : Calls Tryd.prog 45 #[.agg #[.int .i64 op, .slice a1 n1 c1, .int .i64 so, .int .i64 nn, .int .i64 mm, .slice a2 n2 c2]] w fun e w' => e = .returned (.bool false) ∧ Upto [] w w' := by
  have hu : Upto [] w (w.alloc (.cells #[.int .i64 op, .slice a1 n1 c1, .int .i64 so, .int .i64 nn, .int .i64 mm, .slice a2 n2 c2] 30)) := (Upto.refl [] w).alloc _
  have hb := new_at w (.cells #[.int .i64 op, .slice a1 n1 c1, .int .i64 so, .int .i64 nn, .int .i64 mm, .slice a2 n2 c2] 30)
  obtain ⟨y0, y1, y2, y3, y4, y5⟩ := cells6 hb
  have HU := Lib.hid hu
  clear hb hu
  have e7 : (op == (7 : Int)) = false := by rw [beq_eq_false_iff_ne]; exact o7
  have e8 : (op == (8 : Int)) = false := by rw [beq_eq_false_iff_ne]; exact o8
  have q : ¬ so < (4 : Int) := by omega
  go_enter Tryd.func45, Tryd.ntmps45
  go_wp2_with fail
  go_ret
  exact ⟨rfl, HU.out⟩
set_option maxRecDepth 100000 in
set_option maxHeartbeats 1600000 in
theorem rg_og (op so nn mm : Int) (a1 a2 : Option Addr) (n1 n2 c1 c2 : Nat) (w : World) (o7 : op ≠ 7) (o8 : op ≠ 8) (h : (0 : Int) ≤ so) (h2 : so < 4) : Calls Tryd.prog 45 #[.agg #[.int .i64 op, .slice a1 n1 c1, .int .i64 so, .int .i64 nn, .int .i64 mm, .slice a2 n2 c2]] w fun e w' => e = .returned (.bool true) ∧ Upto [] w w' := by
  have hu : Upto [] w (w.alloc (.cells #[.int .i64 op, .slice a1 n1 c1, .int .i64 so, .int .i64 nn, .int .i64 mm, .slice a2 n2 c2] 30)) := (Upto.refl [] w).alloc _
  have hb := new_at w (.cells #[.int .i64 op, .slice a1 n1 c1, .int .i64 so, .int .i64 nn, .int .i64 mm, .slice a2 n2 c2] 30)
  obtain ⟨y0, y1, y2, y3, y4, y5⟩ := cells6 hb
  have HU := Lib.hid hu
  clear hb hu
  have e7 : (op == (7 : Int)) = false := by rw [beq_eq_false_iff_ne]; exact o7
  have e8 : (op == (8 : Int)) = false := by rw [beq_eq_false_iff_ne]; exact o8
  go_enter Tryd.func45, Tryd.ntmps45
  go_wp2_with fail
  go_ret
  exact ⟨rfl, HU.out⟩
end Go.Proofs.YtbnebkkpmcjmbaaDoor


namespace Go.Proofs.YtbnebkkpmcjmbaaDoor
open Go.RowKit Go.PL Go.Maps
theorem ranges_calls (op so nn mm : Int) (nms : List (List UInt8)) (l : List Nd) (v : Value) (w : World) (P : Nat → Prop) (h : NdV w P (.mk op nms so nn mm l) v) (hz : zeroBad op so nn mm = false) :
    Calls Tryd.prog 45 #[v] w fun e w' => e = .returned (.bool (!rangeBad op so nn mm)) ∧ Upto [] w w' := by
  obtain ⟨a1, c1, a2, c2, rfl, -, -⟩ := h.open
  have T : rangeBad op so nn mm = true → (!rangeBad op so nn mm) = false := fun h => by rw [h]; rfl
  have G : rangeBad op so nn mm = false → (!rangeBad op so nn mm) = true := fun h => by rw [h]; rfl
  by_cases c7 : op = 7
  · subst c7
    have hso : so = 0 := by
      unfold zeroBad at hz
      simp at hz
      exact hz.2
    by_cases t1 : nn < 0
    · rw [T (by simp [rangeBad, *])]; exact rg_7a so nn mm a1 a2 _ _ c1 c2 w t1
    by_cases t2 : 7 < nn
    · rw [T (by simp [rangeBad, *])]; exact rg_7b so nn mm a1 a2 _ _ c1 c2 w (by omega) t2
    rw [G (by simp [rangeBad]; omega)]; exact rg_7g so nn mm a1 a2 _ _ c1 c2 w (by omega) (by omega)
  by_cases c8 : op = 8
  · subst c8
    have hso : so = 0 := by
      unfold zeroBad at hz
      simp at hz
      exact hz
    by_cases t1 : mm < 1
    · rw [T (by simp [rangeBad, *])]; exact rg_8a so nn mm a1 a2 _ _ c1 c2 w t1
    by_cases t2 : 64 < mm
    · rw [T (by simp [rangeBad, *])]; exact rg_8b so nn mm a1 a2 _ _ c1 c2 w (by omega) t2
    by_cases t3 : nn < 0
    · rw [T (by simp [rangeBad, *])]; exact rg_8c so nn mm a1 a2 _ _ c1 c2 w (by omega) (by omega) t3
    by_cases t4 : mm ≤ nn
    · rw [T (by simp [rangeBad, *])]; exact rg_8d so nn mm a1 a2 _ _ c1 c2 w (by omega) (by omega) (by omega) t4
    rw [G (by simp [rangeBad]; omega)]; exact rg_8g so nn mm a1 a2 _ _ c1 c2 w (by omega) (by omega) (by omega) (by omega)
  by_cases t1 : so < 0
  · rw [T (by simp [rangeBad, *])]; exact rg_oa op so nn mm a1 a2 _ _ c1 c2 w c7 c8 t1
  by_cases t2 : 3 < so
  · rw [T (by simp [rangeBad, *])]; exact rg_ob op so nn mm a1 a2 _ _ c1 c2 w c7 c8 (by omega) t2
  rw [G (by simp [rangeBad, c7, c8]; omega)]; exact rg_og op so nn mm a1 a2 _ _ c1 c2 w c7 c8 (by omega) (by omega)
end Go.Proofs.YtbnebkkpmcjmbaaDoor


namespace Go.Proofs.YtbnebkkpmcjmbaaDoor
open Go.RowKit Go.PL Go.Maps

theorem insN_mem {M : Nat} : ∀ {l : List Nd} {x : Nd}, insN M l → x ∈ l → inN M x
  | a :: l, x, h, hx => by
    unfold insN at h
    rcases List.mem_cons.1 hx with rfl | hx
    · exact h.1
    · exact insN_mem h.2 hx
end Go.Proofs.YtbnebkkpmcjmbaaDoor


namespace Go.Proofs.YtbnebkkpmcjmbaaDoor
open Go.RowKit Go.PL Go.Maps
theorem ident_all (s : List UInt8) : identF s = nameF s := by
  by_cases h : s.length ≤ 65536
  · exact ident_name h
  · have h1 : identF s = false := by
      unfold identF
      cases ho : oneF s with
      | none => rfl
      | some kv =>
        obtain ⟨k, v⟩ := kv
        exact absurd (oneF_real.1 ho).1 h
    have h2 : nameF s = false := by
      rw [Bool.eq_false_iff]
      intro hn
      simp only [nameF, Bool.and_eq_true, decide_eq_true_eq] at hn
      obtain ⟨⟨n1, -⟩, n3⟩ := hn
      cases s with
      | nil => exact n1 rfl
      | cons b t =>
        cases hc : classify (b :: t) with
        | error e => rw [hc] at n3; cases n3
        | ok p =>
          rw [hc] at n3
          simp only [classify] at hc
          split at hc
          · split at hc
            · cases hc
            · split at hc
              · cases hc
              · cases hc; simp at n3
          · split at hc
            · cases hc
            · split at hc
              · cases hc; simp at n3
              · split at hc
                · cases hc
                · omega
    rw [h1, h2]
set_option maxRecDepth 100000 in
set_option maxHeartbeats 12800000 in
theorem nodes_calls : ∀ (k : Nat) (nd : Nd), sizeF nd ≤ k → inN 10000000 nd → k ≤ 10000000 → ∀ (v : Value) (w : World) (P : Nat → Prop), NdV w P nd v → Env w → FEnv w → Calls Tryd.prog 32 #[v] w fun e w' => e = .returned (.int .i64 (formF nameF nd : Nat)) ∧ Upto [] w w'
  | 0, nd, hk, _, _, _, _, _, _, _, _ => by have := sizeF_pos nd; omega
  | k + 1, .mk op nms so nn mm l, hk, hin, hk7, v, w, P, h, he, hf => by
    have hin0 := hin
    obtain ⟨a1, c1, a2, c2, rfl, -, hg⟩ := h.open
    unfold inN at hin
    have HG := Lib.hid hg
    have hsz : sizesF l ≤ k := by simp only [sizeF] at hk; omega
    have HSZ := Lib.hid hsz
    have HIN := Lib.hid hin
    have HE := Lib.hid (And.intro he hf)
    have hu1 : Upto [] w (w.alloc (.cells #[.int .i64 op, .slice a1 nms.length c1, .int .i64 so, .int .i64 nn, .int .i64 mm, .slice a2 l.length c2] 30)) := (Upto.refl [] w).alloc _
    have HB1 := Lib.hid (new_at w (.cells #[.int .i64 op, .slice a1 nms.length c1, .int .i64 so, .int .i64 nn, .int .i64 mm, .slice a2 l.length c2] 30))
    have HU1 := Lib.hid hu1
    have hll := hin.2.2.1
    have hL0 : (0 : Int) ≤ l.length := by omega
    have hL1 : (l.length : Int) ≤ 10000000 := by omega
    have HID : Hid (nms.all identF = nms.all nameF) := Lib.hid (by rw [show identF = nameF from funext ident_all])
    by_cases hk0 : op < 0
    · have HF : Hid (formF nameF (.mk op nms so nn mm l) = 11) := Lib.hid (by unfold formF kindBad; rw [if_pos (by simp [hk0])])
      rw [HF.out]
      clear h hg hsz hk hu1 hin hin0 he hf
      go_enter Tryd.func32, Tryd.ntmps32
      go_wp2_with fail
      go_ret
      exact ⟨rfl, HU1.out⟩
    by_cases hk1 : 17 < op
    · have HF : Hid (formF nameF (.mk op nms so nn mm l) = 11) := Lib.hid (by unfold formF kindBad; rw [if_pos (by simp [hk1])])
      have hq : (18 : Int) ≤ op := by omega
      rw [HF.out]
      clear h hg hsz hk hu1 hin hin0 he hf
      go_enter Tryd.func32, Tryd.ntmps32
      go_wp2_with fail
      go_ret
      exact ⟨rfl, HU1.out⟩
    have hq : ¬ (18 : Int) ≤ op := by omega
    have HKB : Hid (kindBad op = false) := Lib.hid (by unfold kindBad; simp; omega)
    have HH := Lib.hid (fun u (hu : Upto [] w u) => hasf_calls op so nn mm nms l hin0 _ u P (h.ext hu) (he.ext hu) (hf.ext hu) (by omega) (by omega))
    by_cases hh : (!shapeBad op nms.length l.length && nms.all identF && !zeroBad op so nn mm) = false
    · have HF : Hid (formF nameF (.mk op nms so nn mm l) = 3) := Lib.hid (by
        unfold formF
        rw [if_neg (by rw [HKB.out]; decide)]
        rw [HID.out] at hh
        cases e1 : shapeBad op nms.length l.length with
        | true => rw [if_pos rfl]
        | false =>
          rw [if_neg (by decide)]
          cases e2 : nms.all nameF with
          | false => rw [if_pos rfl]
          | true =>
            rw [if_neg (by decide)]
            cases e3 : zeroBad op so nn mm with
            | true => rw [if_pos rfl]
            | false => rw [e1, e2, e3] at hh; cases hh)
      rw [HF.out]
      rw [hh] at HH
      have hb := new_at w (.cells #[.int .i64 op, .slice a1 nms.length c1, .int .i64 so, .int .i64 nn, .int .i64 mm, .slice a2 l.length c2] 30)
      obtain ⟨y0, y1, y2, y3, y4, y5⟩ := cells6 hb
      clear h hg hsz hk hu1 hin hin0 he hf hh hb
      go_enter Tryd.func32, Tryd.ntmps32
      go_wp2_with fail
      refine (HH.out _ HU1.out).mono ?_
      rintro e w5 ⟨rfl, hu5⟩
      have HU5 := Lib.hid (HU1.out.trans_ext hu5)
      clear hu5
      go_wp2_with fail
      go_ret
      exact ⟨rfl, HU5.out⟩
    have hh := (Bool.not_eq_false _).mp hh
    obtain ⟨hs1, hs2, hs3⟩ : shapeBad op nms.length l.length = false ∧ nms.all nameF = true ∧ zeroBad op so nn mm = false := by
      have h2 := hh
      rw [HID.out] at h2
      simp only [Bool.and_eq_true, Bool.not_eq_true'] at h2
      exact ⟨h2.1.1, h2.1.2, h2.2⟩
    rw [hh] at HH
    have HT : Hid (∀ n : Nat, (if rangeBad op so nn mm then 2 else formsF nameF l) = n → formF nameF (.mk op nms so nn mm l) = n) := Lib.hid (fun n hn => by
      unfold formF
      rw [if_neg (by rw [HKB.out]; decide), if_neg (by rw [hs1]; decide), if_neg (by rw [hs2]; decide), if_neg (by rw [hs3]; decide)]
      exact hn)
    have HR := Lib.hid (fun u (hu : Upto [] w u) => ranges_calls op so nn mm nms l _ u P (h.ext hu) hs3)
    have IH : Hid (∀ (nd : Nd), sizeF nd ≤ k → inN 10000000 nd → ∀ (v : Value) (u : World) (P : Nat → Prop), Upto [] w u → NdV u P nd v → Calls Tryd.prog 32 #[v] u fun e w' => e = .returned (.int .i64 (formF nameF nd : Nat)) ∧ Upto [] u w') := Lib.hid (fun nd h1 h2 v u P hu hn => nodes_calls k nd h1 h2 (by omega) v u P hn (he.ext hu) (hf.ext hu))
    clear hh hs1 hs2 hs3
    have hb := new_at w (.cells #[.int .i64 op, .slice a1 nms.length c1, .int .i64 so, .int .i64 nn, .int .i64 mm, .slice a2 l.length c2] 30)
    obtain ⟨y0, y1, y2, y3, y4, y5⟩ := cells6 hb
    cases hr : rangeBad op so nn mm with
    | true =>
      rw [HT.out 2 (by rw [hr]; rfl)]
      rw [hr] at HR
      clear h hg hsz hk hu1 hin hin0 he hf hb
      go_enter Tryd.func32, Tryd.ntmps32
      go_wp2_with fail
      refine (HH.out _ HU1.out).mono ?_
      rintro e w5 ⟨rfl, hu5⟩
      have HU5 := Lib.hid (HU1.out.trans_ext hu5)
      have hb5 := hu5.at HB1.out (by simp)
      obtain ⟨z0, z1, z2, z3, z4, z5⟩ := cells6 hb5
      clear hu5 hb5 y0 y1 y2 y3 y4 y5
      go_wp2_with fail
      refine (HR.out _ HU5.out).mono ?_
      rintro e w6 ⟨rfl, hu6⟩
      have HU6 := Lib.hid (HU5.out.trans_ext hu6)
      clear hu6
      go_wp2_with fail
      go_ret
      exact ⟨rfl, HU6.out⟩
    | false =>
      rw [HT.out _ (by rw [hr])]
      rw [hr] at HR
      clear h hg hsz hk hu1 hin hin0 he hf hb HT
      go_enter Tryd.func32, Tryd.ntmps32
      go_wp2_with fail
      refine (HH.out _ HU1.out).mono ?_
      rintro e w5 ⟨rfl, hu5⟩
      have HU5 := Lib.hid (HU1.out.trans_ext hu5)
      have hb5 := hu5.at HB1.out (by simp)
      have HB5 := Lib.hid hb5
      obtain ⟨z0, z1, z2, z3, z4, z5⟩ := cells6 hb5
      clear hu5 hb5 y0 y1 y2 y3 y4 y5
      go_wp2_with fail
      refine (HR.out _ HU5.out).mono ?_
      rintro e w6 ⟨rfl, hu6⟩
      have HU6 := Lib.hid (HU5.out.trans_ext hu6)
      have hb6 := hu6.at HB5.out (by simp)
      clear z0 z1 z2 z3 z4 z5
      have z5 := cell_of hb6 5
      simp only [List.getElem?_toArray, List.getElem?_cons_zero, List.getElem?_cons_succ] at z5
      have HB6 := Lib.hid (hu6.at HB5.out (by simp))
      clear hu6 hb6
      go_wp2_with fail
      go_loopw [26] (fun i wr => ∃ m : Nat, m ≤ l.length ∧ i = .int .i64 m ∧ Hid (formsF nameF (l.drop m) = formsF nameF l) ∧ Hid (Upto [] w6 wr)) (fun i _ => l.length - (intOf i).toNat)
      case atStart => exact ⟨0, by omega, rfl, Lib.hid rfl, Lib.hid (Upto.refl _ _)⟩
      case round =>
        obtain ⟨m, hm, rfl, HB9, HV⟩ := hrel
        have hm0 : (0 : Int) ≤ m := by omega
        have HW2 := Lib.hid (HU6.out.trans_ext HV.out)
        rcases Nat.lt_or_ge m l.length with hlt | hge2
        · have hltI : (m : Int) < l.length := by omega
          obtain ⟨x, hx⟩ : ∃ x, l[m]? = some x := ⟨_, List.getElem?_eq_getElem hlt⟩
          have HDR : Hid (l.drop m = x :: l.drop (m + 1)) := Lib.hid (by
            obtain ⟨hi, h3⟩ := List.getElem?_eq_some_iff.1 hx
            rw [List.drop_eq_getElem_cons hi, h3])
          obtain ⟨g, o, xo, xn1, xn2, xn3, xs, xm, xq, xl1, xl2, xl3, rfl, d0, d1, d2, d3, d4, d5, hnx⟩ := HG.out m x hx
          replace d0 := up_cell HW2.out d0
          replace d1 := up_cell HW2.out d1
          replace d2 := up_cell HW2.out d2
          replace d3 := up_cell HW2.out d3
          replace d4 := up_cell HW2.out d4
          replace d5 := up_cell HW2.out d5
          have hxa : Upto [] wr (wr.alloc (.cells #[.int .i64 xo, .slice xn1 xn2 xn3, .int .i64 xs, .int .i64 xm, .int .i64 xq, .slice xl1 xl2 xl3] 30)) := (Upto.refl [] wr).alloc _
          have HXA := Lib.hid (HW2.out.trans_ext hxa)
          have HXV := Lib.hid (HV.out.trans_ext hxa)
          have hn := new_at wr (.cells #[.int .i64 xo, .slice xn1 xn2 xn3, .int .i64 xs, .int .i64 xm, .int .i64 xq, .slice xl1 xl2 xl3] 30)
          obtain ⟨n0, n1, n2, n3, n4, n5⟩ := cells6 hn
          have HC := Lib.hid (IH.out x (by have := HSZ.out; have := sizesF_mem (List.mem_of_getElem? hx); omega) (insN_mem HIN.out.2.2.2 (List.mem_of_getElem? hx)) _ (wr.alloc (.cells #[.int .i64 xo, .slice xn1 xn2 xn3, .int .i64 xs, .int .i64 xm, .int .i64 xq, .slice xl1 xl2 xl3] 30)) P HXA.out (hnx.ext HXA.out))
          by_cases hz : formF nameF x = 0
          · have HA2 : Hid (formsF nameF (l.drop (m + 1)) = formsF nameF l) := Lib.hid (by
              rw [← HB9.out, HDR.out]
              conv => rhs; unfold formsF
              rw [hz]
              rfl)
            rw [hz] at HC
            clear hx hz hnx hxa hn
            go_wp2_with fail
            refine HC.out.mono ?_
            rintro e w7 ⟨rfl, hu7⟩
            have HU7 := Lib.hid (HXV.out.trans_ext hu7)
            clear hu7
            go_wp2_with fail
            go_roundw
            case rel => exact ⟨m + 1, by omega, by go_num, HA2, HU7⟩
            case measure => simp [intOf]; omega
          · have HF : Hid (formsF nameF l = formF nameF x) := Lib.hid (by
              rw [← HB9.out, HDR.out]
              unfold formsF
              rw [if_pos hz])
            generalize hfx : formF nameF x = fx at *
            have ez : ((fx : Int) == 0) = false := by rw [beq_eq_false_iff_ne]; omega
            have ez2 : ((fx : Int) != 0) = true := by rw [bne, ez]; rfl
            clear hx hz hnx hfx hxa hn
            go_wp2_with fail
            refine HC.out.mono ?_
            rintro e w7 ⟨rfl, hu7⟩
            have HU7 := Lib.hid (HXA.out.trans_ext hu7)
            clear hu7
            go_wp2_with fail
            go_ret
            rw [HF.out]
            exact ⟨rfl, HU7.out⟩
        · have hgeJ : ¬ (m : Int) < l.length := by omega
          have HF : Hid (formsF nameF l = 0) := Lib.hid (by
            rw [← HB9.out, List.drop_of_length_le (by omega)]
            rfl)
          go_wp2_with fail
          go_ret
          rw [HF.out]
          exact ⟨rfl, HW2.out⟩
end Go.Proofs.YtbnebkkpmcjmbaaDoor


namespace Go.Proofs.YtbnebkkpmcjmbaaDoor
open Go.RowKit Go.PL Go.Maps
set_option maxRecDepth 100000 in
set_option maxHeartbeats 3200000 in
theorem checkf_calls (nd : Nd) (v : Value) (w : World) (P : Nat → Prop) (h : NdV w P nd v) (hk : sizeF nd ≤ 10000000) (hin : inN 10000000 nd) (he : Env w) (hf : FEnv w) : Calls Tryd.prog 18 #[v] w fun e w' => e = .returned (.int .i64 (checkF nameF nd : Nat)) ∧ Upto [] w w' := by
  obtain ⟨xo, xn1, xn2, xn3, xs, xm, xq, xl1, xl2, xl3, rfl⟩ := h.six
  have hua : Upto [] w (w.alloc (.cells #[.int .i64 xo, .slice xn1 xn2 xn3, .int .i64 xs, .int .i64 xm, .int .i64 xq, .slice xl1 xl2 xl3] 30)) := (Upto.refl [] w).alloc _
  have HS := Lib.hid (fun u (hu : Upto [] w u) => nodes_calls _ nd (Nat.le_refl _) hin hk _ u P (h.ext hu) (he.ext hu) (hf.ext hu))
  have HD := Lib.hid (fun u (hu : Upto [] w u) => great_calls nd _ u P (h.ext hu) hk)
  have HUA := Lib.hid hua
  have HNB := Lib.hid (new_at w (.cells #[.int .i64 xo, .slice xn1 xn2 xn3, .int .i64 xs, .int .i64 xm, .int .i64 xq, .slice xl1 xl2 xl3] 30))
  clear h hua hin he hf
  by_cases h1 : formF nameF nd = 0
  · have HF : Hid (checkF nameF nd = greatF nd) := Lib.hid (by unfold checkF; rw [h1]; rfl)
    rw [HF.out]
    rw [h1] at HS
    clear h1
    go_enter Tryd.func18, Tryd.ntmps18
    go_wp2_with fail
    refine (HS.out _ HUA.out).mono ?_
    rintro e w5 ⟨rfl, hu5⟩
    have HU5 := Lib.hid (HUA.out.trans_ext hu5)
    have hb5 := hu5.at HNB.out (by simp)
    obtain ⟨y0, y1, y2, y3, y4, y5⟩ := cells6 hb5
    clear hu5 hb5
    go_wp2_with fail
    refine (HD.out _ HU5.out).mono ?_
    rintro e w6 ⟨rfl, hu6⟩
    have HU6 := Lib.hid (HU5.out.trans_ext hu6)
    clear hu6
    go_wp2_with fail
    go_ret
    exact ⟨rfl, HU6.out⟩
  · have HF : Hid (checkF nameF nd = formF nameF nd) := Lib.hid (by unfold checkF; rw [if_pos h1])
    rw [HF.out]
    generalize hfx : formF nameF nd = fx at *
    have ez : ((fx : Int) == 0) = false := by rw [beq_eq_false_iff_ne]; omega
    have ez2 : ((fx : Int) != 0) = true := by rw [bne, ez]; rfl
    clear hfx h1
    go_enter Tryd.func18, Tryd.ntmps18
    go_wp2_with fail
    refine (HS.out _ HUA.out).mono ?_
    rintro e w5 ⟨rfl, hu5⟩
    have HU5 := Lib.hid (HUA.out.trans_ext hu5)
    clear hu5
    go_wp2_with fail
    go_ret
    exact ⟨rfl, HU5.out⟩
end Go.Proofs.YtbnebkkpmcjmbaaDoor


namespace Go.Proofs.YtbnebkkpmcjmbaaDoor
open Go.RowKit Go.PL Go.Maps
def adjN : Nd := .mk 16 [[121]] 0 0 0 [.mk 5 [[120], [121]] 0 0 0 []]
theorem adj_check : checkF nameF adjN = 0 := by kernel_rfl
theorem adj_in : inN 10000000 adjN := by
  unfold adjN
  simp [inN, insN]
theorem name_x : identF [120] = true := by rw [ident_is]; kernel_rfl
theorem name_y : identF [121] = true := by rw [ident_is]; kernel_rfl
/-- a clone of the formula lies in three blocks that are apart -/
theorem adj_apart {w : World} {e : Ending} {w' : World} (h : ClPost2 w 16 [[121]] 0 0 0 [.mk 5 [[120], [121]] 0 0 0 []] e w') : ∃ g1 o1 c1 gl ol cl g o c2 c3 : Nat, ∃ a3 : Option Addr, e = .returned (.agg #[.int .i64 16, .slice (some ⟨g1, o1, none⟩) 1 c1, .int .i64 0, .int .i64 0, .int .i64 0, .slice (some ⟨gl, ol, none⟩) 1 cl]) ∧ (g1 ≠ gl ∧ g1 ≠ g ∧ gl ≠ g) ∧ QnB w' g1 o1 gl ol g o c2 c3 0 0 0 a3 [121] [120] [121] ∧ Upto [] w w' ∧ w.heap.size ≤ g1 ∧ w.heap.size ≤ gl ∧ w.heap.size ≤ g := by
  obtain ⟨vn, vl, m, rfl, hu, hs, hl⟩ := h
  rcases hs with ⟨h0, -⟩ | ⟨g1, o1, c1, rfl, ⟨⟨hn1, hm1⟩, -, -⟩, hcell⟩
  · simp at h0
  rcases hl with ⟨h0, -⟩ | ⟨gl, ol, cl, rfl, ⟨⟨hnl, hml⟩, -⟩, hnds⟩
  · cases h0
  unfold NdsV at hnds
  obtain ⟨⟨v0, v1, v2, v3, v4, v5, k0, k1, k2, k3, k4, k5, hnd⟩, -⟩ := hnds
  unfold NdV at hnd
  obtain ⟨vn2, vl2, e2, hs2, hl2⟩ := hnd
  simp only [Value.agg.injEq, Array.mk.injEq, List.cons.injEq, and_true] at e2
  obtain ⟨rfl, rfl, rfl, rfl, rfl, rfl⟩ := e2
  rcases hs2 with ⟨h0, -⟩ | ⟨g, o, c2, rfl, ⟨⟨hng, hmg, hne⟩, -, hcap⟩, hcell2⟩
  · simp at h0
  obtain ⟨a3, c3, rfl⟩ : ∃ a c, v5 = .slice a 0 c := by
    rcases hl2 with ⟨-, a, c, rfl⟩ | ⟨g, o, c, rfl, -⟩
    · exact ⟨a, c, rfl⟩
    · exact ⟨_, c, rfl⟩
  obtain ⟨cs1, t1, hh1⟩ := hn1.2
  obtain ⟨csl, tl, hhl⟩ := hnl.2
  obtain ⟨cs, t, hh⟩ := hng.2
  have n0 := hcell 0 (sV [121]) rfl
  have q0 := hcell2 0 (sV [120]) rfl
  have q1 := hcell2 1 (sV [121]) rfl
  rw [cell_of hh1] at n0
  rw [cell_of hh] at q0 q1
  rw [cell_of hhl] at k0 k1 k2 k3 k4 k5
  have a1 := hn1.1
  have a2 := hnl.1
  have a4 := hng.1
  unfold New at a1 a2 a4
  exact ⟨g1, o1, c1, gl, ol, cl, g, o, c2, c3, a3, rfl, ⟨by omega, by omega, fun e => hne e.symm⟩, ⟨⟨cs1, t1, hh1, n0⟩, ⟨csl, tl, hhl, k0, k1, k2, k3, k4, k5⟩, ⟨t, cs, ⟨cs, hh, q0, q1, fun _ _ _ => rfl⟩⟩, hcap⟩, hu, a1, a2, a4⟩
end Go.Proofs.YtbnebkkpmcjmbaaDoor


namespace Go.Proofs.YtbnebkkpmcjmbaaDoor
open Go.RowKit Go.PL Go.Maps
def RnPost (w : World) (e : Ending) (w' : World) : Prop := ∃ g1 o1 c1 gl ol cl g o c2 c3 : Nat, ∃ a3 : Option Addr, e = .returned (.tuple #[.agg #[.int .i64 16, .slice (some ⟨g1, o1, none⟩) 1 c1, .int .i64 0, .int .i64 0, .int .i64 0, .slice (some ⟨gl, ol, none⟩) 1 cl], .int .i64 0]) ∧ QnB w' g1 o1 gl ol g o c2 c3 0 0 0 a3 [121, 50] [121] [121, 50] ∧ Upto [] w w'
set_option maxRecDepth 100000 in
set_option maxHeartbeats 3200000 in
theorem renameT_calls (b1 b2 : Option Addr) (d1 d2 : Nat) (P : Nat → Prop) (w : World) (he : Env w) (hf : FEnv w) (h : NdV w P adjN (.agg #[.int .i64 16, .slice b1 1 d1, .int .i64 0, .int .i64 0, .int .i64 0, .slice b2 1 d2])) : Calls Tryd.prog 8 #[.agg #[.int .i64 16, .slice b1 1 d1, .int .i64 0, .int .i64 0, .int .i64 0, .slice b2 1 d2], .string ⟨[120].toArray⟩, .string ⟨[121].toArray⟩] w (RnPost w) := by
  obtain ⟨W, hW⟩ : ∃ W, W = (w.alloc (.cells #[.int .i64 16, .slice b1 1 d1, .int .i64 0, .int .i64 0, .int .i64 0, .slice b2 1 d2] 30)).alloc (.cells #[.int .i64 0, .slice none 0 0, .int .i64 0, .int .i64 0, .int .i64 0, .slice none 0 0] 30) := ⟨_, rfl⟩
  have HU : Hid (Upto [] w W) := Lib.hid (by rw [hW]; exact ((Upto.refl [] w).alloc _).alloc _)
  have HB1 : Hid (W.heap[w.heap.size]? = some (.cells #[.int .i64 16, .slice b1 1 d1, .int .i64 0, .int .i64 0, .int .i64 0, .slice b2 1 d2] 30 (0, 0))) := Lib.hid (by rw [hW]; exact alloc_old (new_at w _) _)
  have HB2 : Hid (W.heap[w.heap.size + 1]? = some (.cells #[.int .i64 0, .slice none 0 0, .int .i64 0, .int .i64 0, .int .i64 0, .slice none 0 0] 30 (0, 0))) := Lib.hid (by rw [hW]; exact new_at1 w _ _)
  have HCK : Hid (∀ u, Upto [] w u → Calls Tryd.prog 18 #[.agg #[.int .i64 16, .slice b1 1 d1, .int .i64 0, .int .i64 0, .int .i64 0, .slice b2 1 d2]] u fun e w' => e = .returned (.int .i64 0) ∧ Upto [] u w') := Lib.hid (fun u hu => by
    have := checkf_calls adjN _ u P (h.ext hu) (by decide) adj_in (he.ext hu) (hf.ext hu)
    rw [adj_check] at this
    exact this)
  have HIX : Hid (∀ u, Upto [] w u → Calls Tryd.prog 13 #[.string ⟨#[120]⟩] u fun e w' => e = .returned (.bool true) ∧ Upto [] u w') := Lib.hid (fun u hu => by
    have := isIdent_calls [120] u (he.ext hu) (by simp)
    rw [name_x] at this
    exact this)
  have HIY : Hid (∀ u, Upto [] w u → Calls Tryd.prog 13 #[.string ⟨#[121]⟩] u fun e w' => e = .returned (.bool true) ∧ Upto [] u w') := Lib.hid (fun u hu => by
    have := isIdent_calls [121] u (he.ext hu) (by simp)
    rw [name_y] at this
    exact this)
  have HCL := Lib.hid (fun u (hu : Upto [] w u) => fclone2_calls 9 16 [[121]] 0 0 0 [.mk 5 [[120], [121]] 0 0 0 []] (by decide) (by decide) (by simp [bigN, bigsN]) P _ u (h.ext hu))
  have HE := Lib.hid he
  obtain ⟨x0, x1, x2, x3, x4, x5⟩ := cells6 HB1.out
  clear h he hf
  go_enter Tryd.func8, Tryd.ntmps8
  go_wp2_with fail
  simp only [← hW]
  clear hW
  go_wp2_with fail
  refine (HCK.out _ HU.out).mono ?_
  rintro e w1 ⟨rfl, hu1⟩
  have HU1 := Lib.hid hu1
  clear hu1
  go_wp2_with fail
  refine (HIX.out _ (HU.out.trans_ext HU1.out)).mono ?_
  rintro e w2 ⟨rfl, hu2⟩
  have HU2 := Lib.hid (HU1.out.trans_ext hu2)
  clear hu2
  go_wp2_with fail
  refine (HIY.out _ (HU.out.trans_ext HU2.out)).mono ?_
  rintro e w3 ⟨rfl, hu3⟩
  have HU3 := Lib.hid (HU2.out.trans_ext hu3)
  have HC3 := Lib.hid (HU3.out.at HB1.out (by simp))
  clear hu3 x0 x1 x2 x3 x4 x5
  obtain ⟨x0, x1, x2, x3, x4, x5⟩ := cells6 HC3.out
  go_wp2_with fail
  refine (HCL.out _ (HU.out.trans_ext HU3.out)).mono ?_
  rintro e w4 hcp
  obtain ⟨g1, o1, c1, gl, ol, cl, g, o, c2, c3, a3, rfl, hd, hq, hu4, s1, s2, s3⟩ := adj_apart hcp
  have HW3 := Lib.hid (lt_of_heap (HU3.out.at HB2.out (by simp)))
  have HC4 := Lib.hid (hu4.at HC3.out (by simp))
  have HZ4 := Lib.hid (hu4.at (HU3.out.at HB2.out (by simp)) (by simp))
  have HU4 := Lib.hid (HU.out.trans_ext (HU3.out.trans_ext hu4))
  clear x0 x1 x2 x3 x4 x5 hcp hu4
  obtain ⟨x0, x1, x2, x3, x4, x5⟩ := cells6 HC4.out
  obtain ⟨f0, f1, f2, f3, f4, f5⟩ := frees6 HC4.out
  go_wp2_with fail
  obtain ⟨W5, hW5⟩ : ∃ W5, W5 = ((((((w4.setCell ⟨w.heap.size, 0, none⟩ (.int .i64 16)).setCell ⟨w.heap.size, 1, none⟩ (.slice (some ⟨g1, o1, none⟩) 1 c1)).setCell ⟨w.heap.size, 2, none⟩ (.int .i64 0)).setCell ⟨w.heap.size, 3, none⟩ (.int .i64 0)).setCell ⟨w.heap.size, 4, none⟩ (.int .i64 0)).setCell ⟨w.heap.size, 5, none⟩ (.slice (some ⟨gl, ol, none⟩) 1 cl)) := ⟨_, rfl⟩
  have HS5 : Hid (Upto [w.heap.size] w4 W5) := Lib.hid (by rw [hW5]; exact nd_self w4 w.heap.size (.int .i64 16) (.slice (some ⟨g1, o1, none⟩) 1 c1) (.int .i64 0) (.int .i64 0) (.int .i64 0) (.slice (some ⟨gl, ol, none⟩) 1 cl))
  have HC5 : Hid (W5.heap[w.heap.size]? = some (.cells #[.int .i64 16, .slice (some ⟨g1, o1, none⟩) 1 c1, .int .i64 0, .int .i64 0, .int .i64 0, .slice (some ⟨gl, ol, none⟩) 1 cl] 30 (0, 0))) := Lib.hid (by rw [hW5]; exact nd_store HC4.out (.int .i64 16) (.slice (some ⟨g1, o1, none⟩) 1 c1) (.int .i64 0) (.int .i64 0) (.int .i64 0) (.slice (some ⟨gl, ol, none⟩) 1 cl))
  have HU5 : Hid (Upto [] w W5) := Lib.hid (by rw [hW5]; exact nd_up HU4.out (Or.inr (by omega)) (.int .i64 16) (.slice (some ⟨g1, o1, none⟩) 1 c1) (.int .i64 0) (.int .i64 0) (.int .i64 0) (.slice (some ⟨gl, ol, none⟩) 1 cl))
  simp only [← hW5]
  clear hW5 x0 x1 x2 x3 x4 x5 f0 f1 f2 f3 f4 f5
  have HQ5 := Lib.hid (hq.away HS5.out (by have := HW3.out; simp; omega))
  have HZ5 := Lib.hid (HS5.out.at HZ4.out (by simp))
  have HSZ := Lib.hid (And.intro s1 (And.intro s2 s3))
  have HD := Lib.hid hd
  clear hq s1 s2 s3 hd
  obtain ⟨x0, x1, x2, x3, x4, x5⟩ := cells6 HC5.out
  go_wp2_with fail
  refine (rename16_calls g1 o1 c1 gl ol cl g o c2 c3 0 0 0 a3 W5 (HE.out.ext HU5.out) HD.out HQ5.out).mono ?_
  rintro e w6 ⟨rfl, hq6, hu6⟩
  have HQ6 := Lib.hid hq6
  have HZ6 := Lib.hid (hu6.at HZ5.out (by have := HSZ.out; have := HW3.out; simp; omega))
  have HU6 : Hid (Upto [] w w6) := Lib.hid (HU5.out.trans hu6 (fun k hk => Or.inr (by have := HSZ.out; have := HW3.out; simp at hk; omega)))
  clear hq6 hu6 x0 x1 x2 x3 x4 x5
  obtain ⟨x0, x1, x2, x3, x4, x5⟩ := cells6 HZ6.out
  obtain ⟨f0, f1, f2, f3, f4, f5⟩ := frees6 HZ6.out
  go_wp2_with fail
  clear x0 x1 x2 x3 x4 x5 f0 f1 f2 f3 f4 f5
  have hst := nd_store HZ6.out (.int .i64 16) (.slice (some ⟨g1, o1, none⟩) 1 c1) (.int .i64 0) (.int .i64 0) (.int .i64 0) (.slice (some ⟨gl, ol, none⟩) 1 cl)
  have hself := nd_self w6 (w.heap.size + 1) (.int .i64 16) (.slice (some ⟨g1, o1, none⟩) 1 c1) (.int .i64 0) (.int .i64 0) (.int .i64 0) (.slice (some ⟨gl, ol, none⟩) 1 cl)
  have hup := nd_up HU6.out (B := w.heap.size + 1) (Or.inr (by omega)) (.int .i64 16) (.slice (some ⟨g1, o1, none⟩) 1 c1) (.int .i64 0) (.int .i64 0) (.int .i64 0) (.slice (some ⟨gl, ol, none⟩) 1 cl)
  have hqn := HQ6.out.away hself (by have := HSZ.out; have := HW3.out; simp; omega)
  obtain ⟨q0, q1, q2, q3, q4, q5⟩ := cells6 hst
  exact bodyPost_ret (v := .tuple #[.agg #[.int .i64 16, .slice (some ⟨g1, o1, none⟩) 1 c1, .int .i64 0, .int .i64 0, .int .i64 0, .slice (some ⟨gl, ol, none⟩) 1 cl], .int .i64 0]) (by simp [results, Tryd.results8, go_sem, q0, q1, q2, q3, q4, q5]) rfl ⟨g1, o1, c1, gl, ol, cl, g, o, c2, c3, a3, rfl, hqn, hup⟩
end Go.Proofs.YtbnebkkpmcjmbaaDoor


namespace Go.Proofs.YtbnebkkpmcjmbaaDoor
open Go.RowKit Go.PL Go.Maps
/-- a look-up in a set of names -/
theorem seen_look {w : World} {b : Nat} {L : List (List UInt8)} (hm : MapL Tryd.prog 9 w b (L.map kwE)) (x : List UInt8) (hl : x.length ≤ 9223372036854775807) : (Instr.lookup 70 (.map (some b)) (.string ⟨x.toArray⟩) false).run Tryd.prog w = .ok (.bool (L.contains x)) w := by
  rcases hm.look lawS Tryd.underlying70 (zeroB w) (sb_key hl) false with ⟨h1, h2⟩ | ⟨u, h1, h2⟩
  · have : L.contains x = false := by
      cases hc : L.contains x with
      | false => rfl
      | true => exact absurd rfl (h2 (kwE x) (List.mem_map.2 ⟨x, by simpa using hc, rfl⟩))
    rw [this]
    exact h1
  · obtain ⟨y, hy, hq⟩ := List.mem_map.1 h1
    have hq1 : sb y = sb x := congrArg Prod.fst hq
    have hq2 : Value.bool true = u := congrArg Prod.snd hq
    have hyx := sb_inj hq1
    subst hyx
    have : L.contains y = true := by simpa using hy
    rw [this, hq2]
    exact h2
theorem seen_new {L : List (List UInt8)} {x : List UInt8} (h : L.contains x = false) : ∀ p ∈ L.map kwE, p.1 ≠ sb x := by
  intro p hp e
  obtain ⟨y, hy, rfl⟩ := List.mem_map.1 hp
  have hyx : y = x := sb_inj e
  subst hyx
  rw [List.contains_iff_mem.2 hy] at h
  cases h
theorem sortW_nil {s : Int} : sortW s = [] ↔ s < 0 ∨ 3 < s := by
  unfold sortW
  split; simp; omega
  split; simp; omega
  split; simp; omega
  split; simp; omega
  simp; omega
set_option maxRecDepth 100000 in
set_option maxHeartbeats 12800000 in
theorem checkq_calls (q : Qn) (v : Value) (w : World) (P : Nat → Prop) (h : QnV w P q v) (hk : sizeF q.body ≤ 10000000) (hin : inN 10000000 q.body) (hfn : ∀ y ∈ q.free, y.1.length ≤ 10000000) (hE : Env w ∧ SEnv w ∧ FEnv w) : Calls Tryd.prog 21 #[v] w fun e w' => e = .returned (.int .i64 (rightF nameF q : Nat)) ∧ Upto [] w w' := by
  obtain ⟨he, hse, hfe⟩ := hE
  obtain ⟨f1, f3, o1, a1, a2, a3, s1, n1, m1, l1, l2, l3, rfl, hv, hn⟩ := h.open
  have hu1 : Upto [] w (w.alloc (.cells #[.slice f1 q.free.length f3, .int .i64 o1, .slice a1 a2 a3, .int .i64 s1, .int .i64 n1, .int .i64 m1, .slice l1 l2 l3] 39)) := (Upto.refl [] w).alloc _
  have HU1 := Lib.hid hu1
  by_cases h8 : 8 < q.free.length
  · have h8I : (8 : Int) < q.free.length := by omega
    have HF : Hid (rightF nameF q = 8) := Lib.hid (by unfold rightF; rw [if_pos h8])
    rw [HF.out]
    clear h hv hn hk hin hfn hu1 he hse hfe
    go_enter Tryd.func21, Tryd.ntmps21
    go_wp2_with fail
    go_ret
    exact ⟨rfl, HU1.out⟩
  have h8I : ¬ (8 : Int) < q.free.length := by omega
  have H8 := Lib.hid h8
  have HG := Lib.hid (vars_slice hv)
  have HFN := Lib.hid hfn
  have HCK := Lib.hid (fun u (hu : Upto [] w u) => checkf_calls q.body _ u P (hn.ext hu) hk hin (he.ext hu) (hfe.ext hu))
  have HID := Lib.hid (fun (x : List UInt8) (hx : x.length ≤ 281474976710656) u (hu : Upto [] w u) => isIdent_calls x u (he.ext hu) hx)
  have HSN := Lib.hid (fun (s : Int) u (hu : Upto [] w u) => sname_calls s u (hse.upto hu (by simp)))
  have hL0 : (0 : Int) ≤ q.free.length := by omega
  have hL1 : (q.free.length : Int) ≤ 8 := by omega
  have hm0 := MapL.made Tryd.prog 9 (w.alloc (.cells #[.slice f1 q.free.length f3, .int .i64 o1, .slice a1 a2 a3, .int .i64 s1, .int .i64 n1, .int .i64 m1, .slice l1 l2 l3] 39))
  have hsz : (w.alloc (.cells #[.slice f1 q.free.length f3, .int .i64 o1, .slice a1 a2 a3, .int .i64 s1, .int .i64 n1, .int .i64 m1, .slice l1 l2 l3] 39)).heap.size = w.heap.size + 1 := by simp
  rw [hsz] at hm0
  have HM0 := Lib.hid hm0
  have hu2 : Upto [] w ((w.alloc (.cells #[.slice f1 q.free.length f3, .int .i64 o1, .slice a1 a2 a3, .int .i64 s1, .int .i64 n1, .int .i64 m1, .slice l1 l2 l3] 39)).alloc (.map #[] 0)) := hu1.alloc _
  have HU2 := Lib.hid hu2
  have HB1 := Lib.hid (alloc_old (new_at w (.cells #[.slice f1 q.free.length f3, .int .i64 o1, .slice a1 a2 a3, .int .i64 s1, .int .i64 n1, .int .i64 m1, .slice l1 l2 l3] 39)) (.map #[] 0))
  have hmm := @run_makeMap Tryd.prog
  clear h hv hn hk hin hfn hu1 hu2 h8 hm0 hsz he hse hfe
  go_enter Tryd.func21, Tryd.ntmps21
  go_wp2_with fail
  generalize hW2 : ((w.alloc (.cells #[.slice f1 q.free.length f3, .int .i64 o1, .slice a1 a2 a3, .int .i64 s1, .int .i64 n1, .int .i64 m1, .slice l1 l2 l3] 39)).alloc (.map #[] 0)) = W2 at *
  obtain ⟨bm, hbm, HBM⟩ : ∃ bm, bm = w.heap.size + 1 ∧ Hid (bm = w.heap.size + 1) := ⟨_, rfl, Lib.hid rfl⟩
  rw [← hbm] at HM0 ⊢
  have HBW : Hid (w.heap.size < W2.heap.size) := Lib.hid (by rw [← hW2]; simp; omega)
  clear hW2 hbm hmm
  go_loopw [14] (fun i wr => ∃ j : Nat, j ≤ q.free.length ∧ i = .int .i64 j ∧ Hid (varsE nameF (q.free.drop j) ((q.free.take j).map Prod.fst) = varsE nameF q.free []) ∧ Hid (MapL Tryd.prog 9 wr bm (((q.free.take j).map Prod.fst).map kwE)) ∧ Hid (Upto [bm] W2 wr)) (fun i _ => q.free.length - (intOf i).toNat)
  case atStart => exact ⟨0, by omega, rfl, Lib.hid (by simp), HM0, Lib.hid (Upto.refl _ _)⟩
  case round =>
    obtain ⟨j, hj, rfl, HE, HM, HU⟩ := hrel
    have hj0 : (0 : Int) ≤ j := by omega
    have hb := HU.out.at HB1.out (by have := HBM.out; simp; omega)
    obtain ⟨y0, y1, y2, y3, y4, y5, y6⟩ := cells7 hb
    have HW : Hid (Upto [] w wr) := Lib.hid (HU2.out.trans HU.out (fun k hk => by have := HBM.out; simp at hk; subst hk; right; omega))
    rcases Nat.lt_or_ge j q.free.length with hlt | hge
    · have hltI : (j : Int) < q.free.length := by omega
      obtain ⟨x, hx⟩ : ∃ x, q.free[j]? = some x := ⟨_, List.getElem?_eq_getElem hlt⟩
      have HDR : Hid (q.free.drop j = x :: q.free.drop (j + 1)) := Lib.hid (by
        obtain ⟨hi, h3⟩ := List.getElem?_eq_some_iff.1 hx
        rw [List.drop_eq_getElem_cons hi, h3])
      have HTK : Hid ((q.free.take (j + 1)).map Prod.fst = (q.free.take j).map Prod.fst ++ [x.1]) := Lib.hid (by
        rw [List.take_add_one, hx]
        simp)
      have hnl := HFN.out x (List.mem_of_getElem? hx)
      obtain ⟨g, o, rfl, c0, c1⟩ := HG.out j x hx
      replace c0 := up_cell HW.out c0
      replace c1 := up_cell HW.out c1
      obtain ⟨x1, x2⟩ := x
      simp only at c0 c1 hnl HTK
      have hxa : Upto [] wr (wr.alloc (.cells #[.string ⟨x1.toArray⟩, .int .i64 x2] 54)) := (Upto.refl [] wr).alloc _
      have HXV := Lib.hid (HU.out.trans_same (hxa.mono (by simp)))
      have HXA := Lib.hid (HW.out.trans_ext hxa)
      have HXM := Lib.hid (HM.out.upto hxa (by simp))
      have hn := new_at wr (.cells #[.string ⟨x1.toArray⟩, .int .i64 x2] 54)
      have HN := Lib.hid hn
      obtain ⟨n0, n1⟩ := cells2 hn
      have HC := Lib.hid (HID.out x1 (by omega) _ HXA.out)
      rw [ident_all] at HC
      have hbb : nameF x1 = true ∨ nameF x1 = false := by cases nameF x1 <;> simp
      rcases hbb with hb2 | hb2
      case inr =>
        have HF : Hid (rightF nameF q = 3) := Lib.hid (right_vars H8.out (by decide) (by rw [← HE.out, HDR.out]; unfold varsE; rw [if_pos hb2]))
        rw [hb2] at HC
        clear hx hb hb2 hxa hn hnl
        go_wp2_with fail
        refine HC.out.mono ?_
        rintro e w5 ⟨rfl, hu5⟩
        have HU5 := Lib.hid (HXA.out.trans_ext hu5)
        clear hu5
        go_wp2_with fail
        go_ret
        rw [HF.out]
        exact ⟨rfl, HU5.out⟩
      case inl =>
        have hKx : x1.length ≤ 9223372036854775807 := by omega
        by_cases hs : (decide (x2 < 0) || decide (3 < x2)) = true
        · have HF : Hid (rightF nameF q = 2) := Lib.hid (right_vars H8.out (by decide) (by rw [← HE.out, HDR.out]; unfold varsE; rw [if_neg (by rw [hb2]; decide), if_pos hs]))
          rw [hb2] at HC
          have HSW : Hid (sortW x2 = []) := Lib.hid (sortW_nil.2 (by simpa using hs))
          clear hx hb hb2 hxa hn hnl hs hKx
          go_wp2_with fail
          refine HC.out.mono ?_
          rintro e w5 ⟨rfl, hu5⟩
          have HU5 := Lib.hid (HXA.out.trans_ext hu5)
          have HS := Lib.hid (HSN.out x2 _ HU5.out)
          rw [HSW.out] at HS
          have hb5 := hu5.at HN.out (by simp)
          obtain ⟨z0, z1⟩ := cells2 hb5
          clear hu5 hb5 z0
          go_wp2_with fail
          refine HS.out.mono ?_
          rintro e w6 ⟨rfl, hu6⟩
          have HU6 := Lib.hid (HU5.out.trans_ext hu6)
          clear hu6
          go_wp2_with fail
          go_ret
          rw [HF.out]
          exact ⟨rfl, HU6.out⟩
        have HS9 := Lib.hid hs
        have HSW : Hid (sortW x2 ≠ []) := Lib.hid (fun e => hs (by have := sortW_nil.1 e; simpa using this))
        have HNM := Lib.hid hb2
        rw [hb2] at HC
        obtain ⟨SW, hSW⟩ : ∃ SW, SW = sortW x2 := ⟨_, rfl⟩
        have hsw0 : SW ≠ [] := by rw [hSW]; exact HSW.out
        have HSV : Hid (sortW x2 = SW) := Lib.hid hSW.symm
        have e1 : (SW == []) = false := by simpa using hsw0
        have e2 : SW.isEmpty = false := by cases SW with | nil => exact absurd rfl hsw0 | cons a r => rfl
        clear hx hb hb2 hxa hn hnl hs hSW hsw0
        go_wp2_with fail
        refine HC.out.mono ?_
        rintro e w5 ⟨rfl, hu5⟩
        have HU5 := Lib.hid (HXA.out.trans_ext hu5)
        have HV5 := Lib.hid (HXV.out.trans_same (hu5.mono (by simp)))
        have HM5 := Lib.hid (HXM.out.upto hu5 (by simp))
        have HS := Lib.hid (HSN.out x2 _ HU5.out)
        rw [HSV.out] at HS
        have HN5 := Lib.hid (hu5.at HN.out (by simp))
        have hb5 := HN5.out
        obtain ⟨z0, z1⟩ := cells2 hb5
        clear hu5 hb5
        go_wp2_with fail
        refine HS.out.mono ?_
        rintro e w6 ⟨rfl, hu6⟩
        have HU6 := Lib.hid (HU5.out.trans_ext hu6)
        have HV6 := Lib.hid (HV5.out.trans_same (hu6.mono (by simp)))
        have HM6 := Lib.hid (HM5.out.upto hu6 (by simp))
        have hb6 := hu6.at HN5.out (by simp)
        obtain ⟨u0, u1⟩ := cells2 hb6
        have hlk := seen_look HM6.out x1 hKx
        clear hu6 hb6 z0 z1
        have hbb : ((q.free.take j).map Prod.fst).contains x1 = true ∨ ((q.free.take j).map Prod.fst).contains x1 = false := by cases ((q.free.take j).map Prod.fst).contains x1 <;> simp
        rcases hbb with hb2 | hb2
        · have HF : Hid (rightF nameF q = 7) := Lib.hid (right_vars H8.out (by decide) (by
            rw [← HE.out, HDR.out]; unfold varsE
            rw [if_neg (by rw [HNM.out]; decide), if_neg HS9.out, if_pos hb2]))
          rw [hb2] at hlk
          clear hb2
          go_wp2_with fail
          go_ret
          rw [HF.out]
          exact ⟨rfl, HU6.out⟩
        · have HE2 : Hid (varsE nameF (q.free.drop (j + 1)) ((q.free.take (j + 1)).map Prod.fst) = varsE nameF q.free []) := Lib.hid (by
            rw [HTK.out, ← HE.out, HDR.out]
            conv => rhs; unfold varsE
            rw [if_neg (by rw [HNM.out]; decide), if_neg HS9.out, if_neg (by rw [hb2]; decide)])
          have HNW := Lib.hid (seen_new hb2)
          have HKX := Lib.hid (sb_key hKx)
          have HT2 : Hid (((q.free.take (j + 1)).map Prod.fst).map kwE = ((q.free.take j).map Prod.fst).map kwE ++ [(sb x1, .bool true)]) := Lib.hid (by rw [HTK.out, List.map_append]; rfl)
          rw [hb2] at hlk
          clear hb2
          go_wp2_with (refine wpList_insert _ rfl _ _ _ 70 rfl 9 4 lawS Tryd.underlying70 bm _ rfl HM6.out (sb x1) (.bool true) _ rfl rfl HKX.out HNW.out ?_; intro w7 hm7 hg7)
          have HM7 := Lib.hid hm7
          have HV7 := Lib.hid (HV6.out.grown hg7 (fun k hk => by cases hk; simp))
          clear hm7 hg7 hlk
          go_wp2_with fail
          go_roundw
          case rel => exact ⟨j + 1, by omega, by go_num, HE2, by rw [HT2.out]; exact HM7, HV7⟩
          case measure => simp [intOf]; omega
    · have hgeI : ¬ (j : Int) < q.free.length := by omega
      have HF : Hid (rightF nameF q = checkF nameF q.body) := Lib.hid (right_body H8.out (by
        rw [← HE.out, List.drop_of_length_le (by omega)]
        rfl))
      have HC := Lib.hid (HCK.out wr HW.out)
      clear hb
      go_wp2_with fail
      refine HC.out.mono ?_
      rintro e w5 ⟨rfl, hu5⟩
      have HU5 := Lib.hid (HW.out.trans_ext hu5)
      clear hu5
      go_wp2_with fail
      go_ret
      rw [HF.out]
      exact ⟨rfl, HU5.out⟩
end Go.Proofs.YtbnebkkpmcjmbaaDoor


namespace Go.Proofs.YtbnebkkpmcjmbaaDoor
open Go.RowKit Go.PL Go.Maps
theorem adj_right : rightF nameF ⟨[], adjN⟩ = 0 := by kernel_rfl
set_option maxRecDepth 100000 in
set_option maxHeartbeats 2000000 in
theorem check9_calls (g1 o1 c1 gl ol cl g o c2 : Nat) (so nn mm : Int) (a3 : Option Addr) (c3 : Nat) (P : Nat → Prop) (w : World) (hE : Env w ∧ SEnv w ∧ FEnv w) (hv : NdV w P adjN (.agg #[.int .i64 16, .slice (some ⟨g1, o1, none⟩) 1 c1, .int .i64 0, .int .i64 0, .int .i64 0, .slice (some ⟨gl, ol, none⟩) 1 cl])) (hn : w.cell? ⟨g1, o1, none⟩ = some (sV [121])) (h0 : w.cell? ⟨g, o, none⟩ = some (sV [120])) (hl : LfB w gl ol (some ⟨g, o, none⟩) 2 c2 so nn mm a3 c3) : Calls Tryd.prog 9 #[.agg #[.slice none 0 0, .int .i64 16, .slice (some ⟨g1, o1, none⟩) 1 c1, .int .i64 0, .int .i64 0, .int .i64 0, .slice (some ⟨gl, ol, none⟩) 1 cl]] w fun e w' => e = .returned (.agg #[.int .i64 21, .string ⟨#[120]⟩]) ∧ Upto [] w w' := by
  obtain ⟨W, hW⟩ : ∃ W, W = (w.alloc (.cells #[.slice none 0 0, .int .i64 16, .slice (some ⟨g1, o1, none⟩) 1 c1, .int .i64 0, .int .i64 0, .int .i64 0, .slice (some ⟨gl, ol, none⟩) 1 cl] 39)).alloc (.cells #[.int .i64 0, .string ⟨#[]⟩] 35) := ⟨_, rfl⟩
  have HU : Hid (Upto [] w W) := Lib.hid (by rw [hW]; exact ((Upto.refl [] w).alloc _).alloc _)
  have HB1 : Hid (W.heap[w.heap.size]? = some (.cells #[.slice none 0 0, .int .i64 16, .slice (some ⟨g1, o1, none⟩) 1 c1, .int .i64 0, .int .i64 0, .int .i64 0, .slice (some ⟨gl, ol, none⟩) 1 cl] 39 (0, 0))) := Lib.hid (by rw [hW]; exact alloc_old (new_at w _) _)
  have HB2 : Hid (W.heap[w.heap.size + 1]? = some (.cells #[.int .i64 0, .string ⟨#[]⟩] 35 (0, 0))) := Lib.hid (by rw [hW]; exact new_at1 w _ _)
  have HCQ : Hid (∀ u, Upto [] w u → Calls Tryd.prog 21 #[.agg #[.slice none 0 0, .int .i64 16, .slice (some ⟨g1, o1, none⟩) 1 c1, .int .i64 0, .int .i64 0, .int .i64 0, .slice (some ⟨gl, ol, none⟩) 1 cl]] u fun e w' => e = .returned (.int .i64 0) ∧ Upto [] u w') := Lib.hid (fun u hu => by
    have := checkq_calls ⟨[], adjN⟩ (.agg #[.slice none 0 0, .int .i64 16, .slice (some ⟨g1, o1, none⟩) 1 c1, .int .i64 0, .int .i64 0, .int .i64 0, .slice (some ⟨gl, ol, none⟩) 1 cl]) u P ⟨_, _, _, _, _, _, _, rfl, SlP.nil, hv.ext hu⟩ (by decide) adj_in (by simp) ⟨hE.1.ext hu, hE.2.1.upto hu (by simp), hE.2.2.ext hu⟩
    rw [adj_right] at this
    exact this)
  have HCK := Lib.hid (fun b u (hu : Upto [] w u) hb => check16_calls g1 o1 c1 gl ol cl g o c2 so nn mm a3 c3 b u hb ((hu.cell (World.block_lt_of_cell? w _ hn) (by simp)).trans hn) ((hu.cell (World.block_lt_of_cell? w _ h0) (by simp)).trans h0) (hl.ext hu))
  obtain ⟨x0, x1, x2, x3, x4, x5, x6⟩ := cells7 HB1.out
  clear hl h0 hn hv hE
  have hmm := @run_makeMap Tryd.prog
  go_enter Tryd.func9, Tryd.ntmps9
  go_wp2_with fail
  simp only [← hW]
  clear hW
  go_wp2_with fail
  refine (HCQ.out _ HU.out).mono ?_
  rintro e w1 ⟨rfl, hu1⟩
  have HU1 := Lib.hid (HU.out.trans_ext hu1)
  have HB3 := Lib.hid (hu1.at HB1.out (by simp))
  have HR3 := Lib.hid (hu1.at HB2.out (by simp))
  clear hu1 x0 x1 x2 x3 x4 x5 x6
  obtain ⟨W4, hW4⟩ : ∃ W4, W4 = w1.alloc (.map #[] 0) := ⟨_, rfl⟩
  have HU4 : Hid (Upto [] w W4) := Lib.hid (by rw [hW4]; exact HU1.out.alloc _)
  have HB4 : Hid (W4.heap[w.heap.size]? = some (.cells #[.slice none 0 0, .int .i64 16, .slice (some ⟨g1, o1, none⟩) 1 c1, .int .i64 0, .int .i64 0, .int .i64 0, .slice (some ⟨gl, ol, none⟩) 1 cl] 39 (0, 0))) := Lib.hid (by rw [hW4]; exact alloc_old HB3.out _)
  have HR4 : Hid (W4.heap[w.heap.size + 1]? = some (.cells #[.int .i64 0, .string ⟨#[]⟩] 35 (0, 0))) := Lib.hid (by rw [hW4]; exact alloc_old HR3.out _)
  have HM4 : Hid (W4.heap[w1.heap.size]? = some (.map #[] 0)) := Lib.hid (by rw [hW4]; exact (Go.MapKept.heap_alloc w1 _).1)
  obtain ⟨x0, x1, x2, x3, x4, x5, x6⟩ := cells7 HB4.out
  rw [hW4] at x0 x1 x2 x3 x4 x5 x6
  go_wp2_with fail
  simp only [← hW4] at x0 x1 x2 x3 x4 x5 x6 ⊢
  clear hW4
  go_loopw [17] (fun vi wr => vi = .int .i64 0 ∧ wr = W4) (fun _ _ => 0)
  case atStart => exact ⟨rfl, rfl⟩
  case round =>
    obtain ⟨rfl, rfl⟩ := hrel
    go_wp2_with fail
    refine (HCK.out _ _ HU4.out HM4.out).mono ?_
    rintro e w7 ⟨rfl, hu7⟩
    have HR7 := Lib.hid (hu7.at HR4.out (by simp))
    have HU7 := Lib.hid (HU4.out.trans_ext hu7)
    clear hu7 x0 x1 x2 x3 x4 x5 x6
    obtain ⟨y0, y1⟩ := cells2 HR7.out
    obtain ⟨f0, f1⟩ := frees2 HR7.out
    go_wp2_with fail
    clear y0 y1 f0 f1
    have hst := set_same (set_same HR7.out 0 (.int .i64 21)) 1 (.string ⟨#[120]⟩)
    simp only [List.setIfInBounds_toArray, List.set_cons_zero, List.set_cons_succ] at hst
    have hup := (HU7.out.setCell (p := ⟨w.heap.size + 1, 0, none⟩) (Or.inr (by simp)) (.int .i64 21)).setCell (p := ⟨w.heap.size + 1, 1, none⟩) (Or.inr (by simp)) (.string ⟨#[120]⟩)
    obtain ⟨q0, q1⟩ := cells2 hst
    exact bodyPost_ret (v := .agg #[.int .i64 21, .string ⟨#[120]⟩]) (by simp [results, Tryd.results9, go_sem, q0, q1]) rfl ⟨rfl, hup⟩
end Go.Proofs.YtbnebkkpmcjmbaaDoor


namespace Go.Proofs.YtbnebkkpmcjmbaaDoor
open Go.RowKit Go.PL Go.Maps
theorem fresh_a3 : freshF [97] [[97], [97, 50]] = [97, 51] := by kernel_rfl
set_option maxRecDepth 100000 in
set_option maxHeartbeats 4000000 in
theorem known12_calls (w : World) (hE : Env w ∧ SEnv w ∧ FEnv w) : Calls Tryd.prog 4 #[] w fun e w' => e = .returned (.bool true) ∧ Upto [] w w' := by
  obtain ⟨he, hse, hfe⟩ := hE
  obtain ⟨W, hW⟩ : ∃ W, W = (((w.alloc (.cells #[.string ⟨#[121]⟩] 9)).alloc (.cells #[.string ⟨#[120]⟩, .string ⟨#[121]⟩] 9)).alloc (.cells #[.int .i64 5, .slice (some ⟨w.heap.size + 1, 0, none⟩) 2 2, .int .i64 0, .int .i64 0, .int .i64 0, .slice none 0 0] 30)).alloc (.cells #[.int .i64 16, .slice (some ⟨w.heap.size, 0, none⟩) 1 1, .int .i64 0, .int .i64 0, .int .i64 0, .slice (some ⟨w.heap.size + 1 + 1, 0, none⟩) 1 1] 30) := ⟨_, rfl⟩
  have HU : Hid (Upto [] w W) := Lib.hid (by rw [hW]; exact ((((Upto.refl [] w).alloc _).alloc _).alloc _).alloc _)
  have HB0 : Hid (W.heap[w.heap.size]? = some (.cells #[.string ⟨#[121]⟩] 9 (0, 0))) := Lib.hid (by rw [hW]; exact alloc_old (alloc_old (alloc_old (new_at w _) _) _) _)
  have HB1 : Hid (W.heap[w.heap.size + 1]? = some (.cells #[.string ⟨#[120]⟩, .string ⟨#[121]⟩] 9 (0, 0))) := Lib.hid (by rw [hW]; exact alloc_old (alloc_old (new_at1 w _ _) _) _)
  have HB2 : Hid (W.heap[w.heap.size + 1 + 1]? = some (.cells #[.int .i64 5, .slice (some ⟨w.heap.size + 1, 0, none⟩) 2 2, .int .i64 0, .int .i64 0, .int .i64 0, .slice none 0 0] 30 (0, 0))) := Lib.hid (by rw [hW]; exact alloc_old (new_at2 w _ _ _) _)
  have HB3 : Hid (W.heap[w.heap.size + 1 + 1 + 1]? = some (.cells #[.int .i64 16, .slice (some ⟨w.heap.size, 0, none⟩) 1 1, .int .i64 0, .int .i64 0, .int .i64 0, .slice (some ⟨w.heap.size + 1 + 1, 0, none⟩) 1 1] 30 (0, 0))) := Lib.hid (by
    rw [hW]
    have := new_at (((w.alloc (.cells #[.string ⟨#[121]⟩] 9)).alloc (.cells #[.string ⟨#[120]⟩, .string ⟨#[121]⟩] 9)).alloc (.cells #[.int .i64 5, .slice (some ⟨w.heap.size + 1, 0, none⟩) 2 2, .int .i64 0, .int .i64 0, .int .i64 0, .slice none 0 0] 30)) (.cells #[.int .i64 16, .slice (some ⟨w.heap.size, 0, none⟩) 1 1, .int .i64 0, .int .i64 0, .int .i64 0, .slice (some ⟨w.heap.size + 1 + 1, 0, none⟩) 1 1] 30)
    simpa using this)
  have HND : Hid (NdV W (fun _ => True) adjN (.agg #[.int .i64 16, .slice (some ⟨w.heap.size, 0, none⟩) 1 1, .int .i64 0, .int .i64 0, .int .i64 0, .slice (some ⟨w.heap.size + 1 + 1, 0, none⟩) 1 1])) := Lib.hid (NdV.one (SlP.block trivial HB0.out 1 1 [sV [121]] (fun j u hj => by simpa [sV] using hj)) (NdV.atom (SlP.block trivial HB1.out 2 2 [sV [120], sV [121]] (fun j u hj => by simpa [sV] using hj))) trivial HB2.out)
  have HLF : Hid (LfB W (w.heap.size + 1 + 1) 0 (some ⟨w.heap.size + 1, 0, none⟩) 2 2 0 0 0 none 0) := Lib.hid (by
    obtain ⟨k0, k1, k2, k3, k4, k5⟩ := cells6 HB2.out
    exact ⟨k0, k1, k2, k3, k4, k5⟩)
  have HN1 : Hid (W.cell? ⟨w.heap.size, 0, none⟩ = some (sV [121])) := Lib.hid (cell_of HB0.out 0)
  have HN0 : Hid (W.cell? ⟨w.heap.size + 1, 0, none⟩ = some (sV [120])) := Lib.hid (cell_of HB1.out 0)
  have HRN := Lib.hid (renameT_calls (some ⟨w.heap.size, 0, none⟩) (some ⟨w.heap.size + 1 + 1, 0, none⟩) 1 1 _ W (he.ext HU.out) (hfe.ext HU.out) HND.out)
  have HC9 := Lib.hid (fun u (hu : Upto [] W u) => check9_calls w.heap.size 0 1 (w.heap.size + 1 + 1) 0 1 (w.heap.size + 1) 0 2 0 0 0 none 0 _ u ⟨(he.ext HU.out).ext hu, (hse.upto HU.out (by simp)).upto hu (by simp), (hfe.ext HU.out).ext hu⟩ (HND.out.ext hu) ((hu.cell (World.block_lt_of_cell? W _ HN1.out) (by simp)).trans HN1.out) ((hu.cell (World.block_lt_of_cell? W _ HN0.out) (by simp)).trans HN0.out) (HLF.out.ext hu))
  have HRK := Lib.hid (fun u (hu : Upto [] W u) => rank16_calls w.heap.size 0 1 (w.heap.size + 1 + 1) 0 1 (some ⟨w.heap.size + 1, 0, none⟩) 2 2 0 0 0 none 0 u (HLF.out.ext hu))
  have HFR := Lib.hid (fun (u : World) (hu : Upto [] W u) (v : Value) (h : SlP u (fun _ => True) v 2 [sV [97], sV [97, 50]]) => freshP_calls [97] [[97], [97, 50]] v u _ h (by decide) (by decide) ((he.ext HU.out).ext hu))
  clear he hse hfe
  go_enter Tryd.func4, Tryd.ntmps4
  go_wp2_with fail
  simp only [← hW]
  clear hW
  refine HRN.out.mono ?_
  rintro e w1 ⟨g1, o1, c1, gl, ol, cl, g, o, c2, c3, a3, rfl, hq, hu1⟩
  have HQ2 := Lib.hid (hq.ext ((Upto.refl [] w1).alloc (.cells #[.int .i64 16, .slice (some ⟨g1, o1, none⟩) 1 c1, .int .i64 0, .int .i64 0, .int .i64 0, .slice (some ⟨gl, ol, none⟩) 1 cl] 30)))
  have HU2 := Lib.hid (hu1.alloc (.cells #[.int .i64 16, .slice (some ⟨g1, o1, none⟩) 1 c1, .int .i64 0, .int .i64 0, .int .i64 0, .slice (some ⟨gl, ol, none⟩) 1 cl] 30))
  obtain ⟨k0, k1, k2, k3, k4, k5⟩ := cells6 (HU2.out.at HB3.out (by simp))
  obtain ⟨m0, -, m1, m2, m3, m4, m5, m6⟩ := HQ2.out.cells
  obtain ⟨t2, cs2, hnm⟩ := HQ2.out.nm
  obtain ⟨n0, n1, -, -⟩ := hnm.cells
  unfold sV at m0 n0 n1
  clear hq hu1 hnm
  go_wp2_with fail
  refine (HC9.out _ HU2.out).mono ?_
  rintro e w3 ⟨rfl, hu3⟩
  have HU4 := Lib.hid ((HU2.out.trans_ext hu3).alloc (.cells #[.int .i64 21, .string ⟨#[120]⟩] 35))
  clear hu3 k0 k1 k2 k3 k4 k5 m0 m1 m2 m3 m4 m5 m6 n0 n1
  obtain ⟨k0, k1, k2, k3, k4, k5⟩ := cells6 (HU4.out.at HB3.out (by simp))
  go_wp2_with fail
  refine (HRK.out _ HU4.out).mono ?_
  rintro e w5 ⟨rfl, hu5⟩
  have HU6 := Lib.hid ((HU4.out.trans_ext hu5).alloc (.cells #[.string ⟨#[97]⟩, .string ⟨#[97, 50]⟩] 9))
  clear hu5 k0 k1 k2 k3 k4 k5
  have HF6 := Lib.hid (HFR.out _ HU6.out _ (SlP.block trivial (new_at w5 (.cells #[.string ⟨#[97]⟩, .string ⟨#[97, 50]⟩] 9)) 2 2 [sV [97], sV [97, 50]] (fun j u hj => by simpa [sV] using hj)))
  go_wp2_with fail
  refine HF6.out.mono ?_
  rintro e w7 ⟨rfl, hu7⟩
  rw [fresh_a3]
  have HU7 := Lib.hid (HU.out.trans_ext (HU6.out.trans_ext hu7))
  clear hu7
  go_wp2_with fail
  go_ret
  exact ⟨rfl, HU7.out⟩
end Go.Proofs.YtbnebkkpmcjmbaaDoor


namespace Go.Proofs.YtbnebkkpmcjmbaaDoor
open Go.RowKit Go.PL Go.Maps
theorem scopeFreshA_walk (s : List UInt8) (tk : List (List UInt8)) (v : Value) (many : Int) (w : World) (hs : (⟨s.toArray⟩ : ByteArray).size ≤ maxLen) (h : SlP w (fun _ => True) v tk.length (tk.map sV)) (hl : tk.length ≤ maxLen) (hx : ∀ x ∈ tk, x.length ≤ maxLen) (hm : -9223372036854775808 ≤ many ∧ many ≤ 9223372036854775807) (hE : Env w ∧ SEnv w ∧ FEnv w) : Calls Tryd.prog 3 #[.string ⟨s.toArray⟩, v, .int .i64 many] w fun e w' => e = .returned (.bool true) ∧ Upto [] w w' :=
  scopeFresh_walk s tk many v w _ h (by have := hl; unfold maxLen at this; omega) (by have h : s.toArray.size ≤ maxLen := hs; unfold maxLen at h; simp at h; omega) (fun x hx' => by have := hx x hx'; unfold maxLen at this; omega) hm hE.1
    (fun u hu => known12_calls u ⟨hE.1.ext hu, hE.2.1.upto hu (by simp), hE.2.2.ext hu⟩)
end Go.Proofs.YtbnebkkpmcjmbaaDoor


namespace Go.Proofs.YtbnebkkpmcjmbaaDoor
open Go.RowKit Go.PL Go.Maps
open Go.ChangeShapes Go.WideShapes Go.ChangeAt Go.Deep
section
variable {H : Type} {enc : TypeId × Value → H} {W : World}
theorem isC_of_cell {w : World} {b o : Nat} {u : Value} (h : w.cell? ⟨b, o, none⟩ = some u) : IsC w b := by
  unfold World.cell? at h
  simp only at h
  cases hb : w.heap[b]? with
  | none => rw [hb] at h; cases h
  | some x =>
    rw [hb] at h
    cases x with
    | cells c e z => exact ⟨c, e, z, hb⟩
    | _ => simp at h
theorem open_texts {v : Value} {d : DataW H} {ps : List MemPlace} (hv : ∃ a n c, v = .slice a n c) (h : DataW.Trod enc Tryd.prog W 0 (fun _ => true) true 22 v d ps) :
    ∃ tk : List (List UInt8), SlP W (fun _ => True) v tk.length (tk.map sV) ∧ tk.length ≤ maxLen ∧ ∀ x ∈ tk, x.length ≤ maxLen := by
  obtain ⟨a, n, c, rfl⟩ := hv
  obtain ⟨fuel, hf⟩ := h
  simp only [Value.cells, List.toList_toArray] at hf
  rcases open_slice1 Tryd.underlying22 (show Tryd.prog.cellsOf 9 = 1 by kernel_rfl) hf with ⟨hcs, _⟩ | ⟨ad, len, cap, m, n', V, D, Pl, hcs, _, hl, hm, hmm, hx, hcell⟩
  · simp at hcs
    obtain ⟨rfl, rfl, rfl⟩ := hcs
    exact ⟨[], Or.inl ⟨rfl, rfl, none, 0, rfl⟩, by simp, by simp⟩
  · simp at hcs
    obtain ⟨rfl, rfl, rfl⟩ := hcs
    simp only [if_true] at hmm
    obtain ⟨F, hF⟩ := choose_lt (α := List UInt8) (n := n) (p := fun i x => V i = sV x ∧ x.length ≤ maxLen) (fun i hi => by
      obtain ⟨s, h1, -, h3⟩ := DataW.trod_string Tryd.underlying9 (hcell i (by omega)).2
      refine ⟨s.data.toList, by simpa [sV] using h1, by simpa using h3⟩)
    refine ⟨(List.range n).map F, ?_, by simp; omega, ?_⟩
    · rcases Nat.eq_zero_or_pos n with h0 | h0
      · subst h0
        exact Or.inl ⟨rfl, rfl, some ad, c, rfl⟩
      · obtain ⟨b, off, spot⟩ := ad
        have hspot : spot = none := by simpa [Addr.add] using World.cell?_spot (hcell 0 (by omega)).1
        subst hspot
        have hc0 := (hcell 0 (by omega)).1
        rw [Addr.add_lit] at hc0
        refine Or.inr ⟨b, off, c, by simp, ⟨trivial, isC_of_cell hc0, by simpa using hl⟩, fun j u hj => ?_⟩
        simp only [List.getElem?_map] at hj
        have hjn : j < n := by
          rcases Nat.lt_or_ge j n with h | h
          · exact h
          · rw [List.getElem?_eq_none (l := List.range n) (by simpa using h)] at hj; cases hj
        rw [List.getElem?_range hjn] at hj
        simp at hj
        have h1 := (hcell j (by omega)).1
        rw [Addr.add_lit, (hF j hjn).1, hj] at h1
        exact h1
    · intro x hx'
      obtain ⟨i, hi, rfl⟩ := List.mem_map.1 hx'
      exact (hF i (by simpa using hi)).2
end
end Go.Proofs.YtbnebkkpmcjmbaaDoor

