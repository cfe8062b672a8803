/- Texts merged, in build order: Open, Oq, Z3a, F7a, F7b, F7c, F7d, F7g, F8a, F8b, F8c, F8d, F8e, F8g, Foa, Fob, Fha, Fhb, Foc, Fog, Fhc, Fhd, Fhg, Z3, Z4, Env10. -/
import Derived.Test.YtbnebkkpmcjmbaaGreatDoorMSad
import Derived.Test.YtbnebkkpmcjmbaaGreatDoorRows
import Derived.WalkKit
import Derived.WalkSpells
import Derived.WalkLawsBesides
import Derived.Maps.OwnSet
import Derived.Lib.Hide
import Derived.Laws.BytesArg
import Derived.Deep.QuietTactic
import Derived.BigQuiet
import Derived.Test.YtbnebkkpmcjmbaaGreatDoorProg
import Derived.Shelf.Small.Strs
import Derived.Shelf.LaysM
import Derived.Shelf.Strings.SplitShaped
import Derived.Deep.DeepCutAuto
import Derived.Deep.CutBlock
import Derived.Lib.Strings
import Derived.Lib.Walk
import Derived.Lib.ConvBytes
import Derived.Lib.ParseIntBMem
import Derived.Lib.AtoiErrMem
import Derived.Lib.BufferWrite
import Derived.Lib.UnsafeStr
import Derived.Lib.IfaceEq
import Derived.Laws.MakeOwn
import Derived.Laws.Strings3
import Derived.Laws.Closers25
import Derived.Laws.Closers25b
import Derived.RegionTactic
import Derived.Deep.RegionWith
import Derived.BigCall
import Derived.BigGuard
import Derived.Lib.AppendIntMem
import Derived.Carry
import Derived.OrdersHeld
import Derived.Deep.RegionHeld3
import Derived.Shelf.Strconv.Itoa3
import Derived.Shelf.Slices.Turned
import Derived.Shelf.Slices.Clone
import Derived.Deep.RegionLaw
import Derived.Lib.ItoaNum
import Derived.RangeFuncNested
import Derived.RangeFuncBound
import Derived.RangeFuncCalls
import Derived.RangeFuncLeaves
import Derived.RangeFuncBox
import Derived.Shelf.Abstract
import Derived.OwnWalkIn
import Derived.TacticsInMore
import Derived.LoopNIn
import Derived.LoopIn
import Derived.Laws.EntriesVeiled
import Derived.Laws.AppendOwn
import Derived.Test.YtbnebkkpmcjmbaaGreatDoorCards
import Derived.Test.YtbnebkkpmcjmbaaGreatDoorTie
import Derived.ProofKit
import Derived.OpenShut
import Derived.Deep.DeepHandedRow
import Derived.Deep.Slices
import Derived.Lay
import Derived.ChangeCalls
import Derived.LaidSub
import Derived.MakeChecks
import Derived.LaidLaws
import Derived.Lib.LaidTab
import Derived.Shelf.SlMaps.Clone
namespace Go.Proofs.YtbnebkkpmcjmbaaGreatDoor
open Go.ChangeShapes Go.WideShapes Go.ChangeAt Go.RowKit Go.PL Go.Deep

theorem own : ownKnob Tryz.prog.godebug = none := by kernel_rfl
theorem laidOut : laidOutB Tryz.prog = true := by kernel_rfl

section
variable {H : Type} {enc : TypeId × Value → H} {W : World}

theorem args_stay {P : Program} (hP : laidOutB P = true) {W' : World} (hb : Below W.heap.size W W') : ∀ {ts : List TypeId} {vs : List Value} {ds : List (DataW H)} {ps : List MemPlace}, (ts.all fun t => P.readableRec t && decide (t < P.types.size)) = true →
    DataW.TrodAll enc P W 0 (fun _ => true) true ts vs ds ps → (∀ x ∈ ps, x.block < W.heap.size) → DataW.TrodAll enc P W' 0 (fun b => decide (b < W.heap.size)) true ts vs ds ps
  | [], vs, ds, ps, _, h, _ => by
    obtain ⟨rfl, rfl, rfl⟩ := trodAll_nil h
    exact trodAll_mk0
  | t :: ts, vs, ds, ps, ht, h, hlt => by
    obtain ⟨v0, vs0, d0, ds0, p0, q0, rfl, rfl, rfl, h0, r0⟩ := trodAll_cons h
    simp only [List.all_cons, Bool.and_eq_true, decide_eq_true_eq] at ht
    exact trodAll_cons_mk (Below.trod hP ht.1.1 ht.1.2 h0 hb (fun x hx => hlt x (List.mem_append_left _ hx))) (args_stay hP hb (by simpa using ht.2) r0 (fun x hx => hlt x (List.mem_append_right _ hx)))

/-- what every law's proof ends with: it answers true, and no elder block has changed -/
theorem post_true {fn : Func} {spec : ChangeSpec} (hv : spec.vars = []) (hr : fn.resultTypes.toList = [4]) (hs : fn.resultTypes.size = 1) (hts : (fn.params.toList.all fun t => Tryz.prog.readableRec t && decide (t < Tryz.prog.types.size)) = true)
    {args : Array Value} {ds gs : List (DataW H)} {before : List MemPlace} (hW : DataW.Whole enc Tryz.prog fn.params.toList spec.vars false W args.toList ds gs before) (hfn : ds.length = fn.params.toList.length → spec.fn H ds = { results := [.lit (.bool true)], args := ds })
    {W' : World} (hu : Upto [] W W') : spec.post enc Tryz.prog fn false true false false W args (.bool true) W' := by
  have hW' := hW
  obtain ⟨p, q, hA, hV, rfl, _, _⟩ := hW
  rw [hv] at hV
  obtain ⟨rfl, rfl⟩ := trodVars_none hV
  have hb : Below W.heap.size W W' := Upto.ext hu
  have hlt : ∀ x ∈ p, x.block < W.heap.size := fun x hx => by simpa using hW'.lt x (List.mem_append_left _ hx)
  have hn : ds.length = fn.params.toList.length := (Go.trodAll_length hA).2
  refine ⟨ds, [], _, [], p, [], hW', ?_, ?_, ?_, hb.frame _, fun h => by cases h⟩
  · rw [List.append_nil, hfn hn, hr, hs]
    exact trodAll_cons_mk (shut_bool Tryz.underlying4 _) trodAll_mk0
  · rw [List.append_nil, hfn hn]
    exact args_stay laidOut hb hts hA hlt
  · rw [List.append_nil, hfn hn, hv]
    rfl
end

end Go.Proofs.YtbnebkkpmcjmbaaGreatDoor


namespace Go.Proofs.YtbnebkkpmcjmbaaGreatDoor
open Go.RowKit Go.PL Go.Maps
open Go.ChangeShapes Go.WideShapes Go.ChangeAt Go.Deep

theorem bulk_pos {H : Type} (d : DataW H) : 1 ≤ Rows.uptoBulk d := by
  cases d with
  | lit l => cases l <;> simp [Rows.uptoBulk]
  | nil => simp [Rows.uptoBulk]
  | ptr d => simp [Rows.uptoBulk]
  | slice elems spare => simp [Rows.uptoBulk]
  | agg parts => simp [Rows.uptoBulk]
  | iface t d => simp [Rows.uptoBulk]
  | map entries => simp [Rows.uptoBulk]
  | held h => simp [Rows.uptoBulk]
theorem bulk_part {H : Type} {d : DataW H} {l : List (DataW H)} (h : d ∈ l) : Rows.uptoBulk d ≤ Rows.uptoBulkAll l := by
  induction l with
  | nil => cases h
  | cons x r ih =>
    simp only [Rows.uptoBulkAll]
    cases List.mem_cons.1 h with
    | inl e => subst e; omega
    | inr e => have := ih e; omega
theorem bulk_len {H : Type} (l : List (DataW H)) : l.length ≤ Rows.uptoBulkAll l := by
  induction l with
  | nil => simp [Rows.uptoBulkAll]
  | cons x r ih => have := bulk_pos x; simp only [Rows.uptoBulkAll, List.length_cons]; omega

theorem flatMap_len {α : Type} (f : α → List Value) (z : Nat) (hz : ∀ a, (f a).length = z) (l : List α) : (l.flatMap f).length = l.length * z := by
  induction l with
  | nil => simp
  | cons a l ih => rw [List.flatMap_cons, List.length_append, ih, hz, List.length_cons, Nat.add_mul]; omega
mutual
/-- no list and no name in it is longer than M -/
def inN (M : Nat) : Nd → Prop
  | .mk _ names _ _ _ l => names.length ≤ M ∧ (∀ x ∈ names, x.length ≤ M) ∧ l.length ≤ M ∧ insN M l
def insN (M : Nat) : List Nd → Prop
  | [] => True
  | x :: xs => inN M x ∧ insN M xs
end
mutual
theorem inN.mono {M M' : Nat} (h : M ≤ M') : ∀ (n : Nd), inN M n → inN M' n
  | .mk _ _ _ _ _ l, hn => by
    unfold inN at hn ⊢
    exact ⟨by omega, fun x hx => Nat.le_trans (hn.2.1 x hx) h, by omega, insN.mono h l hn.2.2.2⟩
theorem insN.mono {M M' : Nat} (h : M ≤ M') : ∀ (l : List Nd), insN M l → insN M' l
  | [], _ => by unfold insN; trivial
  | x :: xs, hn => by
    unfold insN at hn ⊢
    exact ⟨inN.mono h x hn.1, insN.mono h xs hn.2⟩
end
theorem insN_of {M : Nat} : ∀ {l : List Nd}, (∀ x ∈ l, inN M x) → insN M l
  | [], _ => by unfold insN; trivial
  | x :: xs, h => by
    unfold insN
    exact ⟨h x (by simp), insN_of (fun y hy => h y (by simp [hy]))⟩
mutual
theorem inN.big {M : Nat} (h : M ≤ 10000000) : ∀ (n : Nd), inN M n → bigN n
  | .mk _ _ _ _ _ l, hn => by
    unfold inN at hn
    unfold bigN
    exact ⟨by omega, insN.big h l hn.2.2.2⟩
theorem insN.big {M : Nat} (h : M ≤ 10000000) : ∀ (l : List Nd), insN M l → bigsN l
  | [], _ => by unfold bigsN; trivial
  | x :: xs, hn => by
    unfold insN at hn
    unfold bigsN
    exact ⟨inN.big h x hn.1, insN.big h xs hn.2⟩
end
def AnyB : Nat → Prop := fun _ => True

instance : Inhabited Nd := ⟨.zero⟩
section
variable {H : Type} {enc : TypeId × Value → H} {W : World}
theorem cells_spot {ad : Addr} {n : Nat} {cs : List Value} (h : W.cells? 0 ad n = some cs) (hn : 0 < n) : ad.spot = none ∧ cs.length = n ∧ ∀ i, i < n → W.cell? ⟨ad.block, ad.off + i, none⟩ = cs[i]? := by
  obtain ⟨_, hlen, hat⟩ := World.cells?_some h
  have h0 := hat 0 hn
  have hs : ad.spot = none := by
    obtain ⟨u, hu⟩ : ∃ u, cs[0]? = some u := ⟨_, List.getElem?_eq_getElem (by omega)⟩
    rw [hu] at h0
    have := World.cell?_spot h0
    simpa [Addr.add] using this
  refine ⟨hs, hlen, fun i hi => ?_⟩
  have := hat i hi
  obtain ⟨b, off, spot⟩ := ad
  simp only at hs
  subst hs
  rwa [Addr.add_lit] at this

theorem isC_of_cell {w : World} {b o : Nat} {u : Value} (h : w.cell? ⟨b, o, none⟩ = some u) : IsC w b := by
  unfold World.cell? at h
  simp only at h
  cases hb : w.heap[b]? with
  | none => rw [hb] at h; cases h
  | some x =>
    rw [hb] at h
    cases x with
    | cells c e z => exact ⟨c, e, z, hb⟩
    | _ => simp at h
/-- a slice of elements of z cells, each of which reads as something -/
theorem open_els {t e z fuel : Nat} {α : Type} [Inhabited α] {R : α → List Value → Prop} {M : Nat} (ht : Tryz.prog.underlying t = some (.slice e)) (hz : Tryz.prog.cellsOf e = z) (hz0 : 0 < z) {v : Value} {x : DataW H × List MemPlace}
    (h : DataW.trod enc Tryz.prog W 0 (fun _ => true) true fuel t [v] = some x) (hM : Rows.uptoBulk x.1 ≤ M)
    (f : α → Nat) (hel : ∀ n cs y, cs.length = z → DataW.trod enc Tryz.prog W 0 (fun _ => true) true n e cs = some y → Rows.uptoBulk y.1 < M → ∃ a, R a cs ∧ f a ≤ Rows.uptoBulk y.1) :
    ∃ l : List α, l.length + 1 ≤ M ∧ (l.map f).sum + 1 ≤ M ∧ ((l = [] ∧ ∃ a c, v = .slice a 0 c) ∨ ∃ g o c, v = .slice (some ⟨g, o, none⟩) l.length c ∧ (AnyB g ∧ IsC W g ∧ l.length ≤ c) ∧ ∀ i a, l[i]? = some a → ∃ cs, R a cs ∧ cs.length = z ∧ ∀ j, j < z → W.cell? ⟨g, o + i * z + j, none⟩ = cs[j]?) := by
  rcases open_slice ht h with ⟨hcs, hx⟩ | ⟨ad, len, cap, m, n', D, Pl, hcs, _, hl, hm, hmm, hx, hcell⟩
  · obtain rfl : v = .slice none 0 0 := by simpa using hcs
    subst hx
    simp only [Rows.uptoBulk] at hM
    exact ⟨[], by simpa using hM, by simpa using hM, Or.inl ⟨rfl, none, 0, rfl⟩⟩
  · obtain rfl : v = .slice (some ad) len cap := by simpa using hcs
    subst hx
    simp only [Rows.uptoBulk] at hM
    simp only [if_true] at hmm
    rw [hz] at hcell
    have hlb := bulk_len ((List.range len).map D)
    simp only [List.length_map, List.length_range] at hlb
    have hD : ∀ i, i < len → Rows.uptoBulk (D i) < M := fun i hi => by
      have := bulk_part (l := (List.range len).map D) (List.mem_map_of_mem (List.mem_range.2 hi))
      omega
    obtain ⟨F, hF⟩ := choose_lt (α := α) (n := len) (p := fun i a => ∃ cs, W.cells? 0 (ad.add (i * z)) z = some cs ∧ R a cs ∧ f a ≤ Rows.uptoBulk (D i)) (fun i hi => by
      obtain ⟨cs, h1, h2⟩ := hcell i (by omega)
      obtain ⟨_, hlen, _⟩ := World.cells?_some h1
      obtain ⟨a, h3, h4⟩ := hel n' cs _ hlen h2 (hD i hi)
      exact ⟨a, cs, h1, h3, h4⟩)
    have hsum : ∀ k, k ≤ len → (((List.range k).map F).map f).sum ≤ Rows.uptoBulkAll ((List.range k).map D) := by
      have happ : ∀ (a b : List (DataW H)), Rows.uptoBulkAll (a ++ b) = Rows.uptoBulkAll a + Rows.uptoBulkAll b := by
        intro a b
        induction a with
        | nil => simp [Rows.uptoBulkAll]
        | cons x a ih => simp only [List.cons_append, Rows.uptoBulkAll, ih]; omega
      intro k
      induction k with
      | zero => intro _; simp
      | succ k ih =>
        intro hk
        obtain ⟨cs, _, _, h4⟩ := hF k (by omega)
        have := ih (by omega)
        simp only [List.range_succ, List.map_append, List.sum_append, List.map_cons, List.map_nil, List.sum_cons, List.sum_nil, happ, Rows.uptoBulkAll]
        omega
    have hs := hsum len (Nat.le_refl _)
    refine ⟨(List.range len).map F, by simp only [List.length_map, List.length_range]; omega, by omega, ?_⟩
    rcases Nat.eq_zero_or_pos len with h0 | h0
    · subst h0
      exact Or.inl ⟨rfl, some ad, cap, rfl⟩
    · obtain ⟨cs0, h1, -⟩ := hF 0 h0
      obtain ⟨hsp, hlen0, hat0⟩ := cells_spot h1 hz0
      obtain ⟨b, off, spot⟩ := ad
      have hspot : spot = none := by simpa [Addr.add] using hsp
      subst hspot
      simp only [Nat.zero_mul, Addr.add_lit, Nat.add_zero] at hat0
      have hc0 := hat0 0 hz0
      have hIs : IsC W b := by
        obtain ⟨u, hu⟩ : ∃ u, cs0[0]? = some u := ⟨_, List.getElem?_eq_getElem (by omega)⟩
        rw [hu] at hc0
        exact isC_of_cell hc0
      refine Or.inr ⟨b, off, cap, by simp, ⟨trivial, hIs, by simpa using hl⟩, fun i a hi => ?_⟩
      have hil : i < len := by
        have := (List.getElem?_eq_some_iff.1 hi).1
        simpa using this
      rw [List.getElem?_map, List.getElem?_range hil] at hi
      obtain rfl : F i = a := by simpa using hi
      obtain ⟨cs, k1, k2, -⟩ := hF i hil
      obtain ⟨-, hlen, hat⟩ := cells_spot k1 hz0
      refine ⟨cs, k2, hlen, fun j hj => ?_⟩
      have := hat j hj
      simpa [Addr.add_lit] using this

theorem open_names {fuel : Nat} {v : Value} {x : DataW H × List MemPlace} {M : Nat} (h : DataW.trod enc Tryz.prog W 0 (fun _ => true) true fuel 22 [v] = some x) (hM : Rows.uptoBulk x.1 ≤ M) :
    ∃ names : List (List UInt8), SlP W AnyB v names.length (names.map sV) ∧ names.length ≤ M ∧ ∀ y ∈ names, y.length ≤ M := by
  obtain ⟨l, h1, h2, h3⟩ := open_els (α := List UInt8) (R := fun a cs => cs = [sV a]) (M := M) Tryz.underlying22 (z := 1) (by kernel_rfl) (by decide) h hM List.length (fun n cs y hl hy hlt => by
    obtain ⟨s, rfl, hd, -⟩ := DataW.trod_string Tryz.underlying9 hy
    refine ⟨s.data.toList, by simp [sV], ?_⟩
    rw [hd]
    simp [Rows.uptoBulk])
  refine ⟨l, ?_, by omega, fun y hy => ?_⟩
  · rcases h3 with ⟨rfl, a, c, rfl⟩ | ⟨g, o, c, rfl, hg, hc⟩
    · exact Or.inl ⟨rfl, rfl, a, c, rfl⟩
    · refine Or.inr ⟨g, o, c, rfl, hg, fun j u hj => ?_⟩
      rw [List.getElem?_map] at hj
      obtain ⟨y, hy, rfl⟩ := Option.map_eq_some_iff.1 hj
      obtain ⟨cs, rfl, -, hat⟩ := hc j y hy
      simpa using hat 0 (by decide)
  · have : ∀ (l : List (List UInt8)), y ∈ l → y.length ≤ (l.map List.length).sum := by
      intro l
      induction l with
      | nil => intro h; cases h
      | cons a l ih =>
        intro hy
        rcases List.mem_cons.1 hy with rfl | hy
        · simp
        · have := ih hy; simp only [List.map_cons, List.sum_cons]; omega
    have := this l hy
    omega

set_option maxRecDepth 100000 in
theorem open_node : ∀ (M fuel : Nat) (cs : List Value) (x : DataW H × List MemPlace), cs.length = 6 → DataW.trod enc Tryz.prog W 0 (fun _ => true) true fuel 25 cs = some x → Rows.uptoBulk x.1 ≤ M →
    ∃ nd, NdV W AnyB nd (.agg cs.toArray) ∧ sizeF nd ≤ Rows.uptoBulk x.1 ∧ inN M nd
  | 0, fuel, cs, x, _, _, hM => by have := bulk_pos x.1; omega
  | M + 1, fuel, cs, x, hl, h, hM => by
    obtain ⟨xs, n, rfl, rfl, _, hlen, hf⟩ := DataW.trod_struct Tryz.underlying25 h
    match cs, hl with
    | [a, b, c, d, e, f], _ =>
      match xs, hlen with
      | [y0, y1, y2, y3, y4, y5], _ =>
        have f0 := hf 0 { name := "Op", type := 3, offset := 0, embedded := false, tag := "", pkgPath := "", byteOffset := 0 } rfl
        have f1 := hf 1 { name := "Names", type := 22, offset := 1, embedded := false, tag := "", pkgPath := "", byteOffset := 8 } rfl
        have f2 := hf 2 { name := "Sort", type := 3, offset := 2, embedded := false, tag := "", pkgPath := "", byteOffset := 32 } rfl
        have f3 := hf 3 { name := "N", type := 3, offset := 3, embedded := false, tag := "", pkgPath := "", byteOffset := 40 } rfl
        have f4 := hf 4 { name := "M", type := 3, offset := 4, embedded := false, tag := "", pkgPath := "", byteOffset := 48 } rfl
        have f5 := hf 5 { name := "L", type := 23, offset := 5, embedded := false, tag := "", pkgPath := "", byteOffset := 56 } rfl
        simp only [show Tryz.prog.cellsOf 3 = 1 by kernel_rfl, show Tryz.prog.cellsOf 22 = 1 by kernel_rfl, show Tryz.prog.cellsOf 23 = 1 by kernel_rfl] at f0 f1 f2 f3 f4 f5
        simp at f0 f1 f2 f3 f4 f5
        simp only [List.map_cons, List.map_nil, Rows.uptoBulk, Rows.uptoBulkAll] at hM ⊢
        obtain ⟨op, hop, -⟩ := DataW.trod_int Tryz.underlying3 f0
        obtain ⟨so, hso, -⟩ := DataW.trod_int Tryz.underlying3 f2
        obtain ⟨nn, hnn, -⟩ := DataW.trod_int Tryz.underlying3 f3
        obtain ⟨mm, hmm, -⟩ := DataW.trod_int Tryz.underlying3 f4
        simp at hop hso hnn hmm
        obtain ⟨names, hn1, hn2, hn3⟩ := open_names f1 (M := M) (by have := bulk_pos y0.1; omega)
        obtain ⟨l, hl1, hl2, hl3⟩ := open_els (α := Nd) (R := fun a cs => NdV W AnyB a (.agg cs.toArray) ∧ inN M a) (M := Rows.uptoBulk y5.1) Tryz.underlying23 (z := 6) (by kernel_rfl) (by decide) f5 (Nat.le_refl _) sizeF (fun n cs y hl hy hlt => by
          obtain ⟨nd, k1, k2, k3⟩ := open_node M n cs y hl hy (by omega)
          exact ⟨nd, ⟨k1, k3⟩, k2⟩)
        have hss : sizesF l = (l.map sizeF).sum := by
          clear hl1 hl2 hl3
          induction l with
          | nil => rfl
          | cons a l ih => simp only [sizesF, List.map_cons, List.sum_cons, ih]
        refine ⟨.mk op names so nn mm l, ?_, ?_, ?_⟩
        · unfold NdV
          refine ⟨b, f, by rw [hop, hso, hnn, hmm], hn1, ?_⟩
          rcases hl3 with ⟨rfl, a, c, rfl⟩ | ⟨g, o, c, rfl, hg, hc⟩
          · exact Or.inl ⟨rfl, a, c, rfl⟩
          · refine Or.inr ⟨g, o, c, rfl, ⟨hg.1, hg.2.1⟩, nds_of l o fun i x hi => ?_⟩
            obtain ⟨cs, ⟨k1, -⟩, hcl, hat⟩ := hc i x hi
            match cs, hcl with
            | [u0, u1, u2, u3, u4, u5], _ =>
              exact ⟨u0, u1, u2, u3, u4, u5, hat 0 (by decide), hat 1 (by decide), hat 2 (by decide), hat 3 (by decide), hat 4 (by decide), hat 5 (by decide), k1⟩
        · simp only [sizeF, hss]; omega
        · unfold inN
          refine ⟨by omega, fun x hx => by have := hn3 x hx; omega, by omega, insN_of fun x hx => ?_⟩
          rcases hl3 with ⟨rfl, -⟩ | ⟨g, o, c, rfl, hg, hc⟩
          · cases hx
          · obtain ⟨i, hi, rfl⟩ := List.mem_iff_getElem.1 hx
            obtain ⟨cs, ⟨-, k2⟩, -⟩ := hc i _ (List.getElem?_eq_getElem hi)
            exact inN.mono (by omega) _ k2

set_option maxRecDepth 100000 in
/-- the variables of a question -/
theorem open_vars {fuel : Nat} {v : Value} {x : DataW H × List MemPlace} {M : Nat} (h : DataW.trod enc Tryz.prog W 0 (fun _ => true) true fuel 48 [v] = some x) (hM : Rows.uptoBulk x.1 ≤ M) :
    ∃ f : List (List UInt8 × Int), VarsV W AnyB v f ∧ f.length ≤ M ∧ ∀ y ∈ f, y.1.length ≤ M := by
  obtain ⟨l, h1, h2, h3⟩ := open_els (α := List UInt8 × Int) (R := fun a cs => cs = varC a) (M := M) Tryz.underlying48 (z := 2) (by kernel_rfl) (by decide) h hM (fun a => a.1.length) (fun n cs y hl hy hlt => by
    obtain ⟨xs, n, rfl, rfl, _, hlen, hf⟩ := DataW.trod_struct Tryz.underlying90 hy
    match cs, hl with
    | [a, b], _ =>
      match xs, hlen with
      | [y0, y1], _ =>
        have f0 := hf 0 { name := "Name", type := 9, offset := 0, embedded := false, tag := "", pkgPath := "", byteOffset := 0 } rfl
        have f1 := hf 1 { name := "Sort", type := 3, offset := 1, embedded := false, tag := "", pkgPath := "", byteOffset := 16 } rfl
        simp only [show Tryz.prog.cellsOf 3 = 1 by kernel_rfl, show Tryz.prog.cellsOf 9 = 1 by kernel_rfl] at f0 f1
        simp at f0 f1
        obtain ⟨s, hs, hd, -⟩ := DataW.trod_string Tryz.underlying9 f0
        obtain ⟨q, hq, -⟩ := DataW.trod_int Tryz.underlying3 f1
        simp at hs hq
        refine ⟨(s.data.toList, q), by simp [varC, hs, hq], ?_⟩
        rw [hd]
        simp [Rows.uptoBulk, Rows.uptoBulkAll]
        omega)
  refine ⟨l, ?_, by omega, fun y hy => ?_⟩
  · rcases h3 with ⟨rfl, a, c, rfl⟩ | ⟨g, o, c, rfl, hg, hc⟩
    · exact Or.inl ⟨rfl, rfl, a, c, rfl⟩
    · refine Or.inr ⟨g, o, c, rfl, hg, fun j u hj => ?_⟩
      have hlen : (l.flatMap varC).length = l.length * 2 := flatMap_len varC 2 (fun _ => rfl) l
      have hj2 : j < l.length * 2 := by
        have := (List.getElem?_eq_some_iff.1 hj).1
        rwa [hlen] at this
      have hi : j / 2 < l.length := by omega
      have e : j = j / 2 * 2 + j % 2 := by omega
      have hti : l[j / 2]? = some l[j / 2] := List.getElem?_eq_getElem hi
      obtain ⟨cs, rfl, -, hat⟩ := hc (j / 2) _ hti
      have key := hat (j % 2) (Nat.mod_lt _ (by decide))
      rw [Nat.add_assoc, ← e] at key
      rw [key, ← hj]
      conv => rhs; rw [e]
      exact (flatMap_at varC 2 (fun _ => rfl) l _ _ _ hti (Nat.mod_lt _ (by decide))).symm
  · have : ∀ (l : List (List UInt8 × Int)), y ∈ l → y.1.length ≤ (l.map fun a => a.1.length).sum := by
      intro l
      induction l with
      | nil => intro h; cases h
      | cons a l ih =>
        intro hy
        rcases List.mem_cons.1 hy with rfl | hy
        · simp
        · have := ih hy; simp only [List.map_cons, List.sum_cons]; omega
    have := this l hy
    omega

/-- what is asked of a question that is an argument -/
structure ArgQ (W : World) (q : Qn) (v : Value) : Prop where
  val : QnV W AnyB q v
  sz : sizeF q.body ≤ 1048576
  ins : inN 1048576 q.body
  fr : q.free.length ≤ 1048576
  nm : ∀ y ∈ q.free, y.1.length ≤ 1048576
set_option maxRecDepth 100000 in
theorem open_question {v : Value} {d : DataW H} {ps : List MemPlace} (hv : ∃ cs, v = .agg cs ∧ cs.size = Tryz.prog.cellsOf 50) (h : DataW.Trod enc Tryz.prog W 0 (fun _ => true) true 50 v d ps) (hM : Rows.uptoBulk d ≤ 1048576) : ∃ q, ArgQ W q v := by
  obtain ⟨cs, rfl, hcs⟩ := hv
  obtain ⟨fuel, h⟩ := h
  obtain ⟨cs⟩ := cs
  simp only [Value.cells] at h
  obtain ⟨xs, n, rfl, hx, hl, hlen, hf⟩ := DataW.trod_struct Tryz.underlying50 h
  rw [show Tryz.prog.cellsOf 50 = 7 by kernel_rfl] at hl
  match cs, hl with
  | [a, b0, b1, b2, b3, b4, b5], _ =>
    match xs, hlen with
    | [y0, y1], _ =>
      have f0 := hf 0 { name := "Free", type := 48, offset := 0, embedded := false, tag := "", pkgPath := "", byteOffset := 0 } rfl
      have f1 := hf 1 { name := "Body", type := 25, offset := 1, embedded := false, tag := "", pkgPath := "", byteOffset := 24 } rfl
      simp only [show Tryz.prog.cellsOf 48 = 1 by kernel_rfl, show Tryz.prog.cellsOf 25 = 6 by kernel_rfl] at f0 f1
      simp at f0 f1
      obtain rfl : d = .agg [y0.1, y1.1] := by simpa using (congrArg Prod.fst hx)
      simp only [Rows.uptoBulk, Rows.uptoBulkAll] at hM
      obtain ⟨f, h1, h2, h3⟩ := open_vars f0 (M := 1048576) (by omega)
      obtain ⟨nd, k1, k2, k3⟩ := open_node 1048576 _ _ _ rfl f1 (by omega)
      have k2' : sizeF nd ≤ 1048576 := by omega
      exact ⟨⟨f, nd⟩, ⟨a, b0, b1, b2, b3, b4, b5, rfl, h1, k1⟩, k2', k3, h2, h3⟩
end
end Go.Proofs.YtbnebkkpmcjmbaaGreatDoor


namespace Go.Proofs.YtbnebkkpmcjmbaaGreatDoor
open Go.RowKit Go.PL Go.Maps

set_option maxRecDepth 100000 in
set_option maxHeartbeats 1600000 in
theorem has_calls (op : Int) (w : World) : Calls Tryz.prog 75 #[.int .i64 op] w fun e w' => e = .returned (.tuple #[.int .i64 ((hasF op).1 : Nat), .int .i64 ((hasF op).2.1 : Nat), .int .i64 ((hasF op).2.2 : Nat)]) ∧ Upto [] w w' := by
  by_cases g0 : op < 2
  · have HE : Hid (hasF op = (0, 0, 0)) := Lib.hid (by unfold hasF; rw [if_pos g0])
    rw [HE.out]
    go_enter Tryz.func75, Tryz.ntmps75
    go_wp2
    exact bodyPost_ret (v := .tuple #[.int .i64 0, .int .i64 0, .int .i64 0]) (by simp [results, Tryz.results75, go_sem]) rfl ⟨rfl, Upto.refl _ _⟩
  by_cases g1 : op < 7
  · have HE : Hid (hasF op = (2, 2, 0)) := Lib.hid (by unfold hasF; rw [if_neg g0, if_pos g1])
    rw [HE.out]
    go_enter Tryz.func75, Tryz.ntmps75
    go_wp2
    exact bodyPost_ret (v := .tuple #[.int .i64 2, .int .i64 2, .int .i64 0]) (by simp [results, Tryz.results75, go_sem]) rfl ⟨rfl, Upto.refl _ _⟩
  by_cases g2 : op < 10
  · have HE : Hid (hasF op = (1, 1, 0)) := Lib.hid (by unfold hasF; rw [if_neg g0, if_neg g1, if_pos g2])
    rw [HE.out]
    go_enter Tryz.func75, Tryz.ntmps75
    go_wp2
    exact bodyPost_ret (v := .tuple #[.int .i64 1, .int .i64 1, .int .i64 0]) (by simp [results, Tryz.results75, go_sem]) rfl ⟨rfl, Upto.refl _ _⟩
  by_cases g3 : op = 10
  · have HE : Hid (hasF op = (1, 17, 0)) := Lib.hid (by unfold hasF; rw [if_neg g0, if_neg g1, if_neg g2, if_pos g3])
    have q3 : (op == 10) = true := by rw [beq_iff_eq]; exact g3
    rw [HE.out]
    go_enter Tryz.func75, Tryz.ntmps75
    go_wp2
    exact bodyPost_ret (v := .tuple #[.int .i64 1, .int .i64 17, .int .i64 0]) (by simp [results, Tryz.results75, go_sem]) rfl ⟨rfl, Upto.refl _ _⟩
  have q3 : (op == 10) = false := by rw [beq_eq_false_iff_ne]; exact g3
  by_cases g4 : op = 11
  · have HE : Hid (hasF op = (0, 0, 1)) := Lib.hid (by unfold hasF; rw [if_neg g0, if_neg g1, if_neg g2, if_neg g3, if_pos g4])
    have q4 : (op == 11) = true := by rw [beq_iff_eq]; exact g4
    rw [HE.out]
    go_enter Tryz.func75, Tryz.ntmps75
    go_wp2
    exact bodyPost_ret (v := .tuple #[.int .i64 0, .int .i64 0, .int .i64 1]) (by simp [results, Tryz.results75, go_sem]) rfl ⟨rfl, Upto.refl _ _⟩
  have q4 : (op == 11) = false := by rw [beq_eq_false_iff_ne]; exact g4
  by_cases g5 : op < 16
  · have HE : Hid (hasF op = (0, 0, 2)) := Lib.hid (by unfold hasF; rw [if_neg g0, if_neg g1, if_neg g2, if_neg g3, if_neg g4, if_pos g5])
    rw [HE.out]
    go_enter Tryz.func75, Tryz.ntmps75
    go_wp2
    exact bodyPost_ret (v := .tuple #[.int .i64 0, .int .i64 0, .int .i64 2]) (by simp [results, Tryz.results75, go_sem]) rfl ⟨rfl, Upto.refl _ _⟩
  have HE : Hid (hasF op = (1, 1, 1)) := Lib.hid (by unfold hasF; rw [if_neg g0, if_neg g1, if_neg g2, if_neg g3, if_neg g4, if_neg g5])
  rw [HE.out]
  go_enter Tryz.func75, Tryz.ntmps75
  go_wp2
  exact bodyPost_ret (v := .tuple #[.int .i64 1, .int .i64 1, .int .i64 1]) (by simp [results, Tryz.results75, go_sem]) rfl ⟨rfl, Upto.refl _ _⟩

set_option maxRecDepth 100000 in
set_option maxHeartbeats 6400000 in
theorem greatR_calls (nd : Nd) (v : Value) (w : World) (P : Nat → Prop) (h : NdV w P nd v) (hk : sizeF nd ≤ 10000000) : Calls Tryz.prog 45 #[v] w fun e w' => e = .returned (.int .i64 (greatF nd : Nat)) ∧ Upto [] w w' := by
  obtain ⟨xo, xn1, xn2, xn3, xs, xm, xq, xl1, xl2, xl3, rfl⟩ := h.six
  have hua : Upto [] w (w.alloc (.cells #[.int .i64 xo, .slice xn1 xn2 xn3, .int .i64 xs, .int .i64 xm, .int .i64 xq, .slice xl1 xl2 xl3] 25)) := (Upto.refl [] w).alloc _
  have HS := Lib.hid (fun u (hu : Upto [] w u) => count_calls _ nd hk (Nat.le_refl _) _ u P (h.ext hu))
  have HD := Lib.hid (fun u (hu : Upto [] w u) => deep_calls _ nd hk (Nat.le_refl _) _ u P (h.ext hu))
  have HUA := Lib.hid hua
  have HNB := Lib.hid (new_at w (.cells #[.int .i64 xo, .slice xn1 xn2 xn3, .int .i64 xs, .int .i64 xm, .int .i64 xq, .slice xl1 xl2 xl3] 25))
  have hd := depth_le_size nd
  clear h hua
  by_cases h1 : 4096 < sizeF nd
  · have hI : (4096 : Int) < sizeF nd := by omega
    have HF : Hid (greatF nd = 8) := Lib.hid (by unfold greatF; rw [if_pos h1])
    rw [HF.out]
    go_enter Tryz.func45, Tryz.ntmps45
    go_wp2_with fail
    refine (HS.out _ HUA.out).mono ?_
    rintro e w5 ⟨rfl, hu5⟩
    have HU5 := Lib.hid (HUA.out.trans_ext hu5)
    clear hu5
    go_wp2_with fail
    go_ret
    exact ⟨rfl, HU5.out⟩
  have hI : ¬ (4096 : Int) < sizeF nd := by omega
  by_cases h2 : 256 < depthF nd
  · have hJ : (256 : Int) < depthF nd := by omega
    have HF : Hid (greatF nd = 16) := Lib.hid (by unfold greatF; rw [if_neg h1, if_pos h2])
    rw [HF.out]
    go_enter Tryz.func45, Tryz.ntmps45
    go_wp2_with fail
    refine (HS.out _ HUA.out).mono ?_
    rintro e w5 ⟨rfl, hu5⟩
    have HU5 := Lib.hid (HUA.out.trans_ext hu5)
    have hb5 := hu5.at HNB.out (by simp)
    obtain ⟨y0, y1, y2, y3, y4, y5⟩ := cells6 hb5
    clear hu5 hb5
    go_wp2_with fail
    refine (HD.out _ HU5.out).mono ?_
    rintro e w6 ⟨rfl, hu6⟩
    have HU6 := Lib.hid (HU5.out.trans_ext hu6)
    clear hu6
    go_wp2_with fail
    go_ret
    exact ⟨rfl, HU6.out⟩
  have hJ : ¬ (256 : Int) < depthF nd := by omega
  have HF : Hid (greatF nd = 0) := Lib.hid (by unfold greatF; rw [if_neg h1, if_neg h2])
  rw [HF.out]
  go_enter Tryz.func45, Tryz.ntmps45
  go_wp2_with fail
  refine (HS.out _ HUA.out).mono ?_
  rintro e w5 ⟨rfl, hu5⟩
  have HU5 := Lib.hid (HUA.out.trans_ext hu5)
  have hb5 := hu5.at HNB.out (by simp)
  obtain ⟨y0, y1, y2, y3, y4, y5⟩ := cells6 hb5
  clear hu5 hb5
  go_wp2_with fail
  refine (HD.out _ HU5.out).mono ?_
  rintro e w6 ⟨rfl, hu6⟩
  have HU6 := Lib.hid (HU5.out.trans_ext hu6)
  clear hu6
  go_wp2_with fail
  go_ret
  exact ⟨rfl, HU6.out⟩

theorem insN_mem {M : Nat} : ∀ {l : List Nd} {x : Nd}, insN M l → x ∈ l → inN M x
  | a :: l, x, h, hx => by
    unfold insN at h
    rcases List.mem_cons.1 hx with rfl | hx
    · exact h.1
    · exact insN_mem h.2 hx
set_option maxRecDepth 100000 in
set_option maxHeartbeats 12800000 in
theorem form_bad (k : Nat) (op so nn mm : Int) (nms : List (List UInt8)) (l : List Nd) (hk : sizeF (.mk op nms so nn mm l) ≤ k + 1) (hin : inN 10000000 (.mk op nms so nn mm l)) (_hk7 : k + 1 ≤ 10000000) (v : Value) (w : World) (P : Nat → Prop) (h : NdV w P (.mk op nms so nn mm l) v) (hbad : kindBad op = true ∨ shapeBad op nms.length l.length = true ∨ nms.all nameF = false) : Calls Tryz.prog 44 #[v] w fun e w' => e = .returned (.int .i64 (formF nameF (.mk op nms so nn mm l) : Nat)) ∧ Upto [] w w' := by
  obtain ⟨a1, c1, a2, c2, rfl, hs, hg⟩ := h.open
  unfold inN at hin
  have HG := Lib.hid hg
  obtain ⟨a1', c1', ev, hnm⟩ := hs.get
  obtain ⟨rfl, rfl⟩ : a1 = a1' ∧ c1 = c1' := by simpa using ev
  have HN : Hid (∀ i x, nms[i]? = some x → ∃ g o, a1 = some ⟨g, o, none⟩ ∧ w.cell? ⟨g, o + i, none⟩ = some (.string ⟨x.toArray⟩)) := Lib.hid (fun i x hi => hnm i _ (by rw [List.getElem?_map, hi]; rfl))
  have hsz : sizesF l ≤ k := by simp only [sizeF] at hk; omega
  have HSZ := Lib.hid hsz
  have HIN := Lib.hid hin
  have hu1 : Upto [] w (w.alloc (.cells #[.int .i64 op, .slice a1 nms.length c1, .int .i64 so, .int .i64 nn, .int .i64 mm, .slice a2 l.length c2] 25)) := (Upto.refl [] w).alloc _
  have HB1 := Lib.hid (new_at w (.cells #[.int .i64 op, .slice a1 nms.length c1, .int .i64 so, .int .i64 nn, .int .i64 mm, .slice a2 l.length c2] 25))
  have HU1 := Lib.hid hu1
  have hll := hin.2.2.1
  have hnl := hin.1
  have hL0 : (0 : Int) ≤ l.length := by omega
  have hL1 : (l.length : Int) ≤ 10000000 := by omega
  have hN0 : (0 : Int) ≤ nms.length := by omega
  have hN1 : (nms.length : Int) ≤ 10000000 := by omega
  clear h hs hg hsz hk hu1 hnm ev hin
  by_cases hk0 : op < 0
  · have HF : Hid (formF nameF (.mk op nms so nn mm l) = 11) := Lib.hid (by unfold formF kindBad; rw [if_pos (by simp [hk0])])
    rw [HF.out]
    go_enter Tryz.func44, Tryz.ntmps44
    go_wp2_with fail
    go_ret
    exact ⟨rfl, HU1.out⟩
  by_cases hk1 : 17 < op
  · have HF : Hid (formF nameF (.mk op nms so nn mm l) = 11) := Lib.hid (by unfold formF kindBad; rw [if_pos (by simp [hk1])])
    rw [HF.out]
    go_enter Tryz.func44, Tryz.ntmps44
    go_wp2_with fail
    go_ret
    exact ⟨rfl, HU1.out⟩
  have HKB : Hid (kindBad op = false) := Lib.hid (by unfold kindBad; simp; omega)
  have HH := Lib.hid (has_calls op)
  have HHL : Hid (∃ a b c : Nat, hasF op = (a, b, c) ∧ a ≤ 17 ∧ b ≤ 17 ∧ c ≤ 17) := Lib.hid (by
    unfold hasF
    repeat' split
    all_goals exact ⟨_, _, _, rfl, by decide, by decide, by decide⟩)
  obtain ⟨a, b, c, habc, ha17, hb17, hc17⟩ := HHL.out
  rw [habc] at HH
  simp only at HH
  have ha0 : (0 : Int) ≤ a := by omega
  have hb0 : (0 : Int) ≤ b := by omega
  have hc0 : (0 : Int) ≤ c := by omega
  have ha1 : (a : Int) ≤ 17 := by omega
  have hb1 : (b : Int) ≤ 17 := by omega
  have hc1 : (c : Int) ≤ 17 := by omega
  have HABC := Lib.hid habc
  clear habc HHL
  by_cases hs0 : nms.length < a
  · have HF : Hid (formF nameF (.mk op nms so nn mm l) = 3) := Lib.hid (by unfold formF shapeBad; rw [if_neg (by rw [HKB.out]; decide), HABC.out, if_pos (by simp; omega)])
    have q0 : (nms.length : Int) < a := by omega
    rw [HF.out]
    clear hs0
    go_enter Tryz.func44, Tryz.ntmps44
    go_wp2_with fail
    refine (HH.out (w.alloc (.cells #[.int .i64 op, .slice a1 nms.length c1, .int .i64 so, .int .i64 nn, .int .i64 mm, .slice a2 l.length c2] 25))).mono ?_
    rintro e w3 ⟨rfl, hu3⟩
    have HU3 := Lib.hid (HU1.out.trans_ext hu3)
    have hb3 := hu3.at HB1.out (by simp)
    have HB3 := Lib.hid hb3
    obtain ⟨y0, y1, y2, y3, y4, y5⟩ := cells6 hb3
    clear hu3 hb3
    go_wp2_with fail
    go_ret
    exact ⟨rfl, HU3.out⟩
  have q0 : ¬ (nms.length : Int) < a := by omega
  by_cases hs1 : b < nms.length
  · have HF : Hid (formF nameF (.mk op nms so nn mm l) = 3) := Lib.hid (by unfold formF shapeBad; rw [if_neg (by rw [HKB.out]; decide), HABC.out, if_pos (by simp; omega)])
    have q1 : (b : Int) < nms.length := by omega
    rw [HF.out]
    clear hs1
    go_enter Tryz.func44, Tryz.ntmps44
    go_wp2_with fail
    refine (HH.out (w.alloc (.cells #[.int .i64 op, .slice a1 nms.length c1, .int .i64 so, .int .i64 nn, .int .i64 mm, .slice a2 l.length c2] 25))).mono ?_
    rintro e w3 ⟨rfl, hu3⟩
    have HU3 := Lib.hid (HU1.out.trans_ext hu3)
    have hb3 := hu3.at HB1.out (by simp)
    have HB3 := Lib.hid hb3
    obtain ⟨y0, y1, y2, y3, y4, y5⟩ := cells6 hb3
    clear hu3 hb3
    go_wp2_with fail
    go_ret
    exact ⟨rfl, HU3.out⟩
  have q1 : ¬ (b : Int) < nms.length := by omega
  by_cases hs2 : l.length ≠ c
  · have HF : Hid (formF nameF (.mk op nms so nn mm l) = 3) := Lib.hid (by unfold formF shapeBad; rw [if_neg (by rw [HKB.out]; decide), HABC.out, if_pos (by simp [hs2])])
    have q2 : ((l.length : Int) == (c : Int)) = false := by rw [beq_eq_false_iff_ne]; omega
    have q2b : ((l.length : Int) != (c : Int)) = true := by rw [bne, q2]; rfl
    rw [HF.out]
    clear hs2
    go_enter Tryz.func44, Tryz.ntmps44
    go_wp2_with fail
    refine (HH.out (w.alloc (.cells #[.int .i64 op, .slice a1 nms.length c1, .int .i64 so, .int .i64 nn, .int .i64 mm, .slice a2 l.length c2] 25))).mono ?_
    rintro e w3 ⟨rfl, hu3⟩
    have HU3 := Lib.hid (HU1.out.trans_ext hu3)
    have hb3 := hu3.at HB1.out (by simp)
    have HB3 := Lib.hid hb3
    obtain ⟨y0, y1, y2, y3, y4, y5⟩ := cells6 hb3
    clear hu3 hb3
    go_wp2_with fail
    go_ret
    exact ⟨rfl, HU3.out⟩
  have hs2 := Decidable.not_not.1 hs2
  have q2 : ((l.length : Int) != (c : Int)) = false := by rw [hs2]; simp
  have HSB : Hid (shapeBad op nms.length l.length = false) := Lib.hid (by unfold shapeBad; rw [HABC.out]; simp; omega)
  clear hs2
  go_enter Tryz.func44, Tryz.ntmps44
  go_wp2_with fail
  refine (HH.out (w.alloc (.cells #[.int .i64 op, .slice a1 nms.length c1, .int .i64 so, .int .i64 nn, .int .i64 mm, .slice a2 l.length c2] 25))).mono ?_
  rintro e w3 ⟨rfl, hu3⟩
  have HU3 := Lib.hid (HU1.out.trans_ext hu3)
  have hb3 := hu3.at HB1.out (by simp)
  have HB3 := Lib.hid hb3
  obtain ⟨y0, y1, y2, y3, y4, y5⟩ := cells6 hb3
  clear hu3 hb3
  go_wp2_with fail
  go_loopw [6] (fun i wr => ∃ j : Nat, j ≤ nms.length ∧ i = .int .i64 j ∧ Hid (∀ q x, q < j → nms[q]? = some x → nameF x = true) ∧ Hid (Upto [] w3 wr)) (fun i _ => nms.length - (intOf i).toNat)
  case atStart => exact ⟨0, by omega, rfl, Lib.hid (fun q x hq => by omega), Lib.hid (Upto.refl _ _)⟩
  case round =>
    clear y0 y1 y2 y3 y4 y5
    obtain ⟨j, hj, rfl, HA, HU⟩ := hrel
    have hj0 : (0 : Int) ≤ j := by omega
    have hb := HU.out.at HB3.out (by simp)
    have HB := Lib.hid hb
    obtain ⟨y0, y1, y2, y3, y4, y5⟩ := cells6 hb
    have HW := Lib.hid (HU3.out.trans_ext HU.out)
    rcases Nat.lt_or_ge j nms.length with hlt | hge
    · have hltI : (j : Int) < nms.length := by omega
      obtain ⟨x, hx⟩ : ∃ x, nms[j]? = some x := ⟨_, List.getElem?_eq_getElem hlt⟩
      have hxl := HIN.out.2.1 x (List.mem_of_getElem? hx)
      obtain ⟨g, o, rfl, c0⟩ := HN.out j x hx
      replace c0 := up_cell HW.out c0
      have HC := Lib.hid (isName_calls x wr (by omega))
      have hbb : nameF x = true ∨ nameF x = false := by cases nameF x <;> simp
      rcases hbb with hb2 | hb2
      · have HA2 : Hid (∀ q x, q < j + 1 → nms[q]? = some x → nameF x = true) := Lib.hid (fun q y hq hy => by
          by_cases hqj : q = j
          · subst hqj
            rw [hx] at hy
            cases hy
            exact hb2
          · exact HA.out q y (by omega) hy)
        rw [hb2] at HC
        clear hx hb hb2
        go_wp2_with fail
        refine HC.out.mono ?_
        rintro e w5 ⟨rfl, hu5⟩
        have HU5 := Lib.hid (HU.out.trans_ext hu5)
        clear hu5
        go_wp2_with fail
        go_roundw
        case rel => first | exact ⟨j + 1, by omega, by go_num, HA2, HU5⟩ | exact ⟨_, _, _, _, _, _, _, _, _, _, _, _, _, _, _, _, ⟨j + 1, by omega, by go_num, HA2, HU5⟩, rfl⟩
        case measure => simp [intOf]; omega
      · have HF : Hid (formF nameF (.mk op nms so nn mm l) = 3) := Lib.hid (by
          unfold formF
          rw [if_neg (by rw [HKB.out]; decide), if_neg (by rw [HSB.out]; decide), if_pos]
          rw [Bool.eq_false_iff]
          intro h
          have := List.all_eq_true.1 h x (List.mem_of_getElem? hx)
          rw [hb2] at this
          cases this)
        rw [hb2] at HC
        clear hx hb hb2
        go_wp2_with fail
        refine HC.out.mono ?_
        rintro e w5 ⟨rfl, hu5⟩
        have HU5 := Lib.hid (HW.out.trans_ext hu5)
        clear hu5
        go_wp2_with fail
        go_ret
        rw [HF.out]
        exact ⟨rfl, HU5.out⟩
    · have hgeI : ¬ (j : Int) < nms.length := by omega
      have HALL : Hid (¬ nms.all nameF = false) := Lib.hid (by
        rw [Bool.not_eq_false, List.all_eq_true]
        intro x hx
        obtain ⟨q, hq, rfl⟩ := List.mem_iff_getElem.1 hx
        exact HA.out q _ (by omega) (List.getElem?_eq_getElem hq))
      exfalso
      rcases hbad with hx | hx | hx
      · rw [HKB.out] at hx; cases hx
      · rw [HSB.out] at hx; cases hx
      · exact HALL.out hx

end Go.Proofs.YtbnebkkpmcjmbaaGreatDoor


namespace Go.Proofs.YtbnebkkpmcjmbaaGreatDoor
open Go.RowKit Go.PL Go.Maps
set_option maxRecDepth 100000 in
set_option maxHeartbeats 12800000 in
theorem form_7a (k : Nat) (so nn mm : Int) (nms : List (List UInt8)) (l : List Nd) (hk : sizesF l ≤ k) (hin : inN 10000000 (.mk 7 nms so nn mm l)) (_hk7 : k + 1 ≤ 10000000) (v : Value) (w : World) (P : Nat → Prop) (h : NdV w P (.mk 7 nms so nn mm l) v) (hk0 : ¬ (7 : Int) < 0) (hk1 : ¬ (17 : Int) < 7) (hsb : shapeBad 7 nms.length l.length = false) (hall : nms.all nameF = true) (hz : mm ≠ 0) : Calls Tryz.prog 44 #[v] w fun e w' => e = .returned (.int .i64 ((3 : Nat) : Int)) ∧ Upto [] w w' := by
  obtain ⟨a1, c1, a2, c2, rfl, hs, hg⟩ := h.open
  unfold inN at hin
  have HG := Lib.hid hg
  obtain ⟨a1', c1', ev, hnm⟩ := hs.get
  obtain ⟨rfl, rfl⟩ : a1 = a1' ∧ c1 = c1' := by simpa using ev
  have HN : Hid (∀ i x, nms[i]? = some x → ∃ g o, a1 = some ⟨g, o, none⟩ ∧ w.cell? ⟨g, o + i, none⟩ = some (.string ⟨x.toArray⟩)) := Lib.hid (fun i x hi => hnm i _ (by rw [List.getElem?_map, hi]; rfl))
  have HSZ := Lib.hid hk
  have HIN := Lib.hid hin
  have HAL := Lib.hid hall
  have hu1 : Upto [] w (w.alloc (.cells #[.int .i64 7, .slice a1 nms.length c1, .int .i64 so, .int .i64 nn, .int .i64 mm, .slice a2 l.length c2] 25)) := (Upto.refl [] w).alloc _
  have HB1 := Lib.hid (new_at w (.cells #[.int .i64 7, .slice a1 nms.length c1, .int .i64 so, .int .i64 nn, .int .i64 mm, .slice a2 l.length c2] 25))
  have HU1 := Lib.hid hu1
  have hll := hin.2.2.1
  have hnl := hin.1
  have hL0 : (0 : Int) ≤ l.length := by omega
  have hL1 : (l.length : Int) ≤ 10000000 := by omega
  have hN0 : (0 : Int) ≤ nms.length := by omega
  have hN1 : (nms.length : Int) ≤ 10000000 := by omega
  have HH := Lib.hid (has_calls 7)
  obtain ⟨a, b, c, habc, ha17, hb17, hc17⟩ : ∃ a b c : Nat, hasF 7 = (a, b, c) ∧ a ≤ 17 ∧ b ≤ 17 ∧ c ≤ 17 := by
    unfold hasF
    repeat' split
    all_goals exact ⟨_, _, _, rfl, by decide, by decide, by decide⟩
  rw [habc] at HH
  simp only at HH
  obtain ⟨hs0, hs1, hs2⟩ : ¬ nms.length < a ∧ ¬ b < nms.length ∧ l.length = c := by
    unfold shapeBad at hsb
    rw [habc] at hsb
    simp at hsb
    omega
  have ha0 : (0 : Int) ≤ a := by omega
  have hb0 : (0 : Int) ≤ b := by omega
  have hc0 : (0 : Int) ≤ c := by omega
  have ha1 : (a : Int) ≤ 17 := by omega
  have hb1 : (b : Int) ≤ 17 := by omega
  have hc1 : (c : Int) ≤ 17 := by omega
  have q0 : ¬ (nms.length : Int) < a := by omega
  have q1 : ¬ (b : Int) < nms.length := by omega
  have q2 : ((l.length : Int) != (c : Int)) = false := by rw [hs2]; simp
  clear habc hsb hall h hs hg hk hu1 hnm ev hin hs2
  go_enter Tryz.func44, Tryz.ntmps44
  go_wp2_with fail
  refine (HH.out (w.alloc (.cells #[.int .i64 7, .slice a1 nms.length c1, .int .i64 so, .int .i64 nn, .int .i64 mm, .slice a2 l.length c2] 25))).mono ?_
  rintro e w3 ⟨rfl, hu3⟩
  have HU3 := Lib.hid (HU1.out.trans_ext hu3)
  have hb3 := hu3.at HB1.out (by simp)
  have HB3 := Lib.hid hb3
  obtain ⟨y0, y1, y2, y3, y4, y5⟩ := cells6 hb3
  clear hu3 hb3
  go_wp2_with fail
  go_loopw [6] (fun i wr => ∃ j : Nat, j ≤ nms.length ∧ i = .int .i64 j ∧ Hid (Upto [] w3 wr)) (fun i _ => nms.length - (intOf i).toNat)
  case atStart => exact ⟨0, by omega, rfl, Lib.hid (Upto.refl _ _)⟩
  case round =>
    clear y0 y1 y2 y3 y4 y5
    obtain ⟨j, hj, rfl, HU⟩ := hrel
    have hj0 : (0 : Int) ≤ j := by omega
    have hb := HU.out.at HB3.out (by simp)
    have HB := Lib.hid hb
    obtain ⟨y0, y1, y2, y3, y4, y5⟩ := cells6 hb
    have HW := Lib.hid (HU3.out.trans_ext HU.out)
    rcases Nat.lt_or_ge j nms.length with hlt | hge
    · have hltI : (j : Int) < nms.length := by omega
      obtain ⟨x, hx⟩ : ∃ x, nms[j]? = some x := ⟨_, List.getElem?_eq_getElem hlt⟩
      have hxl := HIN.out.2.1 x (List.mem_of_getElem? hx)
      obtain ⟨g, o, rfl, c0⟩ := HN.out j x hx
      replace c0 := up_cell HW.out c0
      have HC := Lib.hid (isName_calls x wr (by omega))
      have hb2 : nameF x = true := List.all_eq_true.1 HAL.out x (List.mem_of_getElem? hx)
      rw [hb2] at HC
      clear hx hb hb2
      go_wp2_with fail
      refine HC.out.mono ?_
      rintro e w5 ⟨rfl, hu5⟩
      have HU5 := Lib.hid (HU.out.trans_ext hu5)
      clear hu5
      go_wp2_with fail
      go_roundw
      case rel => first | exact ⟨j + 1, by omega, by go_num, HU5⟩ | exact ⟨_, _, _, _, _, _, _, _, _, _, _, _, _, _, _, _, ⟨j + 1, by omega, by go_num, HU5⟩, rfl⟩
      case measure => simp [intOf]; omega
    · have hgeI : ¬ (j : Int) < nms.length := by omega
      clear hb q0 q1 q2 hs0 hs1 ha0 hb0 hc0 ha1 hb1 hc1 HH HAL HN
      have emm0 : (mm == (0 : Int)) = false := by rw [beq_eq_false_iff_ne]; exact hz
      have fmm0 : (mm != (0 : Int)) = true := by rw [bne, emm0]; rfl
      go_wp2_with fail
      go_ret
      exact ⟨rfl, HW.out⟩
end Go.Proofs.YtbnebkkpmcjmbaaGreatDoor


namespace Go.Proofs.YtbnebkkpmcjmbaaGreatDoor
open Go.RowKit Go.PL Go.Maps
set_option maxRecDepth 100000 in
set_option maxHeartbeats 12800000 in
theorem form_7b (k : Nat) (so nn : Int) (nms : List (List UInt8)) (l : List Nd) (hk : sizesF l ≤ k) (hin : inN 10000000 (.mk 7 nms so nn 0 l)) (_hk7 : k + 1 ≤ 10000000) (v : Value) (w : World) (P : Nat → Prop) (h : NdV w P (.mk 7 nms so nn 0 l) v) (hk0 : ¬ (7 : Int) < 0) (hk1 : ¬ (17 : Int) < 7) (hsb : shapeBad 7 nms.length l.length = false) (hall : nms.all nameF = true) (hz : so ≠ 0) : Calls Tryz.prog 44 #[v] w fun e w' => e = .returned (.int .i64 ((3 : Nat) : Int)) ∧ Upto [] w w' := by
  obtain ⟨a1, c1, a2, c2, rfl, hs, hg⟩ := h.open
  unfold inN at hin
  have HG := Lib.hid hg
  obtain ⟨a1', c1', ev, hnm⟩ := hs.get
  obtain ⟨rfl, rfl⟩ : a1 = a1' ∧ c1 = c1' := by simpa using ev
  have HN : Hid (∀ i x, nms[i]? = some x → ∃ g o, a1 = some ⟨g, o, none⟩ ∧ w.cell? ⟨g, o + i, none⟩ = some (.string ⟨x.toArray⟩)) := Lib.hid (fun i x hi => hnm i _ (by rw [List.getElem?_map, hi]; rfl))
  have HSZ := Lib.hid hk
  have HIN := Lib.hid hin
  have HAL := Lib.hid hall
  have hu1 : Upto [] w (w.alloc (.cells #[.int .i64 7, .slice a1 nms.length c1, .int .i64 so, .int .i64 nn, .int .i64 0, .slice a2 l.length c2] 25)) := (Upto.refl [] w).alloc _
  have HB1 := Lib.hid (new_at w (.cells #[.int .i64 7, .slice a1 nms.length c1, .int .i64 so, .int .i64 nn, .int .i64 0, .slice a2 l.length c2] 25))
  have HU1 := Lib.hid hu1
  have hll := hin.2.2.1
  have hnl := hin.1
  have hL0 : (0 : Int) ≤ l.length := by omega
  have hL1 : (l.length : Int) ≤ 10000000 := by omega
  have hN0 : (0 : Int) ≤ nms.length := by omega
  have hN1 : (nms.length : Int) ≤ 10000000 := by omega
  have HH := Lib.hid (has_calls 7)
  obtain ⟨a, b, c, habc, ha17, hb17, hc17⟩ : ∃ a b c : Nat, hasF 7 = (a, b, c) ∧ a ≤ 17 ∧ b ≤ 17 ∧ c ≤ 17 := by
    unfold hasF
    repeat' split
    all_goals exact ⟨_, _, _, rfl, by decide, by decide, by decide⟩
  rw [habc] at HH
  simp only at HH
  obtain ⟨hs0, hs1, hs2⟩ : ¬ nms.length < a ∧ ¬ b < nms.length ∧ l.length = c := by
    unfold shapeBad at hsb
    rw [habc] at hsb
    simp at hsb
    omega
  have ha0 : (0 : Int) ≤ a := by omega
  have hb0 : (0 : Int) ≤ b := by omega
  have hc0 : (0 : Int) ≤ c := by omega
  have ha1 : (a : Int) ≤ 17 := by omega
  have hb1 : (b : Int) ≤ 17 := by omega
  have hc1 : (c : Int) ≤ 17 := by omega
  have q0 : ¬ (nms.length : Int) < a := by omega
  have q1 : ¬ (b : Int) < nms.length := by omega
  have q2 : ((l.length : Int) != (c : Int)) = false := by rw [hs2]; simp
  clear habc hsb hall h hs hg hk hu1 hnm ev hin hs2
  go_enter Tryz.func44, Tryz.ntmps44
  go_wp2_with fail
  refine (HH.out (w.alloc (.cells #[.int .i64 7, .slice a1 nms.length c1, .int .i64 so, .int .i64 nn, .int .i64 0, .slice a2 l.length c2] 25))).mono ?_
  rintro e w3 ⟨rfl, hu3⟩
  have HU3 := Lib.hid (HU1.out.trans_ext hu3)
  have hb3 := hu3.at HB1.out (by simp)
  have HB3 := Lib.hid hb3
  obtain ⟨y0, y1, y2, y3, y4, y5⟩ := cells6 hb3
  clear hu3 hb3
  go_wp2_with fail
  go_loopw [6] (fun i wr => ∃ j : Nat, j ≤ nms.length ∧ i = .int .i64 j ∧ Hid (Upto [] w3 wr)) (fun i _ => nms.length - (intOf i).toNat)
  case atStart => exact ⟨0, by omega, rfl, Lib.hid (Upto.refl _ _)⟩
  case round =>
    clear y0 y1 y2 y3 y4 y5
    obtain ⟨j, hj, rfl, HU⟩ := hrel
    have hj0 : (0 : Int) ≤ j := by omega
    have hb := HU.out.at HB3.out (by simp)
    have HB := Lib.hid hb
    obtain ⟨y0, y1, y2, y3, y4, y5⟩ := cells6 hb
    have HW := Lib.hid (HU3.out.trans_ext HU.out)
    rcases Nat.lt_or_ge j nms.length with hlt | hge
    · have hltI : (j : Int) < nms.length := by omega
      obtain ⟨x, hx⟩ : ∃ x, nms[j]? = some x := ⟨_, List.getElem?_eq_getElem hlt⟩
      have hxl := HIN.out.2.1 x (List.mem_of_getElem? hx)
      obtain ⟨g, o, rfl, c0⟩ := HN.out j x hx
      replace c0 := up_cell HW.out c0
      have HC := Lib.hid (isName_calls x wr (by omega))
      have hb2 : nameF x = true := List.all_eq_true.1 HAL.out x (List.mem_of_getElem? hx)
      rw [hb2] at HC
      clear hx hb hb2
      go_wp2_with fail
      refine HC.out.mono ?_
      rintro e w5 ⟨rfl, hu5⟩
      have HU5 := Lib.hid (HU.out.trans_ext hu5)
      clear hu5
      go_wp2_with fail
      go_roundw
      case rel => first | exact ⟨j + 1, by omega, by go_num, HU5⟩ | exact ⟨_, _, _, _, _, _, _, _, _, _, _, _, _, _, _, _, ⟨j + 1, by omega, by go_num, HU5⟩, rfl⟩
      case measure => simp [intOf]; omega
    · have hgeI : ¬ (j : Int) < nms.length := by omega
      clear hb q0 q1 q2 hs0 hs1 ha0 hb0 hc0 ha1 hb1 hc1 HH HAL HN
      have eso0 : (so == (0 : Int)) = false := by rw [beq_eq_false_iff_ne]; exact hz
      have fso0 : (so != (0 : Int)) = true := by rw [bne, eso0]; rfl
      go_wp2_with fail
      go_ret
      exact ⟨rfl, HW.out⟩
end Go.Proofs.YtbnebkkpmcjmbaaGreatDoor


namespace Go.Proofs.YtbnebkkpmcjmbaaGreatDoor
open Go.RowKit Go.PL Go.Maps
set_option maxRecDepth 100000 in
set_option maxHeartbeats 12800000 in
theorem form_7c (k : Nat) (nn : Int) (nms : List (List UInt8)) (l : List Nd) (hk : sizesF l ≤ k) (hin : inN 10000000 (.mk 7 nms 0 nn 0 l)) (_hk7 : k + 1 ≤ 10000000) (v : Value) (w : World) (P : Nat → Prop) (h : NdV w P (.mk 7 nms 0 nn 0 l) v) (hk0 : ¬ (7 : Int) < 0) (hk1 : ¬ (17 : Int) < 7) (hsb : shapeBad 7 nms.length l.length = false) (hall : nms.all nameF = true) (hz : nn < 0) : Calls Tryz.prog 44 #[v] w fun e w' => e = .returned (.int .i64 ((2 : Nat) : Int)) ∧ Upto [] w w' := by
  obtain ⟨a1, c1, a2, c2, rfl, hs, hg⟩ := h.open
  unfold inN at hin
  have HG := Lib.hid hg
  obtain ⟨a1', c1', ev, hnm⟩ := hs.get
  obtain ⟨rfl, rfl⟩ : a1 = a1' ∧ c1 = c1' := by simpa using ev
  have HN : Hid (∀ i x, nms[i]? = some x → ∃ g o, a1 = some ⟨g, o, none⟩ ∧ w.cell? ⟨g, o + i, none⟩ = some (.string ⟨x.toArray⟩)) := Lib.hid (fun i x hi => hnm i _ (by rw [List.getElem?_map, hi]; rfl))
  have HSZ := Lib.hid hk
  have HIN := Lib.hid hin
  have HAL := Lib.hid hall
  have hu1 : Upto [] w (w.alloc (.cells #[.int .i64 7, .slice a1 nms.length c1, .int .i64 0, .int .i64 nn, .int .i64 0, .slice a2 l.length c2] 25)) := (Upto.refl [] w).alloc _
  have HB1 := Lib.hid (new_at w (.cells #[.int .i64 7, .slice a1 nms.length c1, .int .i64 0, .int .i64 nn, .int .i64 0, .slice a2 l.length c2] 25))
  have HU1 := Lib.hid hu1
  have hll := hin.2.2.1
  have hnl := hin.1
  have hL0 : (0 : Int) ≤ l.length := by omega
  have hL1 : (l.length : Int) ≤ 10000000 := by omega
  have hN0 : (0 : Int) ≤ nms.length := by omega
  have hN1 : (nms.length : Int) ≤ 10000000 := by omega
  have HH := Lib.hid (has_calls 7)
  obtain ⟨a, b, c, habc, ha17, hb17, hc17⟩ : ∃ a b c : Nat, hasF 7 = (a, b, c) ∧ a ≤ 17 ∧ b ≤ 17 ∧ c ≤ 17 := by
    unfold hasF
    repeat' split
    all_goals exact ⟨_, _, _, rfl, by decide, by decide, by decide⟩
  rw [habc] at HH
  simp only at HH
  obtain ⟨hs0, hs1, hs2⟩ : ¬ nms.length < a ∧ ¬ b < nms.length ∧ l.length = c := by
    unfold shapeBad at hsb
    rw [habc] at hsb
    simp at hsb
    omega
  have ha0 : (0 : Int) ≤ a := by omega
  have hb0 : (0 : Int) ≤ b := by omega
  have hc0 : (0 : Int) ≤ c := by omega
  have ha1 : (a : Int) ≤ 17 := by omega
  have hb1 : (b : Int) ≤ 17 := by omega
  have hc1 : (c : Int) ≤ 17 := by omega
  have q0 : ¬ (nms.length : Int) < a := by omega
  have q1 : ¬ (b : Int) < nms.length := by omega
  have q2 : ((l.length : Int) != (c : Int)) = false := by rw [hs2]; simp
  clear habc hsb hall h hs hg hk hu1 hnm ev hin hs2
  go_enter Tryz.func44, Tryz.ntmps44
  go_wp2_with fail
  refine (HH.out (w.alloc (.cells #[.int .i64 7, .slice a1 nms.length c1, .int .i64 0, .int .i64 nn, .int .i64 0, .slice a2 l.length c2] 25))).mono ?_
  rintro e w3 ⟨rfl, hu3⟩
  have HU3 := Lib.hid (HU1.out.trans_ext hu3)
  have hb3 := hu3.at HB1.out (by simp)
  have HB3 := Lib.hid hb3
  obtain ⟨y0, y1, y2, y3, y4, y5⟩ := cells6 hb3
  clear hu3 hb3
  go_wp2_with fail
  go_loopw [6] (fun i wr => ∃ j : Nat, j ≤ nms.length ∧ i = .int .i64 j ∧ Hid (Upto [] w3 wr)) (fun i _ => nms.length - (intOf i).toNat)
  case atStart => exact ⟨0, by omega, rfl, Lib.hid (Upto.refl _ _)⟩
  case round =>
    clear y0 y1 y2 y3 y4 y5
    obtain ⟨j, hj, rfl, HU⟩ := hrel
    have hj0 : (0 : Int) ≤ j := by omega
    have hb := HU.out.at HB3.out (by simp)
    have HB := Lib.hid hb
    obtain ⟨y0, y1, y2, y3, y4, y5⟩ := cells6 hb
    have HW := Lib.hid (HU3.out.trans_ext HU.out)
    rcases Nat.lt_or_ge j nms.length with hlt | hge
    · have hltI : (j : Int) < nms.length := by omega
      obtain ⟨x, hx⟩ : ∃ x, nms[j]? = some x := ⟨_, List.getElem?_eq_getElem hlt⟩
      have hxl := HIN.out.2.1 x (List.mem_of_getElem? hx)
      obtain ⟨g, o, rfl, c0⟩ := HN.out j x hx
      replace c0 := up_cell HW.out c0
      have HC := Lib.hid (isName_calls x wr (by omega))
      have hb2 : nameF x = true := List.all_eq_true.1 HAL.out x (List.mem_of_getElem? hx)
      rw [hb2] at HC
      clear hx hb hb2
      go_wp2_with fail
      refine HC.out.mono ?_
      rintro e w5 ⟨rfl, hu5⟩
      have HU5 := Lib.hid (HU.out.trans_ext hu5)
      clear hu5
      go_wp2_with fail
      go_roundw
      case rel => first | exact ⟨j + 1, by omega, by go_num, HU5⟩ | exact ⟨_, _, _, _, _, _, _, _, _, _, _, _, _, _, _, _, ⟨j + 1, by omega, by go_num, HU5⟩, rfl⟩
      case measure => simp [intOf]; omega
    · have hgeI : ¬ (j : Int) < nms.length := by omega
      clear hb q0 q1 q2 hs0 hs1 ha0 hb0 hc0 ha1 hb1 hc1 HH HAL HN
      go_wp2_with fail
      go_ret
      exact ⟨rfl, HW.out⟩
end Go.Proofs.YtbnebkkpmcjmbaaGreatDoor


namespace Go.Proofs.YtbnebkkpmcjmbaaGreatDoor
open Go.RowKit Go.PL Go.Maps
set_option maxRecDepth 100000 in
set_option maxHeartbeats 12800000 in
theorem form_7d (k : Nat) (nn : Int) (nms : List (List UInt8)) (l : List Nd) (hk : sizesF l ≤ k) (hin : inN 10000000 (.mk 7 nms 0 nn 0 l)) (_hk7 : k + 1 ≤ 10000000) (v : Value) (w : World) (P : Nat → Prop) (h : NdV w P (.mk 7 nms 0 nn 0 l) v) (hk0 : ¬ (7 : Int) < 0) (hk1 : ¬ (17 : Int) < 7) (hsb : shapeBad 7 nms.length l.length = false) (hall : nms.all nameF = true) (h1 : ¬ nn < 0) (hz : 7 < nn) : Calls Tryz.prog 44 #[v] w fun e w' => e = .returned (.int .i64 ((2 : Nat) : Int)) ∧ Upto [] w w' := by
  obtain ⟨a1, c1, a2, c2, rfl, hs, hg⟩ := h.open
  unfold inN at hin
  have HG := Lib.hid hg
  obtain ⟨a1', c1', ev, hnm⟩ := hs.get
  obtain ⟨rfl, rfl⟩ : a1 = a1' ∧ c1 = c1' := by simpa using ev
  have HN : Hid (∀ i x, nms[i]? = some x → ∃ g o, a1 = some ⟨g, o, none⟩ ∧ w.cell? ⟨g, o + i, none⟩ = some (.string ⟨x.toArray⟩)) := Lib.hid (fun i x hi => hnm i _ (by rw [List.getElem?_map, hi]; rfl))
  have HSZ := Lib.hid hk
  have HIN := Lib.hid hin
  have HAL := Lib.hid hall
  have hu1 : Upto [] w (w.alloc (.cells #[.int .i64 7, .slice a1 nms.length c1, .int .i64 0, .int .i64 nn, .int .i64 0, .slice a2 l.length c2] 25)) := (Upto.refl [] w).alloc _
  have HB1 := Lib.hid (new_at w (.cells #[.int .i64 7, .slice a1 nms.length c1, .int .i64 0, .int .i64 nn, .int .i64 0, .slice a2 l.length c2] 25))
  have HU1 := Lib.hid hu1
  have hll := hin.2.2.1
  have hnl := hin.1
  have hL0 : (0 : Int) ≤ l.length := by omega
  have hL1 : (l.length : Int) ≤ 10000000 := by omega
  have hN0 : (0 : Int) ≤ nms.length := by omega
  have hN1 : (nms.length : Int) ≤ 10000000 := by omega
  have HH := Lib.hid (has_calls 7)
  obtain ⟨a, b, c, habc, ha17, hb17, hc17⟩ : ∃ a b c : Nat, hasF 7 = (a, b, c) ∧ a ≤ 17 ∧ b ≤ 17 ∧ c ≤ 17 := by
    unfold hasF
    repeat' split
    all_goals exact ⟨_, _, _, rfl, by decide, by decide, by decide⟩
  rw [habc] at HH
  simp only at HH
  obtain ⟨hs0, hs1, hs2⟩ : ¬ nms.length < a ∧ ¬ b < nms.length ∧ l.length = c := by
    unfold shapeBad at hsb
    rw [habc] at hsb
    simp at hsb
    omega
  have ha0 : (0 : Int) ≤ a := by omega
  have hb0 : (0 : Int) ≤ b := by omega
  have hc0 : (0 : Int) ≤ c := by omega
  have ha1 : (a : Int) ≤ 17 := by omega
  have hb1 : (b : Int) ≤ 17 := by omega
  have hc1 : (c : Int) ≤ 17 := by omega
  have q0 : ¬ (nms.length : Int) < a := by omega
  have q1 : ¬ (b : Int) < nms.length := by omega
  have q2 : ((l.length : Int) != (c : Int)) = false := by rw [hs2]; simp
  clear habc hsb hall h hs hg hk hu1 hnm ev hin hs2
  go_enter Tryz.func44, Tryz.ntmps44
  go_wp2_with fail
  refine (HH.out (w.alloc (.cells #[.int .i64 7, .slice a1 nms.length c1, .int .i64 0, .int .i64 nn, .int .i64 0, .slice a2 l.length c2] 25))).mono ?_
  rintro e w3 ⟨rfl, hu3⟩
  have HU3 := Lib.hid (HU1.out.trans_ext hu3)
  have hb3 := hu3.at HB1.out (by simp)
  have HB3 := Lib.hid hb3
  obtain ⟨y0, y1, y2, y3, y4, y5⟩ := cells6 hb3
  clear hu3 hb3
  go_wp2_with fail
  go_loopw [6] (fun i wr => ∃ j : Nat, j ≤ nms.length ∧ i = .int .i64 j ∧ Hid (Upto [] w3 wr)) (fun i _ => nms.length - (intOf i).toNat)
  case atStart => exact ⟨0, by omega, rfl, Lib.hid (Upto.refl _ _)⟩
  case round =>
    clear y0 y1 y2 y3 y4 y5
    obtain ⟨j, hj, rfl, HU⟩ := hrel
    have hj0 : (0 : Int) ≤ j := by omega
    have hb := HU.out.at HB3.out (by simp)
    have HB := Lib.hid hb
    obtain ⟨y0, y1, y2, y3, y4, y5⟩ := cells6 hb
    have HW := Lib.hid (HU3.out.trans_ext HU.out)
    rcases Nat.lt_or_ge j nms.length with hlt | hge
    · have hltI : (j : Int) < nms.length := by omega
      obtain ⟨x, hx⟩ : ∃ x, nms[j]? = some x := ⟨_, List.getElem?_eq_getElem hlt⟩
      have hxl := HIN.out.2.1 x (List.mem_of_getElem? hx)
      obtain ⟨g, o, rfl, c0⟩ := HN.out j x hx
      replace c0 := up_cell HW.out c0
      have HC := Lib.hid (isName_calls x wr (by omega))
      have hb2 : nameF x = true := List.all_eq_true.1 HAL.out x (List.mem_of_getElem? hx)
      rw [hb2] at HC
      clear hx hb hb2
      go_wp2_with fail
      refine HC.out.mono ?_
      rintro e w5 ⟨rfl, hu5⟩
      have HU5 := Lib.hid (HU.out.trans_ext hu5)
      clear hu5
      go_wp2_with fail
      go_roundw
      case rel => first | exact ⟨j + 1, by omega, by go_num, HU5⟩ | exact ⟨_, _, _, _, _, _, _, _, _, _, _, _, _, _, _, _, ⟨j + 1, by omega, by go_num, HU5⟩, rfl⟩
      case measure => simp [intOf]; omega
    · have hgeI : ¬ (j : Int) < nms.length := by omega
      clear hb q0 q1 q2 hs0 hs1 ha0 hb0 hc0 ha1 hb1 hc1 HH HAL HN
      go_wp2_with fail
      go_ret
      exact ⟨rfl, HW.out⟩
end Go.Proofs.YtbnebkkpmcjmbaaGreatDoor


namespace Go.Proofs.YtbnebkkpmcjmbaaGreatDoor
open Go.RowKit Go.PL Go.Maps
set_option maxRecDepth 100000 in
set_option maxHeartbeats 12800000 in
theorem form_7g (k : Nat) (nn : Int) (nms : List (List UInt8)) (l : List Nd) (hk : sizesF l ≤ k) (hin : inN 10000000 (.mk 7 nms 0 nn 0 l)) (_hk7 : k + 1 ≤ 10000000) (v : Value) (w : World) (P : Nat → Prop) (h : NdV w P (.mk 7 nms 0 nn 0 l) v) (hk0 : ¬ (7 : Int) < 0) (hk1 : ¬ (17 : Int) < 7) (hsb : shapeBad 7 nms.length l.length = false) (hall : nms.all nameF = true) (h1 : ¬ nn < 0) (h2 : ¬ 7 < nn) (IH : ∀ (nd : Nd), sizeF nd ≤ k → inN 10000000 nd → ∀ (v : Value) (w : World) (P : Nat → Prop), NdV w P nd v → Calls Tryz.prog 44 #[v] w fun e w' => e = .returned (.int .i64 (formF nameF nd : Nat)) ∧ Upto [] w w') : Calls Tryz.prog 44 #[v] w fun e w' => e = .returned (.int .i64 ((formsF nameF l : Nat) : Int)) ∧ Upto [] w w' := by
  obtain ⟨a1, c1, a2, c2, rfl, hs, hg⟩ := h.open
  unfold inN at hin
  have HG := Lib.hid hg
  obtain ⟨a1', c1', ev, hnm⟩ := hs.get
  obtain ⟨rfl, rfl⟩ : a1 = a1' ∧ c1 = c1' := by simpa using ev
  have HN : Hid (∀ i x, nms[i]? = some x → ∃ g o, a1 = some ⟨g, o, none⟩ ∧ w.cell? ⟨g, o + i, none⟩ = some (.string ⟨x.toArray⟩)) := Lib.hid (fun i x hi => hnm i _ (by rw [List.getElem?_map, hi]; rfl))
  have HSZ := Lib.hid hk
  have HIN := Lib.hid hin
  have HAL := Lib.hid hall
  have hu1 : Upto [] w (w.alloc (.cells #[.int .i64 7, .slice a1 nms.length c1, .int .i64 0, .int .i64 nn, .int .i64 0, .slice a2 l.length c2] 25)) := (Upto.refl [] w).alloc _
  have HB1 := Lib.hid (new_at w (.cells #[.int .i64 7, .slice a1 nms.length c1, .int .i64 0, .int .i64 nn, .int .i64 0, .slice a2 l.length c2] 25))
  have HU1 := Lib.hid hu1
  have hll := hin.2.2.1
  have hnl := hin.1
  have hL0 : (0 : Int) ≤ l.length := by omega
  have hL1 : (l.length : Int) ≤ 10000000 := by omega
  have hN0 : (0 : Int) ≤ nms.length := by omega
  have hN1 : (nms.length : Int) ≤ 10000000 := by omega
  have HH := Lib.hid (has_calls 7)
  obtain ⟨a, b, c, habc, ha17, hb17, hc17⟩ : ∃ a b c : Nat, hasF 7 = (a, b, c) ∧ a ≤ 17 ∧ b ≤ 17 ∧ c ≤ 17 := by
    unfold hasF
    repeat' split
    all_goals exact ⟨_, _, _, rfl, by decide, by decide, by decide⟩
  rw [habc] at HH
  simp only at HH
  obtain ⟨hs0, hs1, hs2⟩ : ¬ nms.length < a ∧ ¬ b < nms.length ∧ l.length = c := by
    unfold shapeBad at hsb
    rw [habc] at hsb
    simp at hsb
    omega
  have ha0 : (0 : Int) ≤ a := by omega
  have hb0 : (0 : Int) ≤ b := by omega
  have hc0 : (0 : Int) ≤ c := by omega
  have ha1 : (a : Int) ≤ 17 := by omega
  have hb1 : (b : Int) ≤ 17 := by omega
  have hc1 : (c : Int) ≤ 17 := by omega
  have q0 : ¬ (nms.length : Int) < a := by omega
  have q1 : ¬ (b : Int) < nms.length := by omega
  have q2 : ((l.length : Int) != (c : Int)) = false := by rw [hs2]; simp
  clear habc hsb hall h hs hg hk hu1 hnm ev hin hs2
  go_enter Tryz.func44, Tryz.ntmps44
  go_wp2_with fail
  refine (HH.out (w.alloc (.cells #[.int .i64 7, .slice a1 nms.length c1, .int .i64 0, .int .i64 nn, .int .i64 0, .slice a2 l.length c2] 25))).mono ?_
  rintro e w3 ⟨rfl, hu3⟩
  have HU3 := Lib.hid (HU1.out.trans_ext hu3)
  have hb3 := hu3.at HB1.out (by simp)
  have HB3 := Lib.hid hb3
  obtain ⟨y0, y1, y2, y3, y4, y5⟩ := cells6 hb3
  clear hu3 hb3
  go_wp2_with fail
  go_loopw [6] (fun i wr => ∃ j : Nat, j ≤ nms.length ∧ i = .int .i64 j ∧ Hid (Upto [] w3 wr)) (fun i _ => nms.length - (intOf i).toNat)
  case atStart => exact ⟨0, by omega, rfl, Lib.hid (Upto.refl _ _)⟩
  case round =>
    clear y0 y1 y2 y3 y4 y5
    obtain ⟨j, hj, rfl, HU⟩ := hrel
    have hj0 : (0 : Int) ≤ j := by omega
    have hb := HU.out.at HB3.out (by simp)
    have HB := Lib.hid hb
    obtain ⟨y0, y1, y2, y3, y4, y5⟩ := cells6 hb
    have HW := Lib.hid (HU3.out.trans_ext HU.out)
    rcases Nat.lt_or_ge j nms.length with hlt | hge
    · have hltI : (j : Int) < nms.length := by omega
      obtain ⟨x, hx⟩ : ∃ x, nms[j]? = some x := ⟨_, List.getElem?_eq_getElem hlt⟩
      have hxl := HIN.out.2.1 x (List.mem_of_getElem? hx)
      obtain ⟨g, o, rfl, c0⟩ := HN.out j x hx
      replace c0 := up_cell HW.out c0
      have HC := Lib.hid (isName_calls x wr (by omega))
      have hb2 : nameF x = true := List.all_eq_true.1 HAL.out x (List.mem_of_getElem? hx)
      rw [hb2] at HC
      clear hx hb hb2
      go_wp2_with fail
      refine HC.out.mono ?_
      rintro e w5 ⟨rfl, hu5⟩
      have HU5 := Lib.hid (HU.out.trans_ext hu5)
      clear hu5
      go_wp2_with fail
      go_roundw
      case rel => first | exact ⟨j + 1, by omega, by go_num, HU5⟩ | exact ⟨_, _, _, _, _, _, _, _, _, _, _, _, _, _, _, _, ⟨j + 1, by omega, by go_num, HU5⟩, rfl⟩
      case measure => simp [intOf]; omega
    · have hgeI : ¬ (j : Int) < nms.length := by omega
      clear hb q0 q1 q2 hs0 hs1 ha0 hb0 hc0 ha1 hb1 hc1 HH HAL HN
      go_wp2_with fail
      go_loopw [7] (fun i wx => ∃ m : Nat, m ≤ l.length ∧ i = .int .i64 m ∧ Hid (formsF nameF (l.drop m) = formsF nameF l) ∧ Hid (Upto [] wr wx)) (fun i _ => l.length - (intOf i).toNat)
      case atStart => exact ⟨0, by omega, rfl, Lib.hid rfl, Lib.hid (Upto.refl _ _)⟩
      case round =>
        clear y0 y1 y2 y3 y4 y5
        obtain ⟨m, hm, rfl, HB9, HV⟩ := hrel
        have hm0 : (0 : Int) ≤ m := by omega
        have hb := HV.out.at HB.out (by simp)
        have y5 := cell_of hb 5
        simp only [List.getElem?_toArray, List.getElem?_cons_zero, List.getElem?_cons_succ] at y5
        have HW2 := Lib.hid (HW.out.trans_ext HV.out)
        rcases Nat.lt_or_ge m l.length with hlt | hge2
        · have hltI : (m : Int) < l.length := by omega
          obtain ⟨x, hx⟩ : ∃ x, l[m]? = some x := ⟨_, List.getElem?_eq_getElem hlt⟩
          have HDR : Hid (l.drop m = x :: l.drop (m + 1)) := Lib.hid (by
            obtain ⟨hi, h3⟩ := List.getElem?_eq_some_iff.1 hx
            rw [List.drop_eq_getElem_cons hi, h3])
          obtain ⟨g, o, xo, xn1, xn2, xn3, xs, xm, xq, xl1, xl2, xl3, rfl, d0, d1, d2, d3, d4, d5, hnx⟩ := HG.out m x hx
          replace d0 := up_cell HW2.out d0
          replace d1 := up_cell HW2.out d1
          replace d2 := up_cell HW2.out d2
          replace d3 := up_cell HW2.out d3
          replace d4 := up_cell HW2.out d4
          replace d5 := up_cell HW2.out d5
          have HC := Lib.hid (IH x (by have := HSZ.out; have := sizesF_mem (List.mem_of_getElem? hx); omega) (insN_mem HIN.out.2.2.2 (List.mem_of_getElem? hx)) _ wr P (hnx.ext HW2.out))
          by_cases hz : formF nameF x = 0
          · have HA2 : Hid (formsF nameF (l.drop (m + 1)) = formsF nameF l) := Lib.hid (by
              rw [← HB9.out, HDR.out]
              conv => rhs; unfold formsF
              rw [hz]
              rfl)
            rw [hz] at HC
            clear hx hb hz hnx
            go_wp2_with fail
            refine HC.out.mono ?_
            rintro e w5 ⟨rfl, hu5⟩
            have HU5 := Lib.hid (HV.out.trans_ext hu5)
            clear hu5
            go_wp2_with fail
            go_roundw
            case rel => first | exact ⟨m + 1, by omega, by go_num, HA2, HU5⟩ | exact ⟨_, _, _, _, _, _, _, _, _, _, _, _, _, _, _, _, _, _, _, ⟨m + 1, by omega, by go_num, HA2, HU5⟩, rfl⟩
            case measure => simp [intOf]; omega
          · have HF : Hid (formsF nameF l = formF nameF x) := Lib.hid (by
              rw [← HB9.out, HDR.out]
              unfold formsF
              rw [if_pos hz])
            generalize hfx : formF nameF x = fx at *
            have ez : ((fx : Int) == 0) = false := by rw [beq_eq_false_iff_ne]; omega
            have ez2 : ((fx : Int) != 0) = true := by rw [bne, ez]; rfl
            clear hx hb hz hnx hfx
            go_wp2_with fail
            refine HC.out.mono ?_
            rintro e w5 ⟨rfl, hu5⟩
            have HU5 := Lib.hid (HW2.out.trans_ext hu5)
            clear hu5
            go_wp2_with fail
            go_ret
            rw [HF.out]
            exact ⟨rfl, HU5.out⟩
        · have hgeJ : ¬ (m : Int) < l.length := by omega
          have HF : Hid (formsF nameF l = 0) := Lib.hid (by
            rw [← HB9.out, List.drop_of_length_le (by omega)]
            rfl)
          clear hb
          go_wp2_with fail
          go_ret
          rw [HF.out]
          exact ⟨rfl, HW2.out⟩
end Go.Proofs.YtbnebkkpmcjmbaaGreatDoor


namespace Go.Proofs.YtbnebkkpmcjmbaaGreatDoor
open Go.RowKit Go.PL Go.Maps
set_option maxRecDepth 100000 in
set_option maxHeartbeats 12800000 in
theorem form_8a (k : Nat) (so nn mm : Int) (nms : List (List UInt8)) (l : List Nd) (hk : sizesF l ≤ k) (hin : inN 10000000 (.mk 8 nms so nn mm l)) (_hk7 : k + 1 ≤ 10000000) (v : Value) (w : World) (P : Nat → Prop) (h : NdV w P (.mk 8 nms so nn mm l) v) (hk0 : ¬ (8 : Int) < 0) (hk1 : ¬ (17 : Int) < 8) (hsb : shapeBad 8 nms.length l.length = false) (hall : nms.all nameF = true) (hz : so ≠ 0) : Calls Tryz.prog 44 #[v] w fun e w' => e = .returned (.int .i64 ((3 : Nat) : Int)) ∧ Upto [] w w' := by
  obtain ⟨a1, c1, a2, c2, rfl, hs, hg⟩ := h.open
  unfold inN at hin
  have HG := Lib.hid hg
  obtain ⟨a1', c1', ev, hnm⟩ := hs.get
  obtain ⟨rfl, rfl⟩ : a1 = a1' ∧ c1 = c1' := by simpa using ev
  have HN : Hid (∀ i x, nms[i]? = some x → ∃ g o, a1 = some ⟨g, o, none⟩ ∧ w.cell? ⟨g, o + i, none⟩ = some (.string ⟨x.toArray⟩)) := Lib.hid (fun i x hi => hnm i _ (by rw [List.getElem?_map, hi]; rfl))
  have HSZ := Lib.hid hk
  have HIN := Lib.hid hin
  have HAL := Lib.hid hall
  have hu1 : Upto [] w (w.alloc (.cells #[.int .i64 8, .slice a1 nms.length c1, .int .i64 so, .int .i64 nn, .int .i64 mm, .slice a2 l.length c2] 25)) := (Upto.refl [] w).alloc _
  have HB1 := Lib.hid (new_at w (.cells #[.int .i64 8, .slice a1 nms.length c1, .int .i64 so, .int .i64 nn, .int .i64 mm, .slice a2 l.length c2] 25))
  have HU1 := Lib.hid hu1
  have hll := hin.2.2.1
  have hnl := hin.1
  have hL0 : (0 : Int) ≤ l.length := by omega
  have hL1 : (l.length : Int) ≤ 10000000 := by omega
  have hN0 : (0 : Int) ≤ nms.length := by omega
  have hN1 : (nms.length : Int) ≤ 10000000 := by omega
  have HH := Lib.hid (has_calls 8)
  obtain ⟨a, b, c, habc, ha17, hb17, hc17⟩ : ∃ a b c : Nat, hasF 8 = (a, b, c) ∧ a ≤ 17 ∧ b ≤ 17 ∧ c ≤ 17 := by
    unfold hasF
    repeat' split
    all_goals exact ⟨_, _, _, rfl, by decide, by decide, by decide⟩
  rw [habc] at HH
  simp only at HH
  obtain ⟨hs0, hs1, hs2⟩ : ¬ nms.length < a ∧ ¬ b < nms.length ∧ l.length = c := by
    unfold shapeBad at hsb
    rw [habc] at hsb
    simp at hsb
    omega
  have ha0 : (0 : Int) ≤ a := by omega
  have hb0 : (0 : Int) ≤ b := by omega
  have hc0 : (0 : Int) ≤ c := by omega
  have ha1 : (a : Int) ≤ 17 := by omega
  have hb1 : (b : Int) ≤ 17 := by omega
  have hc1 : (c : Int) ≤ 17 := by omega
  have q0 : ¬ (nms.length : Int) < a := by omega
  have q1 : ¬ (b : Int) < nms.length := by omega
  have q2 : ((l.length : Int) != (c : Int)) = false := by rw [hs2]; simp
  clear habc hsb hall h hs hg hk hu1 hnm ev hin hs2
  go_enter Tryz.func44, Tryz.ntmps44
  go_wp2_with fail
  refine (HH.out (w.alloc (.cells #[.int .i64 8, .slice a1 nms.length c1, .int .i64 so, .int .i64 nn, .int .i64 mm, .slice a2 l.length c2] 25))).mono ?_
  rintro e w3 ⟨rfl, hu3⟩
  have HU3 := Lib.hid (HU1.out.trans_ext hu3)
  have hb3 := hu3.at HB1.out (by simp)
  have HB3 := Lib.hid hb3
  obtain ⟨y0, y1, y2, y3, y4, y5⟩ := cells6 hb3
  clear hu3 hb3
  go_wp2_with fail
  go_loopw [6] (fun i wr => ∃ j : Nat, j ≤ nms.length ∧ i = .int .i64 j ∧ Hid (Upto [] w3 wr)) (fun i _ => nms.length - (intOf i).toNat)
  case atStart => exact ⟨0, by omega, rfl, Lib.hid (Upto.refl _ _)⟩
  case round =>
    clear y0 y1 y2 y3 y4 y5
    obtain ⟨j, hj, rfl, HU⟩ := hrel
    have hj0 : (0 : Int) ≤ j := by omega
    have hb := HU.out.at HB3.out (by simp)
    have HB := Lib.hid hb
    obtain ⟨y0, y1, y2, y3, y4, y5⟩ := cells6 hb
    have HW := Lib.hid (HU3.out.trans_ext HU.out)
    rcases Nat.lt_or_ge j nms.length with hlt | hge
    · have hltI : (j : Int) < nms.length := by omega
      obtain ⟨x, hx⟩ : ∃ x, nms[j]? = some x := ⟨_, List.getElem?_eq_getElem hlt⟩
      have hxl := HIN.out.2.1 x (List.mem_of_getElem? hx)
      obtain ⟨g, o, rfl, c0⟩ := HN.out j x hx
      replace c0 := up_cell HW.out c0
      have HC := Lib.hid (isName_calls x wr (by omega))
      have hb2 : nameF x = true := List.all_eq_true.1 HAL.out x (List.mem_of_getElem? hx)
      rw [hb2] at HC
      clear hx hb hb2
      go_wp2_with fail
      refine HC.out.mono ?_
      rintro e w5 ⟨rfl, hu5⟩
      have HU5 := Lib.hid (HU.out.trans_ext hu5)
      clear hu5
      go_wp2_with fail
      go_roundw
      case rel => first | exact ⟨j + 1, by omega, by go_num, HU5⟩ | exact ⟨_, _, _, _, _, _, _, _, _, _, _, _, _, _, _, _, ⟨j + 1, by omega, by go_num, HU5⟩, rfl⟩
      case measure => simp [intOf]; omega
    · have hgeI : ¬ (j : Int) < nms.length := by omega
      clear hb q0 q1 q2 hs0 hs1 ha0 hb0 hc0 ha1 hb1 hc1 HH HAL HN
      have eso0 : (so == (0 : Int)) = false := by rw [beq_eq_false_iff_ne]; exact hz
      have fso0 : (so != (0 : Int)) = true := by rw [bne, eso0]; rfl
      go_wp2_with fail
      go_ret
      exact ⟨rfl, HW.out⟩
end Go.Proofs.YtbnebkkpmcjmbaaGreatDoor


namespace Go.Proofs.YtbnebkkpmcjmbaaGreatDoor
open Go.RowKit Go.PL Go.Maps
set_option maxRecDepth 100000 in
set_option maxHeartbeats 12800000 in
theorem form_8b (k : Nat) (nn mm : Int) (nms : List (List UInt8)) (l : List Nd) (hk : sizesF l ≤ k) (hin : inN 10000000 (.mk 8 nms 0 nn mm l)) (_hk7 : k + 1 ≤ 10000000) (v : Value) (w : World) (P : Nat → Prop) (h : NdV w P (.mk 8 nms 0 nn mm l) v) (hk0 : ¬ (8 : Int) < 0) (hk1 : ¬ (17 : Int) < 8) (hsb : shapeBad 8 nms.length l.length = false) (hall : nms.all nameF = true) (hz : mm < 1) : Calls Tryz.prog 44 #[v] w fun e w' => e = .returned (.int .i64 ((2 : Nat) : Int)) ∧ Upto [] w w' := by
  obtain ⟨a1, c1, a2, c2, rfl, hs, hg⟩ := h.open
  unfold inN at hin
  have HG := Lib.hid hg
  obtain ⟨a1', c1', ev, hnm⟩ := hs.get
  obtain ⟨rfl, rfl⟩ : a1 = a1' ∧ c1 = c1' := by simpa using ev
  have HN : Hid (∀ i x, nms[i]? = some x → ∃ g o, a1 = some ⟨g, o, none⟩ ∧ w.cell? ⟨g, o + i, none⟩ = some (.string ⟨x.toArray⟩)) := Lib.hid (fun i x hi => hnm i _ (by rw [List.getElem?_map, hi]; rfl))
  have HSZ := Lib.hid hk
  have HIN := Lib.hid hin
  have HAL := Lib.hid hall
  have hu1 : Upto [] w (w.alloc (.cells #[.int .i64 8, .slice a1 nms.length c1, .int .i64 0, .int .i64 nn, .int .i64 mm, .slice a2 l.length c2] 25)) := (Upto.refl [] w).alloc _
  have HB1 := Lib.hid (new_at w (.cells #[.int .i64 8, .slice a1 nms.length c1, .int .i64 0, .int .i64 nn, .int .i64 mm, .slice a2 l.length c2] 25))
  have HU1 := Lib.hid hu1
  have hll := hin.2.2.1
  have hnl := hin.1
  have hL0 : (0 : Int) ≤ l.length := by omega
  have hL1 : (l.length : Int) ≤ 10000000 := by omega
  have hN0 : (0 : Int) ≤ nms.length := by omega
  have hN1 : (nms.length : Int) ≤ 10000000 := by omega
  have HH := Lib.hid (has_calls 8)
  obtain ⟨a, b, c, habc, ha17, hb17, hc17⟩ : ∃ a b c : Nat, hasF 8 = (a, b, c) ∧ a ≤ 17 ∧ b ≤ 17 ∧ c ≤ 17 := by
    unfold hasF
    repeat' split
    all_goals exact ⟨_, _, _, rfl, by decide, by decide, by decide⟩
  rw [habc] at HH
  simp only at HH
  obtain ⟨hs0, hs1, hs2⟩ : ¬ nms.length < a ∧ ¬ b < nms.length ∧ l.length = c := by
    unfold shapeBad at hsb
    rw [habc] at hsb
    simp at hsb
    omega
  have ha0 : (0 : Int) ≤ a := by omega
  have hb0 : (0 : Int) ≤ b := by omega
  have hc0 : (0 : Int) ≤ c := by omega
  have ha1 : (a : Int) ≤ 17 := by omega
  have hb1 : (b : Int) ≤ 17 := by omega
  have hc1 : (c : Int) ≤ 17 := by omega
  have q0 : ¬ (nms.length : Int) < a := by omega
  have q1 : ¬ (b : Int) < nms.length := by omega
  have q2 : ((l.length : Int) != (c : Int)) = false := by rw [hs2]; simp
  clear habc hsb hall h hs hg hk hu1 hnm ev hin hs2
  go_enter Tryz.func44, Tryz.ntmps44
  go_wp2_with fail
  refine (HH.out (w.alloc (.cells #[.int .i64 8, .slice a1 nms.length c1, .int .i64 0, .int .i64 nn, .int .i64 mm, .slice a2 l.length c2] 25))).mono ?_
  rintro e w3 ⟨rfl, hu3⟩
  have HU3 := Lib.hid (HU1.out.trans_ext hu3)
  have hb3 := hu3.at HB1.out (by simp)
  have HB3 := Lib.hid hb3
  obtain ⟨y0, y1, y2, y3, y4, y5⟩ := cells6 hb3
  clear hu3 hb3
  go_wp2_with fail
  go_loopw [6] (fun i wr => ∃ j : Nat, j ≤ nms.length ∧ i = .int .i64 j ∧ Hid (Upto [] w3 wr)) (fun i _ => nms.length - (intOf i).toNat)
  case atStart => exact ⟨0, by omega, rfl, Lib.hid (Upto.refl _ _)⟩
  case round =>
    clear y0 y1 y2 y3 y4 y5
    obtain ⟨j, hj, rfl, HU⟩ := hrel
    have hj0 : (0 : Int) ≤ j := by omega
    have hb := HU.out.at HB3.out (by simp)
    have HB := Lib.hid hb
    obtain ⟨y0, y1, y2, y3, y4, y5⟩ := cells6 hb
    have HW := Lib.hid (HU3.out.trans_ext HU.out)
    rcases Nat.lt_or_ge j nms.length with hlt | hge
    · have hltI : (j : Int) < nms.length := by omega
      obtain ⟨x, hx⟩ : ∃ x, nms[j]? = some x := ⟨_, List.getElem?_eq_getElem hlt⟩
      have hxl := HIN.out.2.1 x (List.mem_of_getElem? hx)
      obtain ⟨g, o, rfl, c0⟩ := HN.out j x hx
      replace c0 := up_cell HW.out c0
      have HC := Lib.hid (isName_calls x wr (by omega))
      have hb2 : nameF x = true := List.all_eq_true.1 HAL.out x (List.mem_of_getElem? hx)
      rw [hb2] at HC
      clear hx hb hb2
      go_wp2_with fail
      refine HC.out.mono ?_
      rintro e w5 ⟨rfl, hu5⟩
      have HU5 := Lib.hid (HU.out.trans_ext hu5)
      clear hu5
      go_wp2_with fail
      go_roundw
      case rel => first | exact ⟨j + 1, by omega, by go_num, HU5⟩ | exact ⟨_, _, _, _, _, _, _, _, _, _, _, _, _, _, _, _, ⟨j + 1, by omega, by go_num, HU5⟩, rfl⟩
      case measure => simp [intOf]; omega
    · have hgeI : ¬ (j : Int) < nms.length := by omega
      clear hb q0 q1 q2 hs0 hs1 ha0 hb0 hc0 ha1 hb1 hc1 HH HAL HN
      go_wp2_with fail
      go_ret
      exact ⟨rfl, HW.out⟩
end Go.Proofs.YtbnebkkpmcjmbaaGreatDoor


namespace Go.Proofs.YtbnebkkpmcjmbaaGreatDoor
open Go.RowKit Go.PL Go.Maps
set_option maxRecDepth 100000 in
set_option maxHeartbeats 12800000 in
theorem form_8c (k : Nat) (nn mm : Int) (nms : List (List UInt8)) (l : List Nd) (hk : sizesF l ≤ k) (hin : inN 10000000 (.mk 8 nms 0 nn mm l)) (_hk7 : k + 1 ≤ 10000000) (v : Value) (w : World) (P : Nat → Prop) (h : NdV w P (.mk 8 nms 0 nn mm l) v) (hk0 : ¬ (8 : Int) < 0) (hk1 : ¬ (17 : Int) < 8) (hsb : shapeBad 8 nms.length l.length = false) (hall : nms.all nameF = true) (h1 : ¬ mm < 1) (hz : 64 < mm) : Calls Tryz.prog 44 #[v] w fun e w' => e = .returned (.int .i64 ((2 : Nat) : Int)) ∧ Upto [] w w' := by
  obtain ⟨a1, c1, a2, c2, rfl, hs, hg⟩ := h.open
  unfold inN at hin
  have HG := Lib.hid hg
  obtain ⟨a1', c1', ev, hnm⟩ := hs.get
  obtain ⟨rfl, rfl⟩ : a1 = a1' ∧ c1 = c1' := by simpa using ev
  have HN : Hid (∀ i x, nms[i]? = some x → ∃ g o, a1 = some ⟨g, o, none⟩ ∧ w.cell? ⟨g, o + i, none⟩ = some (.string ⟨x.toArray⟩)) := Lib.hid (fun i x hi => hnm i _ (by rw [List.getElem?_map, hi]; rfl))
  have HSZ := Lib.hid hk
  have HIN := Lib.hid hin
  have HAL := Lib.hid hall
  have hu1 : Upto [] w (w.alloc (.cells #[.int .i64 8, .slice a1 nms.length c1, .int .i64 0, .int .i64 nn, .int .i64 mm, .slice a2 l.length c2] 25)) := (Upto.refl [] w).alloc _
  have HB1 := Lib.hid (new_at w (.cells #[.int .i64 8, .slice a1 nms.length c1, .int .i64 0, .int .i64 nn, .int .i64 mm, .slice a2 l.length c2] 25))
  have HU1 := Lib.hid hu1
  have hll := hin.2.2.1
  have hnl := hin.1
  have hL0 : (0 : Int) ≤ l.length := by omega
  have hL1 : (l.length : Int) ≤ 10000000 := by omega
  have hN0 : (0 : Int) ≤ nms.length := by omega
  have hN1 : (nms.length : Int) ≤ 10000000 := by omega
  have HH := Lib.hid (has_calls 8)
  obtain ⟨a, b, c, habc, ha17, hb17, hc17⟩ : ∃ a b c : Nat, hasF 8 = (a, b, c) ∧ a ≤ 17 ∧ b ≤ 17 ∧ c ≤ 17 := by
    unfold hasF
    repeat' split
    all_goals exact ⟨_, _, _, rfl, by decide, by decide, by decide⟩
  rw [habc] at HH
  simp only at HH
  obtain ⟨hs0, hs1, hs2⟩ : ¬ nms.length < a ∧ ¬ b < nms.length ∧ l.length = c := by
    unfold shapeBad at hsb
    rw [habc] at hsb
    simp at hsb
    omega
  have ha0 : (0 : Int) ≤ a := by omega
  have hb0 : (0 : Int) ≤ b := by omega
  have hc0 : (0 : Int) ≤ c := by omega
  have ha1 : (a : Int) ≤ 17 := by omega
  have hb1 : (b : Int) ≤ 17 := by omega
  have hc1 : (c : Int) ≤ 17 := by omega
  have q0 : ¬ (nms.length : Int) < a := by omega
  have q1 : ¬ (b : Int) < nms.length := by omega
  have q2 : ((l.length : Int) != (c : Int)) = false := by rw [hs2]; simp
  clear habc hsb hall h hs hg hk hu1 hnm ev hin hs2
  go_enter Tryz.func44, Tryz.ntmps44
  go_wp2_with fail
  refine (HH.out (w.alloc (.cells #[.int .i64 8, .slice a1 nms.length c1, .int .i64 0, .int .i64 nn, .int .i64 mm, .slice a2 l.length c2] 25))).mono ?_
  rintro e w3 ⟨rfl, hu3⟩
  have HU3 := Lib.hid (HU1.out.trans_ext hu3)
  have hb3 := hu3.at HB1.out (by simp)
  have HB3 := Lib.hid hb3
  obtain ⟨y0, y1, y2, y3, y4, y5⟩ := cells6 hb3
  clear hu3 hb3
  go_wp2_with fail
  go_loopw [6] (fun i wr => ∃ j : Nat, j ≤ nms.length ∧ i = .int .i64 j ∧ Hid (Upto [] w3 wr)) (fun i _ => nms.length - (intOf i).toNat)
  case atStart => exact ⟨0, by omega, rfl, Lib.hid (Upto.refl _ _)⟩
  case round =>
    clear y0 y1 y2 y3 y4 y5
    obtain ⟨j, hj, rfl, HU⟩ := hrel
    have hj0 : (0 : Int) ≤ j := by omega
    have hb := HU.out.at HB3.out (by simp)
    have HB := Lib.hid hb
    obtain ⟨y0, y1, y2, y3, y4, y5⟩ := cells6 hb
    have HW := Lib.hid (HU3.out.trans_ext HU.out)
    rcases Nat.lt_or_ge j nms.length with hlt | hge
    · have hltI : (j : Int) < nms.length := by omega
      obtain ⟨x, hx⟩ : ∃ x, nms[j]? = some x := ⟨_, List.getElem?_eq_getElem hlt⟩
      have hxl := HIN.out.2.1 x (List.mem_of_getElem? hx)
      obtain ⟨g, o, rfl, c0⟩ := HN.out j x hx
      replace c0 := up_cell HW.out c0
      have HC := Lib.hid (isName_calls x wr (by omega))
      have hb2 : nameF x = true := List.all_eq_true.1 HAL.out x (List.mem_of_getElem? hx)
      rw [hb2] at HC
      clear hx hb hb2
      go_wp2_with fail
      refine HC.out.mono ?_
      rintro e w5 ⟨rfl, hu5⟩
      have HU5 := Lib.hid (HU.out.trans_ext hu5)
      clear hu5
      go_wp2_with fail
      go_roundw
      case rel => first | exact ⟨j + 1, by omega, by go_num, HU5⟩ | exact ⟨_, _, _, _, _, _, _, _, _, _, _, _, _, _, _, _, ⟨j + 1, by omega, by go_num, HU5⟩, rfl⟩
      case measure => simp [intOf]; omega
    · have hgeI : ¬ (j : Int) < nms.length := by omega
      clear hb q0 q1 q2 hs0 hs1 ha0 hb0 hc0 ha1 hb1 hc1 HH HAL HN
      go_wp2_with fail
      go_ret
      exact ⟨rfl, HW.out⟩
end Go.Proofs.YtbnebkkpmcjmbaaGreatDoor


namespace Go.Proofs.YtbnebkkpmcjmbaaGreatDoor
open Go.RowKit Go.PL Go.Maps
set_option maxRecDepth 100000 in
set_option maxHeartbeats 12800000 in
theorem form_8d (k : Nat) (nn mm : Int) (nms : List (List UInt8)) (l : List Nd) (hk : sizesF l ≤ k) (hin : inN 10000000 (.mk 8 nms 0 nn mm l)) (_hk7 : k + 1 ≤ 10000000) (v : Value) (w : World) (P : Nat → Prop) (h : NdV w P (.mk 8 nms 0 nn mm l) v) (hk0 : ¬ (8 : Int) < 0) (hk1 : ¬ (17 : Int) < 8) (hsb : shapeBad 8 nms.length l.length = false) (hall : nms.all nameF = true) (h1 : ¬ mm < 1) (h2 : ¬ 64 < mm) (hz : nn < 0) : Calls Tryz.prog 44 #[v] w fun e w' => e = .returned (.int .i64 ((2 : Nat) : Int)) ∧ Upto [] w w' := by
  obtain ⟨a1, c1, a2, c2, rfl, hs, hg⟩ := h.open
  unfold inN at hin
  have HG := Lib.hid hg
  obtain ⟨a1', c1', ev, hnm⟩ := hs.get
  obtain ⟨rfl, rfl⟩ : a1 = a1' ∧ c1 = c1' := by simpa using ev
  have HN : Hid (∀ i x, nms[i]? = some x → ∃ g o, a1 = some ⟨g, o, none⟩ ∧ w.cell? ⟨g, o + i, none⟩ = some (.string ⟨x.toArray⟩)) := Lib.hid (fun i x hi => hnm i _ (by rw [List.getElem?_map, hi]; rfl))
  have HSZ := Lib.hid hk
  have HIN := Lib.hid hin
  have HAL := Lib.hid hall
  have hu1 : Upto [] w (w.alloc (.cells #[.int .i64 8, .slice a1 nms.length c1, .int .i64 0, .int .i64 nn, .int .i64 mm, .slice a2 l.length c2] 25)) := (Upto.refl [] w).alloc _
  have HB1 := Lib.hid (new_at w (.cells #[.int .i64 8, .slice a1 nms.length c1, .int .i64 0, .int .i64 nn, .int .i64 mm, .slice a2 l.length c2] 25))
  have HU1 := Lib.hid hu1
  have hll := hin.2.2.1
  have hnl := hin.1
  have hL0 : (0 : Int) ≤ l.length := by omega
  have hL1 : (l.length : Int) ≤ 10000000 := by omega
  have hN0 : (0 : Int) ≤ nms.length := by omega
  have hN1 : (nms.length : Int) ≤ 10000000 := by omega
  have HH := Lib.hid (has_calls 8)
  obtain ⟨a, b, c, habc, ha17, hb17, hc17⟩ : ∃ a b c : Nat, hasF 8 = (a, b, c) ∧ a ≤ 17 ∧ b ≤ 17 ∧ c ≤ 17 := by
    unfold hasF
    repeat' split
    all_goals exact ⟨_, _, _, rfl, by decide, by decide, by decide⟩
  rw [habc] at HH
  simp only at HH
  obtain ⟨hs0, hs1, hs2⟩ : ¬ nms.length < a ∧ ¬ b < nms.length ∧ l.length = c := by
    unfold shapeBad at hsb
    rw [habc] at hsb
    simp at hsb
    omega
  have ha0 : (0 : Int) ≤ a := by omega
  have hb0 : (0 : Int) ≤ b := by omega
  have hc0 : (0 : Int) ≤ c := by omega
  have ha1 : (a : Int) ≤ 17 := by omega
  have hb1 : (b : Int) ≤ 17 := by omega
  have hc1 : (c : Int) ≤ 17 := by omega
  have q0 : ¬ (nms.length : Int) < a := by omega
  have q1 : ¬ (b : Int) < nms.length := by omega
  have q2 : ((l.length : Int) != (c : Int)) = false := by rw [hs2]; simp
  clear habc hsb hall h hs hg hk hu1 hnm ev hin hs2
  go_enter Tryz.func44, Tryz.ntmps44
  go_wp2_with fail
  refine (HH.out (w.alloc (.cells #[.int .i64 8, .slice a1 nms.length c1, .int .i64 0, .int .i64 nn, .int .i64 mm, .slice a2 l.length c2] 25))).mono ?_
  rintro e w3 ⟨rfl, hu3⟩
  have HU3 := Lib.hid (HU1.out.trans_ext hu3)
  have hb3 := hu3.at HB1.out (by simp)
  have HB3 := Lib.hid hb3
  obtain ⟨y0, y1, y2, y3, y4, y5⟩ := cells6 hb3
  clear hu3 hb3
  go_wp2_with fail
  go_loopw [6] (fun i wr => ∃ j : Nat, j ≤ nms.length ∧ i = .int .i64 j ∧ Hid (Upto [] w3 wr)) (fun i _ => nms.length - (intOf i).toNat)
  case atStart => exact ⟨0, by omega, rfl, Lib.hid (Upto.refl _ _)⟩
  case round =>
    clear y0 y1 y2 y3 y4 y5
    obtain ⟨j, hj, rfl, HU⟩ := hrel
    have hj0 : (0 : Int) ≤ j := by omega
    have hb := HU.out.at HB3.out (by simp)
    have HB := Lib.hid hb
    obtain ⟨y0, y1, y2, y3, y4, y5⟩ := cells6 hb
    have HW := Lib.hid (HU3.out.trans_ext HU.out)
    rcases Nat.lt_or_ge j nms.length with hlt | hge
    · have hltI : (j : Int) < nms.length := by omega
      obtain ⟨x, hx⟩ : ∃ x, nms[j]? = some x := ⟨_, List.getElem?_eq_getElem hlt⟩
      have hxl := HIN.out.2.1 x (List.mem_of_getElem? hx)
      obtain ⟨g, o, rfl, c0⟩ := HN.out j x hx
      replace c0 := up_cell HW.out c0
      have HC := Lib.hid (isName_calls x wr (by omega))
      have hb2 : nameF x = true := List.all_eq_true.1 HAL.out x (List.mem_of_getElem? hx)
      rw [hb2] at HC
      clear hx hb hb2
      go_wp2_with fail
      refine HC.out.mono ?_
      rintro e w5 ⟨rfl, hu5⟩
      have HU5 := Lib.hid (HU.out.trans_ext hu5)
      clear hu5
      go_wp2_with fail
      go_roundw
      case rel => first | exact ⟨j + 1, by omega, by go_num, HU5⟩ | exact ⟨_, _, _, _, _, _, _, _, _, _, _, _, _, _, _, _, ⟨j + 1, by omega, by go_num, HU5⟩, rfl⟩
      case measure => simp [intOf]; omega
    · have hgeI : ¬ (j : Int) < nms.length := by omega
      clear hb q0 q1 q2 hs0 hs1 ha0 hb0 hc0 ha1 hb1 hc1 HH HAL HN
      go_wp2_with fail
      go_ret
      exact ⟨rfl, HW.out⟩
end Go.Proofs.YtbnebkkpmcjmbaaGreatDoor


namespace Go.Proofs.YtbnebkkpmcjmbaaGreatDoor
open Go.RowKit Go.PL Go.Maps
set_option maxRecDepth 100000 in
set_option maxHeartbeats 12800000 in
theorem form_8e (k : Nat) (nn mm : Int) (nms : List (List UInt8)) (l : List Nd) (hk : sizesF l ≤ k) (hin : inN 10000000 (.mk 8 nms 0 nn mm l)) (_hk7 : k + 1 ≤ 10000000) (v : Value) (w : World) (P : Nat → Prop) (h : NdV w P (.mk 8 nms 0 nn mm l) v) (hk0 : ¬ (8 : Int) < 0) (hk1 : ¬ (17 : Int) < 8) (hsb : shapeBad 8 nms.length l.length = false) (hall : nms.all nameF = true) (h1 : ¬ mm < 1) (h2 : ¬ 64 < mm) (h3 : ¬ nn < 0) (hz : mm ≤ nn) : Calls Tryz.prog 44 #[v] w fun e w' => e = .returned (.int .i64 ((2 : Nat) : Int)) ∧ Upto [] w w' := by
  obtain ⟨a1, c1, a2, c2, rfl, hs, hg⟩ := h.open
  unfold inN at hin
  have HG := Lib.hid hg
  obtain ⟨a1', c1', ev, hnm⟩ := hs.get
  obtain ⟨rfl, rfl⟩ : a1 = a1' ∧ c1 = c1' := by simpa using ev
  have HN : Hid (∀ i x, nms[i]? = some x → ∃ g o, a1 = some ⟨g, o, none⟩ ∧ w.cell? ⟨g, o + i, none⟩ = some (.string ⟨x.toArray⟩)) := Lib.hid (fun i x hi => hnm i _ (by rw [List.getElem?_map, hi]; rfl))
  have HSZ := Lib.hid hk
  have HIN := Lib.hid hin
  have HAL := Lib.hid hall
  have hu1 : Upto [] w (w.alloc (.cells #[.int .i64 8, .slice a1 nms.length c1, .int .i64 0, .int .i64 nn, .int .i64 mm, .slice a2 l.length c2] 25)) := (Upto.refl [] w).alloc _
  have HB1 := Lib.hid (new_at w (.cells #[.int .i64 8, .slice a1 nms.length c1, .int .i64 0, .int .i64 nn, .int .i64 mm, .slice a2 l.length c2] 25))
  have HU1 := Lib.hid hu1
  have hll := hin.2.2.1
  have hnl := hin.1
  have hL0 : (0 : Int) ≤ l.length := by omega
  have hL1 : (l.length : Int) ≤ 10000000 := by omega
  have hN0 : (0 : Int) ≤ nms.length := by omega
  have hN1 : (nms.length : Int) ≤ 10000000 := by omega
  have HH := Lib.hid (has_calls 8)
  obtain ⟨a, b, c, habc, ha17, hb17, hc17⟩ : ∃ a b c : Nat, hasF 8 = (a, b, c) ∧ a ≤ 17 ∧ b ≤ 17 ∧ c ≤ 17 := by
    unfold hasF
    repeat' split
    all_goals exact ⟨_, _, _, rfl, by decide, by decide, by decide⟩
  rw [habc] at HH
  simp only at HH
  obtain ⟨hs0, hs1, hs2⟩ : ¬ nms.length < a ∧ ¬ b < nms.length ∧ l.length = c := by
    unfold shapeBad at hsb
    rw [habc] at hsb
    simp at hsb
    omega
  have ha0 : (0 : Int) ≤ a := by omega
  have hb0 : (0 : Int) ≤ b := by omega
  have hc0 : (0 : Int) ≤ c := by omega
  have ha1 : (a : Int) ≤ 17 := by omega
  have hb1 : (b : Int) ≤ 17 := by omega
  have hc1 : (c : Int) ≤ 17 := by omega
  have q0 : ¬ (nms.length : Int) < a := by omega
  have q1 : ¬ (b : Int) < nms.length := by omega
  have q2 : ((l.length : Int) != (c : Int)) = false := by rw [hs2]; simp
  clear habc hsb hall h hs hg hk hu1 hnm ev hin hs2
  go_enter Tryz.func44, Tryz.ntmps44
  go_wp2_with fail
  refine (HH.out (w.alloc (.cells #[.int .i64 8, .slice a1 nms.length c1, .int .i64 0, .int .i64 nn, .int .i64 mm, .slice a2 l.length c2] 25))).mono ?_
  rintro e w3 ⟨rfl, hu3⟩
  have HU3 := Lib.hid (HU1.out.trans_ext hu3)
  have hb3 := hu3.at HB1.out (by simp)
  have HB3 := Lib.hid hb3
  obtain ⟨y0, y1, y2, y3, y4, y5⟩ := cells6 hb3
  clear hu3 hb3
  go_wp2_with fail
  go_loopw [6] (fun i wr => ∃ j : Nat, j ≤ nms.length ∧ i = .int .i64 j ∧ Hid (Upto [] w3 wr)) (fun i _ => nms.length - (intOf i).toNat)
  case atStart => exact ⟨0, by omega, rfl, Lib.hid (Upto.refl _ _)⟩
  case round =>
    clear y0 y1 y2 y3 y4 y5
    obtain ⟨j, hj, rfl, HU⟩ := hrel
    have hj0 : (0 : Int) ≤ j := by omega
    have hb := HU.out.at HB3.out (by simp)
    have HB := Lib.hid hb
    obtain ⟨y0, y1, y2, y3, y4, y5⟩ := cells6 hb
    have HW := Lib.hid (HU3.out.trans_ext HU.out)
    rcases Nat.lt_or_ge j nms.length with hlt | hge
    · have hltI : (j : Int) < nms.length := by omega
      obtain ⟨x, hx⟩ : ∃ x, nms[j]? = some x := ⟨_, List.getElem?_eq_getElem hlt⟩
      have hxl := HIN.out.2.1 x (List.mem_of_getElem? hx)
      obtain ⟨g, o, rfl, c0⟩ := HN.out j x hx
      replace c0 := up_cell HW.out c0
      have HC := Lib.hid (isName_calls x wr (by omega))
      have hb2 : nameF x = true := List.all_eq_true.1 HAL.out x (List.mem_of_getElem? hx)
      rw [hb2] at HC
      clear hx hb hb2
      go_wp2_with fail
      refine HC.out.mono ?_
      rintro e w5 ⟨rfl, hu5⟩
      have HU5 := Lib.hid (HU.out.trans_ext hu5)
      clear hu5
      go_wp2_with fail
      go_roundw
      case rel => first | exact ⟨j + 1, by omega, by go_num, HU5⟩ | exact ⟨_, _, _, _, _, _, _, _, _, _, _, _, _, _, _, _, ⟨j + 1, by omega, by go_num, HU5⟩, rfl⟩
      case measure => simp [intOf]; omega
    · have hgeI : ¬ (j : Int) < nms.length := by omega
      clear hb q0 q1 q2 hs0 hs1 ha0 hb0 hc0 ha1 hb1 hc1 HH HAL HN
      go_wp2_with fail
      go_ret
      exact ⟨rfl, HW.out⟩
end Go.Proofs.YtbnebkkpmcjmbaaGreatDoor


namespace Go.Proofs.YtbnebkkpmcjmbaaGreatDoor
open Go.RowKit Go.PL Go.Maps
set_option maxRecDepth 100000 in
set_option maxHeartbeats 12800000 in
theorem form_8g (k : Nat) (nn mm : Int) (nms : List (List UInt8)) (l : List Nd) (hk : sizesF l ≤ k) (hin : inN 10000000 (.mk 8 nms 0 nn mm l)) (_hk7 : k + 1 ≤ 10000000) (v : Value) (w : World) (P : Nat → Prop) (h : NdV w P (.mk 8 nms 0 nn mm l) v) (hk0 : ¬ (8 : Int) < 0) (hk1 : ¬ (17 : Int) < 8) (hsb : shapeBad 8 nms.length l.length = false) (hall : nms.all nameF = true) (h1 : ¬ mm < 1) (h2 : ¬ 64 < mm) (h3 : ¬ nn < 0) (h4 : ¬ mm ≤ nn) (IH : ∀ (nd : Nd), sizeF nd ≤ k → inN 10000000 nd → ∀ (v : Value) (w : World) (P : Nat → Prop), NdV w P nd v → Calls Tryz.prog 44 #[v] w fun e w' => e = .returned (.int .i64 (formF nameF nd : Nat)) ∧ Upto [] w w') : Calls Tryz.prog 44 #[v] w fun e w' => e = .returned (.int .i64 ((formsF nameF l : Nat) : Int)) ∧ Upto [] w w' := by
  obtain ⟨a1, c1, a2, c2, rfl, hs, hg⟩ := h.open
  unfold inN at hin
  have HG := Lib.hid hg
  obtain ⟨a1', c1', ev, hnm⟩ := hs.get
  obtain ⟨rfl, rfl⟩ : a1 = a1' ∧ c1 = c1' := by simpa using ev
  have HN : Hid (∀ i x, nms[i]? = some x → ∃ g o, a1 = some ⟨g, o, none⟩ ∧ w.cell? ⟨g, o + i, none⟩ = some (.string ⟨x.toArray⟩)) := Lib.hid (fun i x hi => hnm i _ (by rw [List.getElem?_map, hi]; rfl))
  have HSZ := Lib.hid hk
  have HIN := Lib.hid hin
  have HAL := Lib.hid hall
  have hu1 : Upto [] w (w.alloc (.cells #[.int .i64 8, .slice a1 nms.length c1, .int .i64 0, .int .i64 nn, .int .i64 mm, .slice a2 l.length c2] 25)) := (Upto.refl [] w).alloc _
  have HB1 := Lib.hid (new_at w (.cells #[.int .i64 8, .slice a1 nms.length c1, .int .i64 0, .int .i64 nn, .int .i64 mm, .slice a2 l.length c2] 25))
  have HU1 := Lib.hid hu1
  have hll := hin.2.2.1
  have hnl := hin.1
  have hL0 : (0 : Int) ≤ l.length := by omega
  have hL1 : (l.length : Int) ≤ 10000000 := by omega
  have hN0 : (0 : Int) ≤ nms.length := by omega
  have hN1 : (nms.length : Int) ≤ 10000000 := by omega
  have HH := Lib.hid (has_calls 8)
  obtain ⟨a, b, c, habc, ha17, hb17, hc17⟩ : ∃ a b c : Nat, hasF 8 = (a, b, c) ∧ a ≤ 17 ∧ b ≤ 17 ∧ c ≤ 17 := by
    unfold hasF
    repeat' split
    all_goals exact ⟨_, _, _, rfl, by decide, by decide, by decide⟩
  rw [habc] at HH
  simp only at HH
  obtain ⟨hs0, hs1, hs2⟩ : ¬ nms.length < a ∧ ¬ b < nms.length ∧ l.length = c := by
    unfold shapeBad at hsb
    rw [habc] at hsb
    simp at hsb
    omega
  have ha0 : (0 : Int) ≤ a := by omega
  have hb0 : (0 : Int) ≤ b := by omega
  have hc0 : (0 : Int) ≤ c := by omega
  have ha1 : (a : Int) ≤ 17 := by omega
  have hb1 : (b : Int) ≤ 17 := by omega
  have hc1 : (c : Int) ≤ 17 := by omega
  have q0 : ¬ (nms.length : Int) < a := by omega
  have q1 : ¬ (b : Int) < nms.length := by omega
  have q2 : ((l.length : Int) != (c : Int)) = false := by rw [hs2]; simp
  clear habc hsb hall h hs hg hk hu1 hnm ev hin hs2
  go_enter Tryz.func44, Tryz.ntmps44
  go_wp2_with fail
  refine (HH.out (w.alloc (.cells #[.int .i64 8, .slice a1 nms.length c1, .int .i64 0, .int .i64 nn, .int .i64 mm, .slice a2 l.length c2] 25))).mono ?_
  rintro e w3 ⟨rfl, hu3⟩
  have HU3 := Lib.hid (HU1.out.trans_ext hu3)
  have hb3 := hu3.at HB1.out (by simp)
  have HB3 := Lib.hid hb3
  obtain ⟨y0, y1, y2, y3, y4, y5⟩ := cells6 hb3
  clear hu3 hb3
  go_wp2_with fail
  go_loopw [6] (fun i wr => ∃ j : Nat, j ≤ nms.length ∧ i = .int .i64 j ∧ Hid (Upto [] w3 wr)) (fun i _ => nms.length - (intOf i).toNat)
  case atStart => exact ⟨0, by omega, rfl, Lib.hid (Upto.refl _ _)⟩
  case round =>
    clear y0 y1 y2 y3 y4 y5
    obtain ⟨j, hj, rfl, HU⟩ := hrel
    have hj0 : (0 : Int) ≤ j := by omega
    have hb := HU.out.at HB3.out (by simp)
    have HB := Lib.hid hb
    obtain ⟨y0, y1, y2, y3, y4, y5⟩ := cells6 hb
    have HW := Lib.hid (HU3.out.trans_ext HU.out)
    rcases Nat.lt_or_ge j nms.length with hlt | hge
    · have hltI : (j : Int) < nms.length := by omega
      obtain ⟨x, hx⟩ : ∃ x, nms[j]? = some x := ⟨_, List.getElem?_eq_getElem hlt⟩
      have hxl := HIN.out.2.1 x (List.mem_of_getElem? hx)
      obtain ⟨g, o, rfl, c0⟩ := HN.out j x hx
      replace c0 := up_cell HW.out c0
      have HC := Lib.hid (isName_calls x wr (by omega))
      have hb2 : nameF x = true := List.all_eq_true.1 HAL.out x (List.mem_of_getElem? hx)
      rw [hb2] at HC
      clear hx hb hb2
      go_wp2_with fail
      refine HC.out.mono ?_
      rintro e w5 ⟨rfl, hu5⟩
      have HU5 := Lib.hid (HU.out.trans_ext hu5)
      clear hu5
      go_wp2_with fail
      go_roundw
      case rel => first | exact ⟨j + 1, by omega, by go_num, HU5⟩ | exact ⟨_, _, _, _, _, _, _, _, _, _, _, _, _, _, _, _, ⟨j + 1, by omega, by go_num, HU5⟩, rfl⟩
      case measure => simp [intOf]; omega
    · have hgeI : ¬ (j : Int) < nms.length := by omega
      clear hb q0 q1 q2 hs0 hs1 ha0 hb0 hc0 ha1 hb1 hc1 HH HAL HN
      go_wp2_with fail
      go_loopw [7] (fun i wx => ∃ m : Nat, m ≤ l.length ∧ i = .int .i64 m ∧ Hid (formsF nameF (l.drop m) = formsF nameF l) ∧ Hid (Upto [] wr wx)) (fun i _ => l.length - (intOf i).toNat)
      case atStart => exact ⟨0, by omega, rfl, Lib.hid rfl, Lib.hid (Upto.refl _ _)⟩
      case round =>
        clear y0 y1 y2 y3 y4 y5
        obtain ⟨m, hm, rfl, HB9, HV⟩ := hrel
        have hm0 : (0 : Int) ≤ m := by omega
        have hb := HV.out.at HB.out (by simp)
        have y5 := cell_of hb 5
        simp only [List.getElem?_toArray, List.getElem?_cons_zero, List.getElem?_cons_succ] at y5
        have HW2 := Lib.hid (HW.out.trans_ext HV.out)
        rcases Nat.lt_or_ge m l.length with hlt | hge2
        · have hltI : (m : Int) < l.length := by omega
          obtain ⟨x, hx⟩ : ∃ x, l[m]? = some x := ⟨_, List.getElem?_eq_getElem hlt⟩
          have HDR : Hid (l.drop m = x :: l.drop (m + 1)) := Lib.hid (by
            obtain ⟨hi, h3⟩ := List.getElem?_eq_some_iff.1 hx
            rw [List.drop_eq_getElem_cons hi, h3])
          obtain ⟨g, o, xo, xn1, xn2, xn3, xs, xm, xq, xl1, xl2, xl3, rfl, d0, d1, d2, d3, d4, d5, hnx⟩ := HG.out m x hx
          replace d0 := up_cell HW2.out d0
          replace d1 := up_cell HW2.out d1
          replace d2 := up_cell HW2.out d2
          replace d3 := up_cell HW2.out d3
          replace d4 := up_cell HW2.out d4
          replace d5 := up_cell HW2.out d5
          have HC := Lib.hid (IH x (by have := HSZ.out; have := sizesF_mem (List.mem_of_getElem? hx); omega) (insN_mem HIN.out.2.2.2 (List.mem_of_getElem? hx)) _ wr P (hnx.ext HW2.out))
          by_cases hz : formF nameF x = 0
          · have HA2 : Hid (formsF nameF (l.drop (m + 1)) = formsF nameF l) := Lib.hid (by
              rw [← HB9.out, HDR.out]
              conv => rhs; unfold formsF
              rw [hz]
              rfl)
            rw [hz] at HC
            clear hx hb hz hnx
            go_wp2_with fail
            refine HC.out.mono ?_
            rintro e w5 ⟨rfl, hu5⟩
            have HU5 := Lib.hid (HV.out.trans_ext hu5)
            clear hu5
            go_wp2_with fail
            go_roundw
            case rel => first | exact ⟨m + 1, by omega, by go_num, HA2, HU5⟩ | exact ⟨_, _, _, _, _, _, _, _, _, _, _, _, _, _, _, _, _, _, _, ⟨m + 1, by omega, by go_num, HA2, HU5⟩, rfl⟩
            case measure => simp [intOf]; omega
          · have HF : Hid (formsF nameF l = formF nameF x) := Lib.hid (by
              rw [← HB9.out, HDR.out]
              unfold formsF
              rw [if_pos hz])
            generalize hfx : formF nameF x = fx at *
            have ez : ((fx : Int) == 0) = false := by rw [beq_eq_false_iff_ne]; omega
            have ez2 : ((fx : Int) != 0) = true := by rw [bne, ez]; rfl
            clear hx hb hz hnx hfx
            go_wp2_with fail
            refine HC.out.mono ?_
            rintro e w5 ⟨rfl, hu5⟩
            have HU5 := Lib.hid (HW2.out.trans_ext hu5)
            clear hu5
            go_wp2_with fail
            go_ret
            rw [HF.out]
            exact ⟨rfl, HU5.out⟩
        · have hgeJ : ¬ (m : Int) < l.length := by omega
          have HF : Hid (formsF nameF l = 0) := Lib.hid (by
            rw [← HB9.out, List.drop_of_length_le (by omega)]
            rfl)
          clear hb
          go_wp2_with fail
          go_ret
          rw [HF.out]
          exact ⟨rfl, HW2.out⟩
end Go.Proofs.YtbnebkkpmcjmbaaGreatDoor


namespace Go.Proofs.YtbnebkkpmcjmbaaGreatDoor
open Go.RowKit Go.PL Go.Maps
set_option maxRecDepth 100000 in
set_option maxHeartbeats 12800000 in
theorem form_oa (k : Nat) (op so nn mm : Int) (nms : List (List UInt8)) (l : List Nd) (hk : sizesF l ≤ k) (hin : inN 10000000 (.mk op nms so nn mm l)) (_hk7 : k + 1 ≤ 10000000) (v : Value) (w : World) (P : Nat → Prop) (h : NdV w P (.mk op nms so nn mm l) v) (hk0 : ¬ (op : Int) < 0) (hk1 : ¬ (17 : Int) < op) (hsb : shapeBad op nms.length l.length = false) (hall : nms.all nameF = true) (o7 : op ≠ 7) (o8 : op ≠ 8) (o16 : op < 16) (hz : nn ≠ 0) : Calls Tryz.prog 44 #[v] w fun e w' => e = .returned (.int .i64 ((3 : Nat) : Int)) ∧ Upto [] w w' := by
  obtain ⟨a1, c1, a2, c2, rfl, hs, hg⟩ := h.open
  unfold inN at hin
  have HG := Lib.hid hg
  obtain ⟨a1', c1', ev, hnm⟩ := hs.get
  obtain ⟨rfl, rfl⟩ : a1 = a1' ∧ c1 = c1' := by simpa using ev
  have HN : Hid (∀ i x, nms[i]? = some x → ∃ g o, a1 = some ⟨g, o, none⟩ ∧ w.cell? ⟨g, o + i, none⟩ = some (.string ⟨x.toArray⟩)) := Lib.hid (fun i x hi => hnm i _ (by rw [List.getElem?_map, hi]; rfl))
  have HSZ := Lib.hid hk
  have HIN := Lib.hid hin
  have HAL := Lib.hid hall
  have hu1 : Upto [] w (w.alloc (.cells #[.int .i64 op, .slice a1 nms.length c1, .int .i64 so, .int .i64 nn, .int .i64 mm, .slice a2 l.length c2] 25)) := (Upto.refl [] w).alloc _
  have HB1 := Lib.hid (new_at w (.cells #[.int .i64 op, .slice a1 nms.length c1, .int .i64 so, .int .i64 nn, .int .i64 mm, .slice a2 l.length c2] 25))
  have HU1 := Lib.hid hu1
  have hll := hin.2.2.1
  have hnl := hin.1
  have hL0 : (0 : Int) ≤ l.length := by omega
  have hL1 : (l.length : Int) ≤ 10000000 := by omega
  have hN0 : (0 : Int) ≤ nms.length := by omega
  have hN1 : (nms.length : Int) ≤ 10000000 := by omega
  have HH := Lib.hid (has_calls op)
  obtain ⟨a, b, c, habc, ha17, hb17, hc17⟩ : ∃ a b c : Nat, hasF op = (a, b, c) ∧ a ≤ 17 ∧ b ≤ 17 ∧ c ≤ 17 := by
    unfold hasF
    repeat' split
    all_goals exact ⟨_, _, _, rfl, by decide, by decide, by decide⟩
  rw [habc] at HH
  simp only at HH
  obtain ⟨hs0, hs1, hs2⟩ : ¬ nms.length < a ∧ ¬ b < nms.length ∧ l.length = c := by
    unfold shapeBad at hsb
    rw [habc] at hsb
    simp at hsb
    omega
  have ha0 : (0 : Int) ≤ a := by omega
  have hb0 : (0 : Int) ≤ b := by omega
  have hc0 : (0 : Int) ≤ c := by omega
  have ha1 : (a : Int) ≤ 17 := by omega
  have hb1 : (b : Int) ≤ 17 := by omega
  have hc1 : (c : Int) ≤ 17 := by omega
  have q0 : ¬ (nms.length : Int) < a := by omega
  have q1 : ¬ (b : Int) < nms.length := by omega
  have q2 : ((l.length : Int) != (c : Int)) = false := by rw [hs2]; simp
  clear habc hsb hall h hs hg hk hu1 hnm ev hin hs2
  go_enter Tryz.func44, Tryz.ntmps44
  go_wp2_with fail
  refine (HH.out (w.alloc (.cells #[.int .i64 op, .slice a1 nms.length c1, .int .i64 so, .int .i64 nn, .int .i64 mm, .slice a2 l.length c2] 25))).mono ?_
  rintro e w3 ⟨rfl, hu3⟩
  have HU3 := Lib.hid (HU1.out.trans_ext hu3)
  have hb3 := hu3.at HB1.out (by simp)
  have HB3 := Lib.hid hb3
  obtain ⟨y0, y1, y2, y3, y4, y5⟩ := cells6 hb3
  clear hu3 hb3
  go_wp2_with fail
  go_loopw [6] (fun i wr => ∃ j : Nat, j ≤ nms.length ∧ i = .int .i64 j ∧ Hid (Upto [] w3 wr)) (fun i _ => nms.length - (intOf i).toNat)
  case atStart => exact ⟨0, by omega, rfl, Lib.hid (Upto.refl _ _)⟩
  case round =>
    clear y0 y1 y2 y3 y4 y5
    obtain ⟨j, hj, rfl, HU⟩ := hrel
    have hj0 : (0 : Int) ≤ j := by omega
    have hb := HU.out.at HB3.out (by simp)
    have HB := Lib.hid hb
    obtain ⟨y0, y1, y2, y3, y4, y5⟩ := cells6 hb
    have HW := Lib.hid (HU3.out.trans_ext HU.out)
    rcases Nat.lt_or_ge j nms.length with hlt | hge
    · have hltI : (j : Int) < nms.length := by omega
      obtain ⟨x, hx⟩ : ∃ x, nms[j]? = some x := ⟨_, List.getElem?_eq_getElem hlt⟩
      have hxl := HIN.out.2.1 x (List.mem_of_getElem? hx)
      obtain ⟨g, o, rfl, c0⟩ := HN.out j x hx
      replace c0 := up_cell HW.out c0
      have HC := Lib.hid (isName_calls x wr (by omega))
      have hb2 : nameF x = true := List.all_eq_true.1 HAL.out x (List.mem_of_getElem? hx)
      rw [hb2] at HC
      clear hx hb hb2
      go_wp2_with fail
      refine HC.out.mono ?_
      rintro e w5 ⟨rfl, hu5⟩
      have HU5 := Lib.hid (HU.out.trans_ext hu5)
      clear hu5
      go_wp2_with fail
      go_roundw
      case rel => first | exact ⟨j + 1, by omega, by go_num, HU5⟩ | exact ⟨_, _, _, _, _, _, _, _, _, _, _, _, _, _, _, _, ⟨j + 1, by omega, by go_num, HU5⟩, rfl⟩
      case measure => simp [intOf]; omega
    · have hgeI : ¬ (j : Int) < nms.length := by omega
      clear hb q0 q1 q2 hs0 hs1 ha0 hb0 hc0 ha1 hb1 hc1 HH HAL HN
      have eop7 : (op == (7 : Int)) = false := by rw [beq_eq_false_iff_ne]; omega
      have fop7 : (op != (7 : Int)) = true := by rw [bne, eop7]; rfl
      have eop8 : (op == (8 : Int)) = false := by rw [beq_eq_false_iff_ne]; omega
      have fop8 : (op != (8 : Int)) = true := by rw [bne, eop8]; rfl
      have enn0 : (nn == (0 : Int)) = false := by rw [beq_eq_false_iff_ne]; exact hz
      have fnn0 : (nn != (0 : Int)) = true := by rw [bne, enn0]; rfl
      go_wp2_with fail
      go_ret
      exact ⟨rfl, HW.out⟩
end Go.Proofs.YtbnebkkpmcjmbaaGreatDoor


namespace Go.Proofs.YtbnebkkpmcjmbaaGreatDoor
open Go.RowKit Go.PL Go.Maps
set_option maxRecDepth 100000 in
set_option maxHeartbeats 12800000 in
theorem form_ob (k : Nat) (op so mm : Int) (nms : List (List UInt8)) (l : List Nd) (hk : sizesF l ≤ k) (hin : inN 10000000 (.mk op nms so 0 mm l)) (_hk7 : k + 1 ≤ 10000000) (v : Value) (w : World) (P : Nat → Prop) (h : NdV w P (.mk op nms so 0 mm l) v) (hk0 : ¬ (op : Int) < 0) (hk1 : ¬ (17 : Int) < op) (hsb : shapeBad op nms.length l.length = false) (hall : nms.all nameF = true) (o7 : op ≠ 7) (o8 : op ≠ 8) (o16 : op < 16) (hz : mm ≠ 0) : Calls Tryz.prog 44 #[v] w fun e w' => e = .returned (.int .i64 ((3 : Nat) : Int)) ∧ Upto [] w w' := by
  obtain ⟨a1, c1, a2, c2, rfl, hs, hg⟩ := h.open
  unfold inN at hin
  have HG := Lib.hid hg
  obtain ⟨a1', c1', ev, hnm⟩ := hs.get
  obtain ⟨rfl, rfl⟩ : a1 = a1' ∧ c1 = c1' := by simpa using ev
  have HN : Hid (∀ i x, nms[i]? = some x → ∃ g o, a1 = some ⟨g, o, none⟩ ∧ w.cell? ⟨g, o + i, none⟩ = some (.string ⟨x.toArray⟩)) := Lib.hid (fun i x hi => hnm i _ (by rw [List.getElem?_map, hi]; rfl))
  have HSZ := Lib.hid hk
  have HIN := Lib.hid hin
  have HAL := Lib.hid hall
  have hu1 : Upto [] w (w.alloc (.cells #[.int .i64 op, .slice a1 nms.length c1, .int .i64 so, .int .i64 0, .int .i64 mm, .slice a2 l.length c2] 25)) := (Upto.refl [] w).alloc _
  have HB1 := Lib.hid (new_at w (.cells #[.int .i64 op, .slice a1 nms.length c1, .int .i64 so, .int .i64 0, .int .i64 mm, .slice a2 l.length c2] 25))
  have HU1 := Lib.hid hu1
  have hll := hin.2.2.1
  have hnl := hin.1
  have hL0 : (0 : Int) ≤ l.length := by omega
  have hL1 : (l.length : Int) ≤ 10000000 := by omega
  have hN0 : (0 : Int) ≤ nms.length := by omega
  have hN1 : (nms.length : Int) ≤ 10000000 := by omega
  have HH := Lib.hid (has_calls op)
  obtain ⟨a, b, c, habc, ha17, hb17, hc17⟩ : ∃ a b c : Nat, hasF op = (a, b, c) ∧ a ≤ 17 ∧ b ≤ 17 ∧ c ≤ 17 := by
    unfold hasF
    repeat' split
    all_goals exact ⟨_, _, _, rfl, by decide, by decide, by decide⟩
  rw [habc] at HH
  simp only at HH
  obtain ⟨hs0, hs1, hs2⟩ : ¬ nms.length < a ∧ ¬ b < nms.length ∧ l.length = c := by
    unfold shapeBad at hsb
    rw [habc] at hsb
    simp at hsb
    omega
  have ha0 : (0 : Int) ≤ a := by omega
  have hb0 : (0 : Int) ≤ b := by omega
  have hc0 : (0 : Int) ≤ c := by omega
  have ha1 : (a : Int) ≤ 17 := by omega
  have hb1 : (b : Int) ≤ 17 := by omega
  have hc1 : (c : Int) ≤ 17 := by omega
  have q0 : ¬ (nms.length : Int) < a := by omega
  have q1 : ¬ (b : Int) < nms.length := by omega
  have q2 : ((l.length : Int) != (c : Int)) = false := by rw [hs2]; simp
  clear habc hsb hall h hs hg hk hu1 hnm ev hin hs2
  go_enter Tryz.func44, Tryz.ntmps44
  go_wp2_with fail
  refine (HH.out (w.alloc (.cells #[.int .i64 op, .slice a1 nms.length c1, .int .i64 so, .int .i64 0, .int .i64 mm, .slice a2 l.length c2] 25))).mono ?_
  rintro e w3 ⟨rfl, hu3⟩
  have HU3 := Lib.hid (HU1.out.trans_ext hu3)
  have hb3 := hu3.at HB1.out (by simp)
  have HB3 := Lib.hid hb3
  obtain ⟨y0, y1, y2, y3, y4, y5⟩ := cells6 hb3
  clear hu3 hb3
  go_wp2_with fail
  go_loopw [6] (fun i wr => ∃ j : Nat, j ≤ nms.length ∧ i = .int .i64 j ∧ Hid (Upto [] w3 wr)) (fun i _ => nms.length - (intOf i).toNat)
  case atStart => exact ⟨0, by omega, rfl, Lib.hid (Upto.refl _ _)⟩
  case round =>
    clear y0 y1 y2 y3 y4 y5
    obtain ⟨j, hj, rfl, HU⟩ := hrel
    have hj0 : (0 : Int) ≤ j := by omega
    have hb := HU.out.at HB3.out (by simp)
    have HB := Lib.hid hb
    obtain ⟨y0, y1, y2, y3, y4, y5⟩ := cells6 hb
    have HW := Lib.hid (HU3.out.trans_ext HU.out)
    rcases Nat.lt_or_ge j nms.length with hlt | hge
    · have hltI : (j : Int) < nms.length := by omega
      obtain ⟨x, hx⟩ : ∃ x, nms[j]? = some x := ⟨_, List.getElem?_eq_getElem hlt⟩
      have hxl := HIN.out.2.1 x (List.mem_of_getElem? hx)
      obtain ⟨g, o, rfl, c0⟩ := HN.out j x hx
      replace c0 := up_cell HW.out c0
      have HC := Lib.hid (isName_calls x wr (by omega))
      have hb2 : nameF x = true := List.all_eq_true.1 HAL.out x (List.mem_of_getElem? hx)
      rw [hb2] at HC
      clear hx hb hb2
      go_wp2_with fail
      refine HC.out.mono ?_
      rintro e w5 ⟨rfl, hu5⟩
      have HU5 := Lib.hid (HU.out.trans_ext hu5)
      clear hu5
      go_wp2_with fail
      go_roundw
      case rel => first | exact ⟨j + 1, by omega, by go_num, HU5⟩ | exact ⟨_, _, _, _, _, _, _, _, _, _, _, _, _, _, _, _, ⟨j + 1, by omega, by go_num, HU5⟩, rfl⟩
      case measure => simp [intOf]; omega
    · have hgeI : ¬ (j : Int) < nms.length := by omega
      clear hb q0 q1 q2 hs0 hs1 ha0 hb0 hc0 ha1 hb1 hc1 HH HAL HN
      have eop7 : (op == (7 : Int)) = false := by rw [beq_eq_false_iff_ne]; omega
      have fop7 : (op != (7 : Int)) = true := by rw [bne, eop7]; rfl
      have eop8 : (op == (8 : Int)) = false := by rw [beq_eq_false_iff_ne]; omega
      have fop8 : (op != (8 : Int)) = true := by rw [bne, eop8]; rfl
      have emm0 : (mm == (0 : Int)) = false := by rw [beq_eq_false_iff_ne]; exact hz
      have fmm0 : (mm != (0 : Int)) = true := by rw [bne, emm0]; rfl
      go_wp2_with fail
      go_ret
      exact ⟨rfl, HW.out⟩
end Go.Proofs.YtbnebkkpmcjmbaaGreatDoor


namespace Go.Proofs.YtbnebkkpmcjmbaaGreatDoor
open Go.RowKit Go.PL Go.Maps
set_option maxRecDepth 100000 in
set_option maxHeartbeats 12800000 in
theorem form_ha (k : Nat) (op so nn mm : Int) (nms : List (List UInt8)) (l : List Nd) (hk : sizesF l ≤ k) (hin : inN 10000000 (.mk op nms so nn mm l)) (_hk7 : k + 1 ≤ 10000000) (v : Value) (w : World) (P : Nat → Prop) (h : NdV w P (.mk op nms so nn mm l) v) (hk0 : ¬ (op : Int) < 0) (hk1 : ¬ (17 : Int) < op) (hsb : shapeBad op nms.length l.length = false) (hall : nms.all nameF = true) (o7 : op ≠ 7) (o8 : op ≠ 8) (o16 : ¬ op < 16) (hz : nn ≠ 0) : Calls Tryz.prog 44 #[v] w fun e w' => e = .returned (.int .i64 ((3 : Nat) : Int)) ∧ Upto [] w w' := by
  obtain ⟨a1, c1, a2, c2, rfl, hs, hg⟩ := h.open
  unfold inN at hin
  have HG := Lib.hid hg
  obtain ⟨a1', c1', ev, hnm⟩ := hs.get
  obtain ⟨rfl, rfl⟩ : a1 = a1' ∧ c1 = c1' := by simpa using ev
  have HN : Hid (∀ i x, nms[i]? = some x → ∃ g o, a1 = some ⟨g, o, none⟩ ∧ w.cell? ⟨g, o + i, none⟩ = some (.string ⟨x.toArray⟩)) := Lib.hid (fun i x hi => hnm i _ (by rw [List.getElem?_map, hi]; rfl))
  have HSZ := Lib.hid hk
  have HIN := Lib.hid hin
  have HAL := Lib.hid hall
  have hu1 : Upto [] w (w.alloc (.cells #[.int .i64 op, .slice a1 nms.length c1, .int .i64 so, .int .i64 nn, .int .i64 mm, .slice a2 l.length c2] 25)) := (Upto.refl [] w).alloc _
  have HB1 := Lib.hid (new_at w (.cells #[.int .i64 op, .slice a1 nms.length c1, .int .i64 so, .int .i64 nn, .int .i64 mm, .slice a2 l.length c2] 25))
  have HU1 := Lib.hid hu1
  have hll := hin.2.2.1
  have hnl := hin.1
  have hL0 : (0 : Int) ≤ l.length := by omega
  have hL1 : (l.length : Int) ≤ 10000000 := by omega
  have hN0 : (0 : Int) ≤ nms.length := by omega
  have hN1 : (nms.length : Int) ≤ 10000000 := by omega
  have HH := Lib.hid (has_calls op)
  obtain ⟨a, b, c, habc, ha17, hb17, hc17⟩ : ∃ a b c : Nat, hasF op = (a, b, c) ∧ a ≤ 17 ∧ b ≤ 17 ∧ c ≤ 17 := by
    unfold hasF
    repeat' split
    all_goals exact ⟨_, _, _, rfl, by decide, by decide, by decide⟩
  rw [habc] at HH
  simp only at HH
  obtain ⟨hs0, hs1, hs2⟩ : ¬ nms.length < a ∧ ¬ b < nms.length ∧ l.length = c := by
    unfold shapeBad at hsb
    rw [habc] at hsb
    simp at hsb
    omega
  have ha0 : (0 : Int) ≤ a := by omega
  have hb0 : (0 : Int) ≤ b := by omega
  have hc0 : (0 : Int) ≤ c := by omega
  have ha1 : (a : Int) ≤ 17 := by omega
  have hb1 : (b : Int) ≤ 17 := by omega
  have hc1 : (c : Int) ≤ 17 := by omega
  have q0 : ¬ (nms.length : Int) < a := by omega
  have q1 : ¬ (b : Int) < nms.length := by omega
  have q2 : ((l.length : Int) != (c : Int)) = false := by rw [hs2]; simp
  clear habc hsb hall h hs hg hk hu1 hnm ev hin hs2
  go_enter Tryz.func44, Tryz.ntmps44
  go_wp2_with fail
  refine (HH.out (w.alloc (.cells #[.int .i64 op, .slice a1 nms.length c1, .int .i64 so, .int .i64 nn, .int .i64 mm, .slice a2 l.length c2] 25))).mono ?_
  rintro e w3 ⟨rfl, hu3⟩
  have HU3 := Lib.hid (HU1.out.trans_ext hu3)
  have hb3 := hu3.at HB1.out (by simp)
  have HB3 := Lib.hid hb3
  obtain ⟨y0, y1, y2, y3, y4, y5⟩ := cells6 hb3
  clear hu3 hb3
  go_wp2_with fail
  go_loopw [6] (fun i wr => ∃ j : Nat, j ≤ nms.length ∧ i = .int .i64 j ∧ Hid (Upto [] w3 wr)) (fun i _ => nms.length - (intOf i).toNat)
  case atStart => exact ⟨0, by omega, rfl, Lib.hid (Upto.refl _ _)⟩
  case round =>
    clear y0 y1 y2 y3 y4 y5
    obtain ⟨j, hj, rfl, HU⟩ := hrel
    have hj0 : (0 : Int) ≤ j := by omega
    have hb := HU.out.at HB3.out (by simp)
    have HB := Lib.hid hb
    obtain ⟨y0, y1, y2, y3, y4, y5⟩ := cells6 hb
    have HW := Lib.hid (HU3.out.trans_ext HU.out)
    rcases Nat.lt_or_ge j nms.length with hlt | hge
    · have hltI : (j : Int) < nms.length := by omega
      obtain ⟨x, hx⟩ : ∃ x, nms[j]? = some x := ⟨_, List.getElem?_eq_getElem hlt⟩
      have hxl := HIN.out.2.1 x (List.mem_of_getElem? hx)
      obtain ⟨g, o, rfl, c0⟩ := HN.out j x hx
      replace c0 := up_cell HW.out c0
      have HC := Lib.hid (isName_calls x wr (by omega))
      have hb2 : nameF x = true := List.all_eq_true.1 HAL.out x (List.mem_of_getElem? hx)
      rw [hb2] at HC
      clear hx hb hb2
      go_wp2_with fail
      refine HC.out.mono ?_
      rintro e w5 ⟨rfl, hu5⟩
      have HU5 := Lib.hid (HU.out.trans_ext hu5)
      clear hu5
      go_wp2_with fail
      go_roundw
      case rel => first | exact ⟨j + 1, by omega, by go_num, HU5⟩ | exact ⟨_, _, _, _, _, _, _, _, _, _, _, _, _, _, _, _, ⟨j + 1, by omega, by go_num, HU5⟩, rfl⟩
      case measure => simp [intOf]; omega
    · have hgeI : ¬ (j : Int) < nms.length := by omega
      clear hb q0 q1 q2 hs0 hs1 ha0 hb0 hc0 ha1 hb1 hc1 HH HAL HN
      have eop7 : (op == (7 : Int)) = false := by rw [beq_eq_false_iff_ne]; omega
      have fop7 : (op != (7 : Int)) = true := by rw [bne, eop7]; rfl
      have eop8 : (op == (8 : Int)) = false := by rw [beq_eq_false_iff_ne]; omega
      have fop8 : (op != (8 : Int)) = true := by rw [bne, eop8]; rfl
      have enn0 : (nn == (0 : Int)) = false := by rw [beq_eq_false_iff_ne]; exact hz
      have fnn0 : (nn != (0 : Int)) = true := by rw [bne, enn0]; rfl
      go_wp2_with fail
      go_ret
      exact ⟨rfl, HW.out⟩
end Go.Proofs.YtbnebkkpmcjmbaaGreatDoor


namespace Go.Proofs.YtbnebkkpmcjmbaaGreatDoor
open Go.RowKit Go.PL Go.Maps
set_option maxRecDepth 100000 in
set_option maxHeartbeats 12800000 in
theorem form_hb (k : Nat) (op so mm : Int) (nms : List (List UInt8)) (l : List Nd) (hk : sizesF l ≤ k) (hin : inN 10000000 (.mk op nms so 0 mm l)) (_hk7 : k + 1 ≤ 10000000) (v : Value) (w : World) (P : Nat → Prop) (h : NdV w P (.mk op nms so 0 mm l) v) (hk0 : ¬ (op : Int) < 0) (hk1 : ¬ (17 : Int) < op) (hsb : shapeBad op nms.length l.length = false) (hall : nms.all nameF = true) (o7 : op ≠ 7) (o8 : op ≠ 8) (o16 : ¬ op < 16) (hz : mm ≠ 0) : Calls Tryz.prog 44 #[v] w fun e w' => e = .returned (.int .i64 ((3 : Nat) : Int)) ∧ Upto [] w w' := by
  obtain ⟨a1, c1, a2, c2, rfl, hs, hg⟩ := h.open
  unfold inN at hin
  have HG := Lib.hid hg
  obtain ⟨a1', c1', ev, hnm⟩ := hs.get
  obtain ⟨rfl, rfl⟩ : a1 = a1' ∧ c1 = c1' := by simpa using ev
  have HN : Hid (∀ i x, nms[i]? = some x → ∃ g o, a1 = some ⟨g, o, none⟩ ∧ w.cell? ⟨g, o + i, none⟩ = some (.string ⟨x.toArray⟩)) := Lib.hid (fun i x hi => hnm i _ (by rw [List.getElem?_map, hi]; rfl))
  have HSZ := Lib.hid hk
  have HIN := Lib.hid hin
  have HAL := Lib.hid hall
  have hu1 : Upto [] w (w.alloc (.cells #[.int .i64 op, .slice a1 nms.length c1, .int .i64 so, .int .i64 0, .int .i64 mm, .slice a2 l.length c2] 25)) := (Upto.refl [] w).alloc _
  have HB1 := Lib.hid (new_at w (.cells #[.int .i64 op, .slice a1 nms.length c1, .int .i64 so, .int .i64 0, .int .i64 mm, .slice a2 l.length c2] 25))
  have HU1 := Lib.hid hu1
  have hll := hin.2.2.1
  have hnl := hin.1
  have hL0 : (0 : Int) ≤ l.length := by omega
  have hL1 : (l.length : Int) ≤ 10000000 := by omega
  have hN0 : (0 : Int) ≤ nms.length := by omega
  have hN1 : (nms.length : Int) ≤ 10000000 := by omega
  have HH := Lib.hid (has_calls op)
  obtain ⟨a, b, c, habc, ha17, hb17, hc17⟩ : ∃ a b c : Nat, hasF op = (a, b, c) ∧ a ≤ 17 ∧ b ≤ 17 ∧ c ≤ 17 := by
    unfold hasF
    repeat' split
    all_goals exact ⟨_, _, _, rfl, by decide, by decide, by decide⟩
  rw [habc] at HH
  simp only at HH
  obtain ⟨hs0, hs1, hs2⟩ : ¬ nms.length < a ∧ ¬ b < nms.length ∧ l.length = c := by
    unfold shapeBad at hsb
    rw [habc] at hsb
    simp at hsb
    omega
  have ha0 : (0 : Int) ≤ a := by omega
  have hb0 : (0 : Int) ≤ b := by omega
  have hc0 : (0 : Int) ≤ c := by omega
  have ha1 : (a : Int) ≤ 17 := by omega
  have hb1 : (b : Int) ≤ 17 := by omega
  have hc1 : (c : Int) ≤ 17 := by omega
  have q0 : ¬ (nms.length : Int) < a := by omega
  have q1 : ¬ (b : Int) < nms.length := by omega
  have q2 : ((l.length : Int) != (c : Int)) = false := by rw [hs2]; simp
  clear habc hsb hall h hs hg hk hu1 hnm ev hin hs2
  go_enter Tryz.func44, Tryz.ntmps44
  go_wp2_with fail
  refine (HH.out (w.alloc (.cells #[.int .i64 op, .slice a1 nms.length c1, .int .i64 so, .int .i64 0, .int .i64 mm, .slice a2 l.length c2] 25))).mono ?_
  rintro e w3 ⟨rfl, hu3⟩
  have HU3 := Lib.hid (HU1.out.trans_ext hu3)
  have hb3 := hu3.at HB1.out (by simp)
  have HB3 := Lib.hid hb3
  obtain ⟨y0, y1, y2, y3, y4, y5⟩ := cells6 hb3
  clear hu3 hb3
  go_wp2_with fail
  go_loopw [6] (fun i wr => ∃ j : Nat, j ≤ nms.length ∧ i = .int .i64 j ∧ Hid (Upto [] w3 wr)) (fun i _ => nms.length - (intOf i).toNat)
  case atStart => exact ⟨0, by omega, rfl, Lib.hid (Upto.refl _ _)⟩
  case round =>
    clear y0 y1 y2 y3 y4 y5
    obtain ⟨j, hj, rfl, HU⟩ := hrel
    have hj0 : (0 : Int) ≤ j := by omega
    have hb := HU.out.at HB3.out (by simp)
    have HB := Lib.hid hb
    obtain ⟨y0, y1, y2, y3, y4, y5⟩ := cells6 hb
    have HW := Lib.hid (HU3.out.trans_ext HU.out)
    rcases Nat.lt_or_ge j nms.length with hlt | hge
    · have hltI : (j : Int) < nms.length := by omega
      obtain ⟨x, hx⟩ : ∃ x, nms[j]? = some x := ⟨_, List.getElem?_eq_getElem hlt⟩
      have hxl := HIN.out.2.1 x (List.mem_of_getElem? hx)
      obtain ⟨g, o, rfl, c0⟩ := HN.out j x hx
      replace c0 := up_cell HW.out c0
      have HC := Lib.hid (isName_calls x wr (by omega))
      have hb2 : nameF x = true := List.all_eq_true.1 HAL.out x (List.mem_of_getElem? hx)
      rw [hb2] at HC
      clear hx hb hb2
      go_wp2_with fail
      refine HC.out.mono ?_
      rintro e w5 ⟨rfl, hu5⟩
      have HU5 := Lib.hid (HU.out.trans_ext hu5)
      clear hu5
      go_wp2_with fail
      go_roundw
      case rel => first | exact ⟨j + 1, by omega, by go_num, HU5⟩ | exact ⟨_, _, _, _, _, _, _, _, _, _, _, _, _, _, _, _, ⟨j + 1, by omega, by go_num, HU5⟩, rfl⟩
      case measure => simp [intOf]; omega
    · have hgeI : ¬ (j : Int) < nms.length := by omega
      clear hb q0 q1 q2 hs0 hs1 ha0 hb0 hc0 ha1 hb1 hc1 HH HAL HN
      have eop7 : (op == (7 : Int)) = false := by rw [beq_eq_false_iff_ne]; omega
      have fop7 : (op != (7 : Int)) = true := by rw [bne, eop7]; rfl
      have eop8 : (op == (8 : Int)) = false := by rw [beq_eq_false_iff_ne]; omega
      have fop8 : (op != (8 : Int)) = true := by rw [bne, eop8]; rfl
      have emm0 : (mm == (0 : Int)) = false := by rw [beq_eq_false_iff_ne]; exact hz
      have fmm0 : (mm != (0 : Int)) = true := by rw [bne, emm0]; rfl
      go_wp2_with fail
      go_ret
      exact ⟨rfl, HW.out⟩
end Go.Proofs.YtbnebkkpmcjmbaaGreatDoor


namespace Go.Proofs.YtbnebkkpmcjmbaaGreatDoor
open Go.RowKit Go.PL Go.Maps
set_option maxRecDepth 100000 in
set_option maxHeartbeats 12800000 in
theorem form_oc (k : Nat) (op so : Int) (nms : List (List UInt8)) (l : List Nd) (hk : sizesF l ≤ k) (hin : inN 10000000 (.mk op nms so 0 0 l)) (_hk7 : k + 1 ≤ 10000000) (v : Value) (w : World) (P : Nat → Prop) (h : NdV w P (.mk op nms so 0 0 l) v) (hk0 : ¬ (op : Int) < 0) (hk1 : ¬ (17 : Int) < op) (hsb : shapeBad op nms.length l.length = false) (hall : nms.all nameF = true) (o7 : op ≠ 7) (o8 : op ≠ 8) (o16 : op < 16) (hz : so ≠ 0) : Calls Tryz.prog 44 #[v] w fun e w' => e = .returned (.int .i64 ((3 : Nat) : Int)) ∧ Upto [] w w' := by
  obtain ⟨a1, c1, a2, c2, rfl, hs, hg⟩ := h.open
  unfold inN at hin
  have HG := Lib.hid hg
  obtain ⟨a1', c1', ev, hnm⟩ := hs.get
  obtain ⟨rfl, rfl⟩ : a1 = a1' ∧ c1 = c1' := by simpa using ev
  have HN : Hid (∀ i x, nms[i]? = some x → ∃ g o, a1 = some ⟨g, o, none⟩ ∧ w.cell? ⟨g, o + i, none⟩ = some (.string ⟨x.toArray⟩)) := Lib.hid (fun i x hi => hnm i _ (by rw [List.getElem?_map, hi]; rfl))
  have HSZ := Lib.hid hk
  have HIN := Lib.hid hin
  have HAL := Lib.hid hall
  have hu1 : Upto [] w (w.alloc (.cells #[.int .i64 op, .slice a1 nms.length c1, .int .i64 so, .int .i64 0, .int .i64 0, .slice a2 l.length c2] 25)) := (Upto.refl [] w).alloc _
  have HB1 := Lib.hid (new_at w (.cells #[.int .i64 op, .slice a1 nms.length c1, .int .i64 so, .int .i64 0, .int .i64 0, .slice a2 l.length c2] 25))
  have HU1 := Lib.hid hu1
  have hll := hin.2.2.1
  have hnl := hin.1
  have hL0 : (0 : Int) ≤ l.length := by omega
  have hL1 : (l.length : Int) ≤ 10000000 := by omega
  have hN0 : (0 : Int) ≤ nms.length := by omega
  have hN1 : (nms.length : Int) ≤ 10000000 := by omega
  have HH := Lib.hid (has_calls op)
  obtain ⟨a, b, c, habc, ha17, hb17, hc17⟩ : ∃ a b c : Nat, hasF op = (a, b, c) ∧ a ≤ 17 ∧ b ≤ 17 ∧ c ≤ 17 := by
    unfold hasF
    repeat' split
    all_goals exact ⟨_, _, _, rfl, by decide, by decide, by decide⟩
  rw [habc] at HH
  simp only at HH
  obtain ⟨hs0, hs1, hs2⟩ : ¬ nms.length < a ∧ ¬ b < nms.length ∧ l.length = c := by
    unfold shapeBad at hsb
    rw [habc] at hsb
    simp at hsb
    omega
  have ha0 : (0 : Int) ≤ a := by omega
  have hb0 : (0 : Int) ≤ b := by omega
  have hc0 : (0 : Int) ≤ c := by omega
  have ha1 : (a : Int) ≤ 17 := by omega
  have hb1 : (b : Int) ≤ 17 := by omega
  have hc1 : (c : Int) ≤ 17 := by omega
  have q0 : ¬ (nms.length : Int) < a := by omega
  have q1 : ¬ (b : Int) < nms.length := by omega
  have q2 : ((l.length : Int) != (c : Int)) = false := by rw [hs2]; simp
  clear habc hsb hall h hs hg hk hu1 hnm ev hin hs2
  go_enter Tryz.func44, Tryz.ntmps44
  go_wp2_with fail
  refine (HH.out (w.alloc (.cells #[.int .i64 op, .slice a1 nms.length c1, .int .i64 so, .int .i64 0, .int .i64 0, .slice a2 l.length c2] 25))).mono ?_
  rintro e w3 ⟨rfl, hu3⟩
  have HU3 := Lib.hid (HU1.out.trans_ext hu3)
  have hb3 := hu3.at HB1.out (by simp)
  have HB3 := Lib.hid hb3
  obtain ⟨y0, y1, y2, y3, y4, y5⟩ := cells6 hb3
  clear hu3 hb3
  go_wp2_with fail
  go_loopw [6] (fun i wr => ∃ j : Nat, j ≤ nms.length ∧ i = .int .i64 j ∧ Hid (Upto [] w3 wr)) (fun i _ => nms.length - (intOf i).toNat)
  case atStart => exact ⟨0, by omega, rfl, Lib.hid (Upto.refl _ _)⟩
  case round =>
    clear y0 y1 y2 y3 y4 y5
    obtain ⟨j, hj, rfl, HU⟩ := hrel
    have hj0 : (0 : Int) ≤ j := by omega
    have hb := HU.out.at HB3.out (by simp)
    have HB := Lib.hid hb
    obtain ⟨y0, y1, y2, y3, y4, y5⟩ := cells6 hb
    have HW := Lib.hid (HU3.out.trans_ext HU.out)
    rcases Nat.lt_or_ge j nms.length with hlt | hge
    · have hltI : (j : Int) < nms.length := by omega
      obtain ⟨x, hx⟩ : ∃ x, nms[j]? = some x := ⟨_, List.getElem?_eq_getElem hlt⟩
      have hxl := HIN.out.2.1 x (List.mem_of_getElem? hx)
      obtain ⟨g, o, rfl, c0⟩ := HN.out j x hx
      replace c0 := up_cell HW.out c0
      have HC := Lib.hid (isName_calls x wr (by omega))
      have hb2 : nameF x = true := List.all_eq_true.1 HAL.out x (List.mem_of_getElem? hx)
      rw [hb2] at HC
      clear hx hb hb2
      go_wp2_with fail
      refine HC.out.mono ?_
      rintro e w5 ⟨rfl, hu5⟩
      have HU5 := Lib.hid (HU.out.trans_ext hu5)
      clear hu5
      go_wp2_with fail
      go_roundw
      case rel => first | exact ⟨j + 1, by omega, by go_num, HU5⟩ | exact ⟨_, _, _, _, _, _, _, _, _, _, _, _, _, _, _, _, ⟨j + 1, by omega, by go_num, HU5⟩, rfl⟩
      case measure => simp [intOf]; omega
    · have hgeI : ¬ (j : Int) < nms.length := by omega
      clear hb q0 q1 q2 hs0 hs1 ha0 hb0 hc0 ha1 hb1 hc1 HH HAL HN
      have eop7 : (op == (7 : Int)) = false := by rw [beq_eq_false_iff_ne]; omega
      have fop7 : (op != (7 : Int)) = true := by rw [bne, eop7]; rfl
      have eop8 : (op == (8 : Int)) = false := by rw [beq_eq_false_iff_ne]; omega
      have fop8 : (op != (8 : Int)) = true := by rw [bne, eop8]; rfl
      have eso0 : (so == (0 : Int)) = false := by rw [beq_eq_false_iff_ne]; exact hz
      have fso0 : (so != (0 : Int)) = true := by rw [bne, eso0]; rfl
      go_wp2_with fail
      go_ret
      exact ⟨rfl, HW.out⟩
end Go.Proofs.YtbnebkkpmcjmbaaGreatDoor


namespace Go.Proofs.YtbnebkkpmcjmbaaGreatDoor
open Go.RowKit Go.PL Go.Maps
set_option maxRecDepth 100000 in
set_option maxHeartbeats 12800000 in
theorem form_og (k : Nat) (op : Int) (nms : List (List UInt8)) (l : List Nd) (hk : sizesF l ≤ k) (hin : inN 10000000 (.mk op nms 0 0 0 l)) (_hk7 : k + 1 ≤ 10000000) (v : Value) (w : World) (P : Nat → Prop) (h : NdV w P (.mk op nms 0 0 0 l) v) (hk0 : ¬ (op : Int) < 0) (hk1 : ¬ (17 : Int) < op) (hsb : shapeBad op nms.length l.length = false) (hall : nms.all nameF = true) (o7 : op ≠ 7) (o8 : op ≠ 8) (o16 : op < 16) (IH : ∀ (nd : Nd), sizeF nd ≤ k → inN 10000000 nd → ∀ (v : Value) (w : World) (P : Nat → Prop), NdV w P nd v → Calls Tryz.prog 44 #[v] w fun e w' => e = .returned (.int .i64 (formF nameF nd : Nat)) ∧ Upto [] w w') : Calls Tryz.prog 44 #[v] w fun e w' => e = .returned (.int .i64 ((formsF nameF l : Nat) : Int)) ∧ Upto [] w w' := by
  obtain ⟨a1, c1, a2, c2, rfl, hs, hg⟩ := h.open
  unfold inN at hin
  have HG := Lib.hid hg
  obtain ⟨a1', c1', ev, hnm⟩ := hs.get
  obtain ⟨rfl, rfl⟩ : a1 = a1' ∧ c1 = c1' := by simpa using ev
  have HN : Hid (∀ i x, nms[i]? = some x → ∃ g o, a1 = some ⟨g, o, none⟩ ∧ w.cell? ⟨g, o + i, none⟩ = some (.string ⟨x.toArray⟩)) := Lib.hid (fun i x hi => hnm i _ (by rw [List.getElem?_map, hi]; rfl))
  have HSZ := Lib.hid hk
  have HIN := Lib.hid hin
  have HAL := Lib.hid hall
  have hu1 : Upto [] w (w.alloc (.cells #[.int .i64 op, .slice a1 nms.length c1, .int .i64 0, .int .i64 0, .int .i64 0, .slice a2 l.length c2] 25)) := (Upto.refl [] w).alloc _
  have HB1 := Lib.hid (new_at w (.cells #[.int .i64 op, .slice a1 nms.length c1, .int .i64 0, .int .i64 0, .int .i64 0, .slice a2 l.length c2] 25))
  have HU1 := Lib.hid hu1
  have hll := hin.2.2.1
  have hnl := hin.1
  have hL0 : (0 : Int) ≤ l.length := by omega
  have hL1 : (l.length : Int) ≤ 10000000 := by omega
  have hN0 : (0 : Int) ≤ nms.length := by omega
  have hN1 : (nms.length : Int) ≤ 10000000 := by omega
  have HH := Lib.hid (has_calls op)
  obtain ⟨a, b, c, habc, ha17, hb17, hc17⟩ : ∃ a b c : Nat, hasF op = (a, b, c) ∧ a ≤ 17 ∧ b ≤ 17 ∧ c ≤ 17 := by
    unfold hasF
    repeat' split
    all_goals exact ⟨_, _, _, rfl, by decide, by decide, by decide⟩
  rw [habc] at HH
  simp only at HH
  obtain ⟨hs0, hs1, hs2⟩ : ¬ nms.length < a ∧ ¬ b < nms.length ∧ l.length = c := by
    unfold shapeBad at hsb
    rw [habc] at hsb
    simp at hsb
    omega
  have ha0 : (0 : Int) ≤ a := by omega
  have hb0 : (0 : Int) ≤ b := by omega
  have hc0 : (0 : Int) ≤ c := by omega
  have ha1 : (a : Int) ≤ 17 := by omega
  have hb1 : (b : Int) ≤ 17 := by omega
  have hc1 : (c : Int) ≤ 17 := by omega
  have q0 : ¬ (nms.length : Int) < a := by omega
  have q1 : ¬ (b : Int) < nms.length := by omega
  have q2 : ((l.length : Int) != (c : Int)) = false := by rw [hs2]; simp
  clear habc hsb hall h hs hg hk hu1 hnm ev hin hs2
  go_enter Tryz.func44, Tryz.ntmps44
  go_wp2_with fail
  refine (HH.out (w.alloc (.cells #[.int .i64 op, .slice a1 nms.length c1, .int .i64 0, .int .i64 0, .int .i64 0, .slice a2 l.length c2] 25))).mono ?_
  rintro e w3 ⟨rfl, hu3⟩
  have HU3 := Lib.hid (HU1.out.trans_ext hu3)
  have hb3 := hu3.at HB1.out (by simp)
  have HB3 := Lib.hid hb3
  obtain ⟨y0, y1, y2, y3, y4, y5⟩ := cells6 hb3
  clear hu3 hb3
  go_wp2_with fail
  go_loopw [6] (fun i wr => ∃ j : Nat, j ≤ nms.length ∧ i = .int .i64 j ∧ Hid (Upto [] w3 wr)) (fun i _ => nms.length - (intOf i).toNat)
  case atStart => exact ⟨0, by omega, rfl, Lib.hid (Upto.refl _ _)⟩
  case round =>
    clear y0 y1 y2 y3 y4 y5
    obtain ⟨j, hj, rfl, HU⟩ := hrel
    have hj0 : (0 : Int) ≤ j := by omega
    have hb := HU.out.at HB3.out (by simp)
    have HB := Lib.hid hb
    obtain ⟨y0, y1, y2, y3, y4, y5⟩ := cells6 hb
    have HW := Lib.hid (HU3.out.trans_ext HU.out)
    rcases Nat.lt_or_ge j nms.length with hlt | hge
    · have hltI : (j : Int) < nms.length := by omega
      obtain ⟨x, hx⟩ : ∃ x, nms[j]? = some x := ⟨_, List.getElem?_eq_getElem hlt⟩
      have hxl := HIN.out.2.1 x (List.mem_of_getElem? hx)
      obtain ⟨g, o, rfl, c0⟩ := HN.out j x hx
      replace c0 := up_cell HW.out c0
      have HC := Lib.hid (isName_calls x wr (by omega))
      have hb2 : nameF x = true := List.all_eq_true.1 HAL.out x (List.mem_of_getElem? hx)
      rw [hb2] at HC
      clear hx hb hb2
      go_wp2_with fail
      refine HC.out.mono ?_
      rintro e w5 ⟨rfl, hu5⟩
      have HU5 := Lib.hid (HU.out.trans_ext hu5)
      clear hu5
      go_wp2_with fail
      go_roundw
      case rel => first | exact ⟨j + 1, by omega, by go_num, HU5⟩ | exact ⟨_, _, _, _, _, _, _, _, _, _, _, _, _, _, _, _, ⟨j + 1, by omega, by go_num, HU5⟩, rfl⟩
      case measure => simp [intOf]; omega
    · have hgeI : ¬ (j : Int) < nms.length := by omega
      clear hb q0 q1 q2 hs0 hs1 ha0 hb0 hc0 ha1 hb1 hc1 HH HAL HN
      have eop7 : (op == (7 : Int)) = false := by rw [beq_eq_false_iff_ne]; omega
      have fop7 : (op != (7 : Int)) = true := by rw [bne, eop7]; rfl
      have eop8 : (op == (8 : Int)) = false := by rw [beq_eq_false_iff_ne]; omega
      have fop8 : (op != (8 : Int)) = true := by rw [bne, eop8]; rfl
      go_wp2_with fail
      go_loopw [7] (fun i wx => ∃ m : Nat, m ≤ l.length ∧ i = .int .i64 m ∧ Hid (formsF nameF (l.drop m) = formsF nameF l) ∧ Hid (Upto [] wr wx)) (fun i _ => l.length - (intOf i).toNat)
      case atStart => exact ⟨0, by omega, rfl, Lib.hid rfl, Lib.hid (Upto.refl _ _)⟩
      case round =>
        clear y0 y1 y2 y3 y4 y5
        obtain ⟨m, hm, rfl, HB9, HV⟩ := hrel
        have hm0 : (0 : Int) ≤ m := by omega
        have hb := HV.out.at HB.out (by simp)
        have y5 := cell_of hb 5
        simp only [List.getElem?_toArray, List.getElem?_cons_zero, List.getElem?_cons_succ] at y5
        have HW2 := Lib.hid (HW.out.trans_ext HV.out)
        rcases Nat.lt_or_ge m l.length with hlt | hge2
        · have hltI : (m : Int) < l.length := by omega
          obtain ⟨x, hx⟩ : ∃ x, l[m]? = some x := ⟨_, List.getElem?_eq_getElem hlt⟩
          have HDR : Hid (l.drop m = x :: l.drop (m + 1)) := Lib.hid (by
            obtain ⟨hi, h3⟩ := List.getElem?_eq_some_iff.1 hx
            rw [List.drop_eq_getElem_cons hi, h3])
          obtain ⟨g, o, xo, xn1, xn2, xn3, xs, xm, xq, xl1, xl2, xl3, rfl, d0, d1, d2, d3, d4, d5, hnx⟩ := HG.out m x hx
          replace d0 := up_cell HW2.out d0
          replace d1 := up_cell HW2.out d1
          replace d2 := up_cell HW2.out d2
          replace d3 := up_cell HW2.out d3
          replace d4 := up_cell HW2.out d4
          replace d5 := up_cell HW2.out d5
          have HC := Lib.hid (IH x (by have := HSZ.out; have := sizesF_mem (List.mem_of_getElem? hx); omega) (insN_mem HIN.out.2.2.2 (List.mem_of_getElem? hx)) _ wr P (hnx.ext HW2.out))
          by_cases hz : formF nameF x = 0
          · have HA2 : Hid (formsF nameF (l.drop (m + 1)) = formsF nameF l) := Lib.hid (by
              rw [← HB9.out, HDR.out]
              conv => rhs; unfold formsF
              rw [hz]
              rfl)
            rw [hz] at HC
            clear hx hb hz hnx
            go_wp2_with fail
            refine HC.out.mono ?_
            rintro e w5 ⟨rfl, hu5⟩
            have HU5 := Lib.hid (HV.out.trans_ext hu5)
            clear hu5
            go_wp2_with fail
            go_roundw
            case rel => first | exact ⟨m + 1, by omega, by go_num, HA2, HU5⟩ | exact ⟨_, _, _, _, _, _, _, _, _, _, _, _, _, _, _, _, _, _, _, ⟨m + 1, by omega, by go_num, HA2, HU5⟩, rfl⟩
            case measure => simp [intOf]; omega
          · have HF : Hid (formsF nameF l = formF nameF x) := Lib.hid (by
              rw [← HB9.out, HDR.out]
              unfold formsF
              rw [if_pos hz])
            generalize hfx : formF nameF x = fx at *
            have ez : ((fx : Int) == 0) = false := by rw [beq_eq_false_iff_ne]; omega
            have ez2 : ((fx : Int) != 0) = true := by rw [bne, ez]; rfl
            clear hx hb hz hnx hfx
            go_wp2_with fail
            refine HC.out.mono ?_
            rintro e w5 ⟨rfl, hu5⟩
            have HU5 := Lib.hid (HW2.out.trans_ext hu5)
            clear hu5
            go_wp2_with fail
            go_ret
            rw [HF.out]
            exact ⟨rfl, HU5.out⟩
        · have hgeJ : ¬ (m : Int) < l.length := by omega
          have HF : Hid (formsF nameF l = 0) := Lib.hid (by
            rw [← HB9.out, List.drop_of_length_le (by omega)]
            rfl)
          clear hb
          go_wp2_with fail
          go_ret
          rw [HF.out]
          exact ⟨rfl, HW2.out⟩
end Go.Proofs.YtbnebkkpmcjmbaaGreatDoor


namespace Go.Proofs.YtbnebkkpmcjmbaaGreatDoor
open Go.RowKit Go.PL Go.Maps
set_option maxRecDepth 100000 in
set_option maxHeartbeats 12800000 in
theorem form_hc (k : Nat) (op so : Int) (nms : List (List UInt8)) (l : List Nd) (hk : sizesF l ≤ k) (hin : inN 10000000 (.mk op nms so 0 0 l)) (_hk7 : k + 1 ≤ 10000000) (v : Value) (w : World) (P : Nat → Prop) (h : NdV w P (.mk op nms so 0 0 l) v) (hk0 : ¬ (op : Int) < 0) (hk1 : ¬ (17 : Int) < op) (hsb : shapeBad op nms.length l.length = false) (hall : nms.all nameF = true) (o7 : op ≠ 7) (o8 : op ≠ 8) (o16 : ¬ op < 16) (hz : so < 0) : Calls Tryz.prog 44 #[v] w fun e w' => e = .returned (.int .i64 ((2 : Nat) : Int)) ∧ Upto [] w w' := by
  obtain ⟨a1, c1, a2, c2, rfl, hs, hg⟩ := h.open
  unfold inN at hin
  have HG := Lib.hid hg
  obtain ⟨a1', c1', ev, hnm⟩ := hs.get
  obtain ⟨rfl, rfl⟩ : a1 = a1' ∧ c1 = c1' := by simpa using ev
  have HN : Hid (∀ i x, nms[i]? = some x → ∃ g o, a1 = some ⟨g, o, none⟩ ∧ w.cell? ⟨g, o + i, none⟩ = some (.string ⟨x.toArray⟩)) := Lib.hid (fun i x hi => hnm i _ (by rw [List.getElem?_map, hi]; rfl))
  have HSZ := Lib.hid hk
  have HIN := Lib.hid hin
  have HAL := Lib.hid hall
  have hu1 : Upto [] w (w.alloc (.cells #[.int .i64 op, .slice a1 nms.length c1, .int .i64 so, .int .i64 0, .int .i64 0, .slice a2 l.length c2] 25)) := (Upto.refl [] w).alloc _
  have HB1 := Lib.hid (new_at w (.cells #[.int .i64 op, .slice a1 nms.length c1, .int .i64 so, .int .i64 0, .int .i64 0, .slice a2 l.length c2] 25))
  have HU1 := Lib.hid hu1
  have hll := hin.2.2.1
  have hnl := hin.1
  have hL0 : (0 : Int) ≤ l.length := by omega
  have hL1 : (l.length : Int) ≤ 10000000 := by omega
  have hN0 : (0 : Int) ≤ nms.length := by omega
  have hN1 : (nms.length : Int) ≤ 10000000 := by omega
  have HH := Lib.hid (has_calls op)
  obtain ⟨a, b, c, habc, ha17, hb17, hc17⟩ : ∃ a b c : Nat, hasF op = (a, b, c) ∧ a ≤ 17 ∧ b ≤ 17 ∧ c ≤ 17 := by
    unfold hasF
    repeat' split
    all_goals exact ⟨_, _, _, rfl, by decide, by decide, by decide⟩
  rw [habc] at HH
  simp only at HH
  obtain ⟨hs0, hs1, hs2⟩ : ¬ nms.length < a ∧ ¬ b < nms.length ∧ l.length = c := by
    unfold shapeBad at hsb
    rw [habc] at hsb
    simp at hsb
    omega
  have ha0 : (0 : Int) ≤ a := by omega
  have hb0 : (0 : Int) ≤ b := by omega
  have hc0 : (0 : Int) ≤ c := by omega
  have ha1 : (a : Int) ≤ 17 := by omega
  have hb1 : (b : Int) ≤ 17 := by omega
  have hc1 : (c : Int) ≤ 17 := by omega
  have q0 : ¬ (nms.length : Int) < a := by omega
  have q1 : ¬ (b : Int) < nms.length := by omega
  have q2 : ((l.length : Int) != (c : Int)) = false := by rw [hs2]; simp
  clear habc hsb hall h hs hg hk hu1 hnm ev hin hs2
  go_enter Tryz.func44, Tryz.ntmps44
  go_wp2_with fail
  refine (HH.out (w.alloc (.cells #[.int .i64 op, .slice a1 nms.length c1, .int .i64 so, .int .i64 0, .int .i64 0, .slice a2 l.length c2] 25))).mono ?_
  rintro e w3 ⟨rfl, hu3⟩
  have HU3 := Lib.hid (HU1.out.trans_ext hu3)
  have hb3 := hu3.at HB1.out (by simp)
  have HB3 := Lib.hid hb3
  obtain ⟨y0, y1, y2, y3, y4, y5⟩ := cells6 hb3
  clear hu3 hb3
  go_wp2_with fail
  go_loopw [6] (fun i wr => ∃ j : Nat, j ≤ nms.length ∧ i = .int .i64 j ∧ Hid (Upto [] w3 wr)) (fun i _ => nms.length - (intOf i).toNat)
  case atStart => exact ⟨0, by omega, rfl, Lib.hid (Upto.refl _ _)⟩
  case round =>
    clear y0 y1 y2 y3 y4 y5
    obtain ⟨j, hj, rfl, HU⟩ := hrel
    have hj0 : (0 : Int) ≤ j := by omega
    have hb := HU.out.at HB3.out (by simp)
    have HB := Lib.hid hb
    obtain ⟨y0, y1, y2, y3, y4, y5⟩ := cells6 hb
    have HW := Lib.hid (HU3.out.trans_ext HU.out)
    rcases Nat.lt_or_ge j nms.length with hlt | hge
    · have hltI : (j : Int) < nms.length := by omega
      obtain ⟨x, hx⟩ : ∃ x, nms[j]? = some x := ⟨_, List.getElem?_eq_getElem hlt⟩
      have hxl := HIN.out.2.1 x (List.mem_of_getElem? hx)
      obtain ⟨g, o, rfl, c0⟩ := HN.out j x hx
      replace c0 := up_cell HW.out c0
      have HC := Lib.hid (isName_calls x wr (by omega))
      have hb2 : nameF x = true := List.all_eq_true.1 HAL.out x (List.mem_of_getElem? hx)
      rw [hb2] at HC
      clear hx hb hb2
      go_wp2_with fail
      refine HC.out.mono ?_
      rintro e w5 ⟨rfl, hu5⟩
      have HU5 := Lib.hid (HU.out.trans_ext hu5)
      clear hu5
      go_wp2_with fail
      go_roundw
      case rel => first | exact ⟨j + 1, by omega, by go_num, HU5⟩ | exact ⟨_, _, _, _, _, _, _, _, _, _, _, _, _, _, _, _, ⟨j + 1, by omega, by go_num, HU5⟩, rfl⟩
      case measure => simp [intOf]; omega
    · have hgeI : ¬ (j : Int) < nms.length := by omega
      clear hb q0 q1 q2 hs0 hs1 ha0 hb0 hc0 ha1 hb1 hc1 HH HAL HN
      have eop7 : (op == (7 : Int)) = false := by rw [beq_eq_false_iff_ne]; omega
      have fop7 : (op != (7 : Int)) = true := by rw [bne, eop7]; rfl
      have eop8 : (op == (8 : Int)) = false := by rw [beq_eq_false_iff_ne]; omega
      have fop8 : (op != (8 : Int)) = true := by rw [bne, eop8]; rfl
      go_wp2_with fail
      go_ret
      exact ⟨rfl, HW.out⟩
end Go.Proofs.YtbnebkkpmcjmbaaGreatDoor


namespace Go.Proofs.YtbnebkkpmcjmbaaGreatDoor
open Go.RowKit Go.PL Go.Maps
set_option maxRecDepth 100000 in
set_option maxHeartbeats 12800000 in
theorem form_hd (k : Nat) (op so : Int) (nms : List (List UInt8)) (l : List Nd) (hk : sizesF l ≤ k) (hin : inN 10000000 (.mk op nms so 0 0 l)) (_hk7 : k + 1 ≤ 10000000) (v : Value) (w : World) (P : Nat → Prop) (h : NdV w P (.mk op nms so 0 0 l) v) (hk0 : ¬ (op : Int) < 0) (hk1 : ¬ (17 : Int) < op) (hsb : shapeBad op nms.length l.length = false) (hall : nms.all nameF = true) (o7 : op ≠ 7) (o8 : op ≠ 8) (o16 : ¬ op < 16) (h1 : ¬ so < 0) (hz : 3 < so) : Calls Tryz.prog 44 #[v] w fun e w' => e = .returned (.int .i64 ((2 : Nat) : Int)) ∧ Upto [] w w' := by
  obtain ⟨a1, c1, a2, c2, rfl, hs, hg⟩ := h.open
  unfold inN at hin
  have HG := Lib.hid hg
  obtain ⟨a1', c1', ev, hnm⟩ := hs.get
  obtain ⟨rfl, rfl⟩ : a1 = a1' ∧ c1 = c1' := by simpa using ev
  have HN : Hid (∀ i x, nms[i]? = some x → ∃ g o, a1 = some ⟨g, o, none⟩ ∧ w.cell? ⟨g, o + i, none⟩ = some (.string ⟨x.toArray⟩)) := Lib.hid (fun i x hi => hnm i _ (by rw [List.getElem?_map, hi]; rfl))
  have HSZ := Lib.hid hk
  have HIN := Lib.hid hin
  have HAL := Lib.hid hall
  have hu1 : Upto [] w (w.alloc (.cells #[.int .i64 op, .slice a1 nms.length c1, .int .i64 so, .int .i64 0, .int .i64 0, .slice a2 l.length c2] 25)) := (Upto.refl [] w).alloc _
  have HB1 := Lib.hid (new_at w (.cells #[.int .i64 op, .slice a1 nms.length c1, .int .i64 so, .int .i64 0, .int .i64 0, .slice a2 l.length c2] 25))
  have HU1 := Lib.hid hu1
  have hll := hin.2.2.1
  have hnl := hin.1
  have hL0 : (0 : Int) ≤ l.length := by omega
  have hL1 : (l.length : Int) ≤ 10000000 := by omega
  have hN0 : (0 : Int) ≤ nms.length := by omega
  have hN1 : (nms.length : Int) ≤ 10000000 := by omega
  have HH := Lib.hid (has_calls op)
  obtain ⟨a, b, c, habc, ha17, hb17, hc17⟩ : ∃ a b c : Nat, hasF op = (a, b, c) ∧ a ≤ 17 ∧ b ≤ 17 ∧ c ≤ 17 := by
    unfold hasF
    repeat' split
    all_goals exact ⟨_, _, _, rfl, by decide, by decide, by decide⟩
  rw [habc] at HH
  simp only at HH
  obtain ⟨hs0, hs1, hs2⟩ : ¬ nms.length < a ∧ ¬ b < nms.length ∧ l.length = c := by
    unfold shapeBad at hsb
    rw [habc] at hsb
    simp at hsb
    omega
  have ha0 : (0 : Int) ≤ a := by omega
  have hb0 : (0 : Int) ≤ b := by omega
  have hc0 : (0 : Int) ≤ c := by omega
  have ha1 : (a : Int) ≤ 17 := by omega
  have hb1 : (b : Int) ≤ 17 := by omega
  have hc1 : (c : Int) ≤ 17 := by omega
  have q0 : ¬ (nms.length : Int) < a := by omega
  have q1 : ¬ (b : Int) < nms.length := by omega
  have q2 : ((l.length : Int) != (c : Int)) = false := by rw [hs2]; simp
  clear habc hsb hall h hs hg hk hu1 hnm ev hin hs2
  go_enter Tryz.func44, Tryz.ntmps44
  go_wp2_with fail
  refine (HH.out (w.alloc (.cells #[.int .i64 op, .slice a1 nms.length c1, .int .i64 so, .int .i64 0, .int .i64 0, .slice a2 l.length c2] 25))).mono ?_
  rintro e w3 ⟨rfl, hu3⟩
  have HU3 := Lib.hid (HU1.out.trans_ext hu3)
  have hb3 := hu3.at HB1.out (by simp)
  have HB3 := Lib.hid hb3
  obtain ⟨y0, y1, y2, y3, y4, y5⟩ := cells6 hb3
  clear hu3 hb3
  go_wp2_with fail
  go_loopw [6] (fun i wr => ∃ j : Nat, j ≤ nms.length ∧ i = .int .i64 j ∧ Hid (Upto [] w3 wr)) (fun i _ => nms.length - (intOf i).toNat)
  case atStart => exact ⟨0, by omega, rfl, Lib.hid (Upto.refl _ _)⟩
  case round =>
    clear y0 y1 y2 y3 y4 y5
    obtain ⟨j, hj, rfl, HU⟩ := hrel
    have hj0 : (0 : Int) ≤ j := by omega
    have hb := HU.out.at HB3.out (by simp)
    have HB := Lib.hid hb
    obtain ⟨y0, y1, y2, y3, y4, y5⟩ := cells6 hb
    have HW := Lib.hid (HU3.out.trans_ext HU.out)
    rcases Nat.lt_or_ge j nms.length with hlt | hge
    · have hltI : (j : Int) < nms.length := by omega
      obtain ⟨x, hx⟩ : ∃ x, nms[j]? = some x := ⟨_, List.getElem?_eq_getElem hlt⟩
      have hxl := HIN.out.2.1 x (List.mem_of_getElem? hx)
      obtain ⟨g, o, rfl, c0⟩ := HN.out j x hx
      replace c0 := up_cell HW.out c0
      have HC := Lib.hid (isName_calls x wr (by omega))
      have hb2 : nameF x = true := List.all_eq_true.1 HAL.out x (List.mem_of_getElem? hx)
      rw [hb2] at HC
      clear hx hb hb2
      go_wp2_with fail
      refine HC.out.mono ?_
      rintro e w5 ⟨rfl, hu5⟩
      have HU5 := Lib.hid (HU.out.trans_ext hu5)
      clear hu5
      go_wp2_with fail
      go_roundw
      case rel => first | exact ⟨j + 1, by omega, by go_num, HU5⟩ | exact ⟨_, _, _, _, _, _, _, _, _, _, _, _, _, _, _, _, ⟨j + 1, by omega, by go_num, HU5⟩, rfl⟩
      case measure => simp [intOf]; omega
    · have hgeI : ¬ (j : Int) < nms.length := by omega
      clear hb q0 q1 q2 hs0 hs1 ha0 hb0 hc0 ha1 hb1 hc1 HH HAL HN
      have eop7 : (op == (7 : Int)) = false := by rw [beq_eq_false_iff_ne]; omega
      have fop7 : (op != (7 : Int)) = true := by rw [bne, eop7]; rfl
      have eop8 : (op == (8 : Int)) = false := by rw [beq_eq_false_iff_ne]; omega
      have fop8 : (op != (8 : Int)) = true := by rw [bne, eop8]; rfl
      go_wp2_with fail
      go_ret
      exact ⟨rfl, HW.out⟩
end Go.Proofs.YtbnebkkpmcjmbaaGreatDoor


namespace Go.Proofs.YtbnebkkpmcjmbaaGreatDoor
open Go.RowKit Go.PL Go.Maps
set_option maxRecDepth 100000 in
set_option maxHeartbeats 12800000 in
theorem form_hg (k : Nat) (op so : Int) (nms : List (List UInt8)) (l : List Nd) (hk : sizesF l ≤ k) (hin : inN 10000000 (.mk op nms so 0 0 l)) (_hk7 : k + 1 ≤ 10000000) (v : Value) (w : World) (P : Nat → Prop) (h : NdV w P (.mk op nms so 0 0 l) v) (hk0 : ¬ (op : Int) < 0) (hk1 : ¬ (17 : Int) < op) (hsb : shapeBad op nms.length l.length = false) (hall : nms.all nameF = true) (o7 : op ≠ 7) (o8 : op ≠ 8) (o16 : ¬ op < 16) (h1 : ¬ so < 0) (h2 : ¬ 3 < so) (IH : ∀ (nd : Nd), sizeF nd ≤ k → inN 10000000 nd → ∀ (v : Value) (w : World) (P : Nat → Prop), NdV w P nd v → Calls Tryz.prog 44 #[v] w fun e w' => e = .returned (.int .i64 (formF nameF nd : Nat)) ∧ Upto [] w w') : Calls Tryz.prog 44 #[v] w fun e w' => e = .returned (.int .i64 ((formsF nameF l : Nat) : Int)) ∧ Upto [] w w' := by
  obtain ⟨a1, c1, a2, c2, rfl, hs, hg⟩ := h.open
  unfold inN at hin
  have HG := Lib.hid hg
  obtain ⟨a1', c1', ev, hnm⟩ := hs.get
  obtain ⟨rfl, rfl⟩ : a1 = a1' ∧ c1 = c1' := by simpa using ev
  have HN : Hid (∀ i x, nms[i]? = some x → ∃ g o, a1 = some ⟨g, o, none⟩ ∧ w.cell? ⟨g, o + i, none⟩ = some (.string ⟨x.toArray⟩)) := Lib.hid (fun i x hi => hnm i _ (by rw [List.getElem?_map, hi]; rfl))
  have HSZ := Lib.hid hk
  have HIN := Lib.hid hin
  have HAL := Lib.hid hall
  have hu1 : Upto [] w (w.alloc (.cells #[.int .i64 op, .slice a1 nms.length c1, .int .i64 so, .int .i64 0, .int .i64 0, .slice a2 l.length c2] 25)) := (Upto.refl [] w).alloc _
  have HB1 := Lib.hid (new_at w (.cells #[.int .i64 op, .slice a1 nms.length c1, .int .i64 so, .int .i64 0, .int .i64 0, .slice a2 l.length c2] 25))
  have HU1 := Lib.hid hu1
  have hll := hin.2.2.1
  have hnl := hin.1
  have hL0 : (0 : Int) ≤ l.length := by omega
  have hL1 : (l.length : Int) ≤ 10000000 := by omega
  have hN0 : (0 : Int) ≤ nms.length := by omega
  have hN1 : (nms.length : Int) ≤ 10000000 := by omega
  have HH := Lib.hid (has_calls op)
  obtain ⟨a, b, c, habc, ha17, hb17, hc17⟩ : ∃ a b c : Nat, hasF op = (a, b, c) ∧ a ≤ 17 ∧ b ≤ 17 ∧ c ≤ 17 := by
    unfold hasF
    repeat' split
    all_goals exact ⟨_, _, _, rfl, by decide, by decide, by decide⟩
  rw [habc] at HH
  simp only at HH
  obtain ⟨hs0, hs1, hs2⟩ : ¬ nms.length < a ∧ ¬ b < nms.length ∧ l.length = c := by
    unfold shapeBad at hsb
    rw [habc] at hsb
    simp at hsb
    omega
  have ha0 : (0 : Int) ≤ a := by omega
  have hb0 : (0 : Int) ≤ b := by omega
  have hc0 : (0 : Int) ≤ c := by omega
  have ha1 : (a : Int) ≤ 17 := by omega
  have hb1 : (b : Int) ≤ 17 := by omega
  have hc1 : (c : Int) ≤ 17 := by omega
  have q0 : ¬ (nms.length : Int) < a := by omega
  have q1 : ¬ (b : Int) < nms.length := by omega
  have q2 : ((l.length : Int) != (c : Int)) = false := by rw [hs2]; simp
  clear habc hsb hall h hs hg hk hu1 hnm ev hin hs2
  go_enter Tryz.func44, Tryz.ntmps44
  go_wp2_with fail
  refine (HH.out (w.alloc (.cells #[.int .i64 op, .slice a1 nms.length c1, .int .i64 so, .int .i64 0, .int .i64 0, .slice a2 l.length c2] 25))).mono ?_
  rintro e w3 ⟨rfl, hu3⟩
  have HU3 := Lib.hid (HU1.out.trans_ext hu3)
  have hb3 := hu3.at HB1.out (by simp)
  have HB3 := Lib.hid hb3
  obtain ⟨y0, y1, y2, y3, y4, y5⟩ := cells6 hb3
  clear hu3 hb3
  go_wp2_with fail
  go_loopw [6] (fun i wr => ∃ j : Nat, j ≤ nms.length ∧ i = .int .i64 j ∧ Hid (Upto [] w3 wr)) (fun i _ => nms.length - (intOf i).toNat)
  case atStart => exact ⟨0, by omega, rfl, Lib.hid (Upto.refl _ _)⟩
  case round =>
    clear y0 y1 y2 y3 y4 y5
    obtain ⟨j, hj, rfl, HU⟩ := hrel
    have hj0 : (0 : Int) ≤ j := by omega
    have hb := HU.out.at HB3.out (by simp)
    have HB := Lib.hid hb
    obtain ⟨y0, y1, y2, y3, y4, y5⟩ := cells6 hb
    have HW := Lib.hid (HU3.out.trans_ext HU.out)
    rcases Nat.lt_or_ge j nms.length with hlt | hge
    · have hltI : (j : Int) < nms.length := by omega
      obtain ⟨x, hx⟩ : ∃ x, nms[j]? = some x := ⟨_, List.getElem?_eq_getElem hlt⟩
      have hxl := HIN.out.2.1 x (List.mem_of_getElem? hx)
      obtain ⟨g, o, rfl, c0⟩ := HN.out j x hx
      replace c0 := up_cell HW.out c0
      have HC := Lib.hid (isName_calls x wr (by omega))
      have hb2 : nameF x = true := List.all_eq_true.1 HAL.out x (List.mem_of_getElem? hx)
      rw [hb2] at HC
      clear hx hb hb2
      go_wp2_with fail
      refine HC.out.mono ?_
      rintro e w5 ⟨rfl, hu5⟩
      have HU5 := Lib.hid (HU.out.trans_ext hu5)
      clear hu5
      go_wp2_with fail
      go_roundw
      case rel => first | exact ⟨j + 1, by omega, by go_num, HU5⟩ | exact ⟨_, _, _, _, _, _, _, _, _, _, _, _, _, _, _, _, ⟨j + 1, by omega, by go_num, HU5⟩, rfl⟩
      case measure => simp [intOf]; omega
    · have hgeI : ¬ (j : Int) < nms.length := by omega
      clear hb q0 q1 q2 hs0 hs1 ha0 hb0 hc0 ha1 hb1 hc1 HH HAL HN
      have eop7 : (op == (7 : Int)) = false := by rw [beq_eq_false_iff_ne]; omega
      have fop7 : (op != (7 : Int)) = true := by rw [bne, eop7]; rfl
      have eop8 : (op == (8 : Int)) = false := by rw [beq_eq_false_iff_ne]; omega
      have fop8 : (op != (8 : Int)) = true := by rw [bne, eop8]; rfl
      go_wp2_with fail
      go_loopw [7] (fun i wx => ∃ m : Nat, m ≤ l.length ∧ i = .int .i64 m ∧ Hid (formsF nameF (l.drop m) = formsF nameF l) ∧ Hid (Upto [] wr wx)) (fun i _ => l.length - (intOf i).toNat)
      case atStart => exact ⟨0, by omega, rfl, Lib.hid rfl, Lib.hid (Upto.refl _ _)⟩
      case round =>
        clear y0 y1 y2 y3 y4 y5
        obtain ⟨m, hm, rfl, HB9, HV⟩ := hrel
        have hm0 : (0 : Int) ≤ m := by omega
        have hb := HV.out.at HB.out (by simp)
        have y5 := cell_of hb 5
        simp only [List.getElem?_toArray, List.getElem?_cons_zero, List.getElem?_cons_succ] at y5
        have HW2 := Lib.hid (HW.out.trans_ext HV.out)
        rcases Nat.lt_or_ge m l.length with hlt | hge2
        · have hltI : (m : Int) < l.length := by omega
          obtain ⟨x, hx⟩ : ∃ x, l[m]? = some x := ⟨_, List.getElem?_eq_getElem hlt⟩
          have HDR : Hid (l.drop m = x :: l.drop (m + 1)) := Lib.hid (by
            obtain ⟨hi, h3⟩ := List.getElem?_eq_some_iff.1 hx
            rw [List.drop_eq_getElem_cons hi, h3])
          obtain ⟨g, o, xo, xn1, xn2, xn3, xs, xm, xq, xl1, xl2, xl3, rfl, d0, d1, d2, d3, d4, d5, hnx⟩ := HG.out m x hx
          replace d0 := up_cell HW2.out d0
          replace d1 := up_cell HW2.out d1
          replace d2 := up_cell HW2.out d2
          replace d3 := up_cell HW2.out d3
          replace d4 := up_cell HW2.out d4
          replace d5 := up_cell HW2.out d5
          have HC := Lib.hid (IH x (by have := HSZ.out; have := sizesF_mem (List.mem_of_getElem? hx); omega) (insN_mem HIN.out.2.2.2 (List.mem_of_getElem? hx)) _ wr P (hnx.ext HW2.out))
          by_cases hz : formF nameF x = 0
          · have HA2 : Hid (formsF nameF (l.drop (m + 1)) = formsF nameF l) := Lib.hid (by
              rw [← HB9.out, HDR.out]
              conv => rhs; unfold formsF
              rw [hz]
              rfl)
            rw [hz] at HC
            clear hx hb hz hnx
            go_wp2_with fail
            refine HC.out.mono ?_
            rintro e w5 ⟨rfl, hu5⟩
            have HU5 := Lib.hid (HV.out.trans_ext hu5)
            clear hu5
            go_wp2_with fail
            go_roundw
            case rel => first | exact ⟨m + 1, by omega, by go_num, HA2, HU5⟩ | exact ⟨_, _, _, _, _, _, _, _, _, _, _, _, _, _, _, _, _, _, _, ⟨m + 1, by omega, by go_num, HA2, HU5⟩, rfl⟩
            case measure => simp [intOf]; omega
          · have HF : Hid (formsF nameF l = formF nameF x) := Lib.hid (by
              rw [← HB9.out, HDR.out]
              unfold formsF
              rw [if_pos hz])
            generalize hfx : formF nameF x = fx at *
            have ez : ((fx : Int) == 0) = false := by rw [beq_eq_false_iff_ne]; omega
            have ez2 : ((fx : Int) != 0) = true := by rw [bne, ez]; rfl
            clear hx hb hz hnx hfx
            go_wp2_with fail
            refine HC.out.mono ?_
            rintro e w5 ⟨rfl, hu5⟩
            have HU5 := Lib.hid (HW2.out.trans_ext hu5)
            clear hu5
            go_wp2_with fail
            go_ret
            rw [HF.out]
            exact ⟨rfl, HU5.out⟩
        · have hgeJ : ¬ (m : Int) < l.length := by omega
          have HF : Hid (formsF nameF l = 0) := Lib.hid (by
            rw [← HB9.out, List.drop_of_length_le (by omega)]
            rfl)
          clear hb
          go_wp2_with fail
          go_ret
          rw [HF.out]
          exact ⟨rfl, HW2.out⟩
end Go.Proofs.YtbnebkkpmcjmbaaGreatDoor


namespace Go.Proofs.YtbnebkkpmcjmbaaGreatDoor
open Go.RowKit Go.PL Go.Maps
theorem form_calls : ∀ (k : Nat) (nd : Nd), sizeF nd ≤ k → inN 10000000 nd → k ≤ 10000000 → ∀ (v : Value) (w : World) (P : Nat → Prop), NdV w P nd v → Calls Tryz.prog 44 #[v] w fun e w' => e = .returned (.int .i64 (formF nameF nd : Nat)) ∧ Upto [] w w'
  | 0, nd, hk, _, _, _, _, _, _ => by have := sizeF_pos nd; omega
  | k + 1, .mk op nms so nn mm l, hk, hin, hk7, v, w, P, h => by
    have hsz : sizesF l ≤ k := by simp only [sizeF] at hk; omega
    have IH : ∀ (nd : Nd), sizeF nd ≤ k → inN 10000000 nd → ∀ (v : Value) (w : World) (P : Nat → Prop), NdV w P nd v → Calls Tryz.prog 44 #[v] w fun e w' => e = .returned (.int .i64 (formF nameF nd : Nat)) ∧ Upto [] w w' := fun nd h1 h2 => form_calls k nd h1 h2 (by omega)
    by_cases hbad : kindBad op = true ∨ shapeBad op nms.length l.length = true ∨ nms.all nameF = false
    · exact form_bad k op so nn mm nms l hk hin hk7 v w P h hbad
    obtain ⟨b1, b2, b3⟩ : kindBad op = false ∧ shapeBad op nms.length l.length = false ∧ nms.all nameF = true := by
      refine ⟨?_, ?_, ?_⟩
      · cases e : kindBad op with
        | false => rfl
        | true => exact absurd (Or.inl e) hbad
      · cases e : shapeBad op nms.length l.length with
        | false => rfl
        | true => exact absurd (Or.inr (Or.inl e)) hbad
      · cases e : nms.all nameF with
        | true => rfl
        | false => exact absurd (Or.inr (Or.inr e)) hbad
    clear hbad
    obtain ⟨g0, g17⟩ : ¬ op < 0 ∧ ¬ 17 < op := by
      have h := b1
      unfold kindBad at h
      simp at h
      omega
    have HT : ∀ n : Nat, (if zeroBad op so nn mm then 3 else if rangeBad op so nn mm then 2 else formsF nameF l) = n → formF nameF (.mk op nms so nn mm l) = n := fun n hn => by
      unfold formF
      rw [if_neg (by rw [b1]; decide), if_neg (by rw [b2]; decide), if_neg (by rw [b3]; decide)]
      exact hn
    by_cases c7 : op = 7
    · subst c7
      by_cases t1 : mm ≠ 0
      · rw [HT 3 (by rw [if_pos (by simp [zeroBad, *])])]
        exact form_7a k so nn mm nms l hsz hin hk7 v w P h (by omega) (by omega) b2 b3 t1
      obtain rfl : mm = 0 := Decidable.not_not.1 t1
      by_cases t2 : so ≠ 0
      · rw [HT 3 (by rw [if_pos (by simp [zeroBad, *])])]
        exact form_7b k so nn nms l hsz hin hk7 v w P h (by omega) (by omega) b2 b3 t2
      obtain rfl : so = 0 := Decidable.not_not.1 t2
      by_cases t3 : nn < 0
      · rw [HT 2 (by rw [if_neg (by simp [zeroBad, *]), if_pos (by simp [rangeBad, *])])]
        exact form_7c k nn nms l hsz hin hk7 v w P h (by omega) (by omega) b2 b3 t3
      by_cases t4 : 7 < nn
      · rw [HT 2 (by rw [if_neg (by simp [zeroBad, *]), if_pos (by simp [rangeBad, *])])]
        exact form_7d k nn nms l hsz hin hk7 v w P h (by omega) (by omega) b2 b3 t3 t4
      rw [HT (formsF nameF l) (by rw [if_neg (by simp [zeroBad, *]), if_neg (by simp [rangeBad, *])])]
      exact form_7g k nn nms l hsz hin hk7 v w P h (by omega) (by omega) b2 b3 t3 t4 IH
    by_cases c8 : op = 8
    · subst c8
      by_cases t2 : so ≠ 0
      · rw [HT 3 (by rw [if_pos (by simp [zeroBad, *])])]
        exact form_8a k so nn mm nms l hsz hin hk7 v w P h (by omega) (by omega) b2 b3 t2
      obtain rfl : so = 0 := Decidable.not_not.1 t2
      by_cases t3 : mm < 1
      · rw [HT 2 (by rw [if_neg (by simp [zeroBad, *]), if_pos (by simp [rangeBad, *])])]
        exact form_8b k nn mm nms l hsz hin hk7 v w P h (by omega) (by omega) b2 b3 t3
      by_cases t4 : 64 < mm
      · rw [HT 2 (by rw [if_neg (by simp [zeroBad, *]), if_pos (by simp [rangeBad, *])])]
        exact form_8c k nn mm nms l hsz hin hk7 v w P h (by omega) (by omega) b2 b3 t3 t4
      by_cases t5 : nn < 0
      · rw [HT 2 (by rw [if_neg (by simp [zeroBad, *]), if_pos (by simp [rangeBad, *])])]
        exact form_8d k nn mm nms l hsz hin hk7 v w P h (by omega) (by omega) b2 b3 t3 t4 t5
      by_cases t6 : mm ≤ nn
      · rw [HT 2 (by rw [if_neg (by simp [zeroBad, *]), if_pos (by simp [rangeBad, *])])]
        exact form_8e k nn mm nms l hsz hin hk7 v w P h (by omega) (by omega) b2 b3 t3 t4 t5 t6
      rw [HT (formsF nameF l) (by rw [if_neg (by simp [zeroBad, *]), if_neg (by simp [rangeBad, *])])]
      exact form_8g k nn mm nms l hsz hin hk7 v w P h (by omega) (by omega) b2 b3 t3 t4 t5 t6 IH
    by_cases c16 : op < 16
    · by_cases t1 : nn ≠ 0
      · rw [HT 3 (by rw [if_pos (by simp [zeroBad, *])])]
        exact form_oa k op so nn mm nms l hsz hin hk7 v w P h (by omega) (by omega) b2 b3 c7 c8 c16 t1
      obtain rfl : nn = 0 := Decidable.not_not.1 t1
      by_cases t2 : mm ≠ 0
      · rw [HT 3 (by rw [if_pos (by simp [zeroBad, *])])]
        exact form_ob k op so mm nms l hsz hin hk7 v w P h (by omega) (by omega) b2 b3 c7 c8 c16 t2
      obtain rfl : mm = 0 := Decidable.not_not.1 t2
      by_cases t3 : so ≠ 0
      · rw [HT 3 (by rw [if_pos (by simp [zeroBad, *])])]
        exact form_oc k op so nms l hsz hin hk7 v w P h (by omega) (by omega) b2 b3 c7 c8 c16 t3
      obtain rfl : so = 0 := Decidable.not_not.1 t3
      rw [HT (formsF nameF l) (by rw [if_neg (by simp [zeroBad, *]), if_neg (by simp [rangeBad, *])])]
      exact form_og k op nms l hsz hin hk7 v w P h (by omega) (by omega) b2 b3 c7 c8 c16 IH
    by_cases t1 : nn ≠ 0
    · rw [HT 3 (by rw [if_pos (by simp [zeroBad, *])])]
      exact form_ha k op so nn mm nms l hsz hin hk7 v w P h (by omega) (by omega) b2 b3 c7 c8 c16 t1
    obtain rfl : nn = 0 := Decidable.not_not.1 t1
    by_cases t2 : mm ≠ 0
    · rw [HT 3 (by rw [if_pos (by simp [zeroBad, *])])]
      exact form_hb k op so mm nms l hsz hin hk7 v w P h (by omega) (by omega) b2 b3 c7 c8 c16 t2
    obtain rfl : mm = 0 := Decidable.not_not.1 t2
    by_cases t3 : so < 0
    · rw [HT 2 (by rw [if_neg (by simp [zeroBad, *]), if_pos (by simp [rangeBad, *])])]
      exact form_hc k op so nms l hsz hin hk7 v w P h (by omega) (by omega) b2 b3 c7 c8 c16 t3
    by_cases t4 : 3 < so
    · rw [HT 2 (by rw [if_neg (by simp [zeroBad, *]), if_pos (by simp [rangeBad, *])])]
      exact form_hd k op so nms l hsz hin hk7 v w P h (by omega) (by omega) b2 b3 c7 c8 c16 t3 t4
    rw [HT (formsF nameF l) (by rw [if_neg (by simp [zeroBad, *]), if_neg (by simp [rangeBad, *])])]
    exact form_hg k op so nms l hsz hin hk7 v w P h (by omega) (by omega) b2 b3 c7 c8 c16 t3 t4 IH
end Go.Proofs.YtbnebkkpmcjmbaaGreatDoor


namespace Go.Proofs.YtbnebkkpmcjmbaaGreatDoor
open Go.RowKit Go.PL Go.Maps

set_option maxRecDepth 100000 in
set_option maxHeartbeats 3200000 in
theorem checkR_calls (nd : Nd) (v : Value) (w : World) (P : Nat → Prop) (h : NdV w P nd v) (hk : sizeF nd ≤ 10000000) (hin : inN 10000000 nd) : Calls Tryz.prog 13 #[v] w fun e w' => e = .returned (.int .i64 (checkF nameF nd : Nat)) ∧ Upto [] w w' := by
  obtain ⟨xo, xn1, xn2, xn3, xs, xm, xq, xl1, xl2, xl3, rfl⟩ := h.six
  have hua : Upto [] w (w.alloc (.cells #[.int .i64 xo, .slice xn1 xn2 xn3, .int .i64 xs, .int .i64 xm, .int .i64 xq, .slice xl1 xl2 xl3] 25)) := (Upto.refl [] w).alloc _
  have HS := Lib.hid (fun u (hu : Upto [] w u) => form_calls _ nd hk hin (Nat.le_refl _) _ u P (h.ext hu))
  have HD := Lib.hid (fun u (hu : Upto [] w u) => greatR_calls nd _ u P (h.ext hu) hk)
  have HUA := Lib.hid hua
  have HNB := Lib.hid (new_at w (.cells #[.int .i64 xo, .slice xn1 xn2 xn3, .int .i64 xs, .int .i64 xm, .int .i64 xq, .slice xl1 xl2 xl3] 25))
  clear h hua hin
  by_cases h1 : formF nameF nd = 0
  · have HF : Hid (checkF nameF nd = greatF nd) := Lib.hid (by unfold checkF; rw [h1]; rfl)
    rw [HF.out]
    rw [h1] at HS
    clear h1
    go_enter Tryz.func13, Tryz.ntmps13
    go_wp2_with fail
    refine (HS.out _ HUA.out).mono ?_
    rintro e w5 ⟨rfl, hu5⟩
    have HU5 := Lib.hid (HUA.out.trans_ext hu5)
    have hb5 := hu5.at HNB.out (by simp)
    obtain ⟨y0, y1, y2, y3, y4, y5⟩ := cells6 hb5
    clear hu5 hb5
    go_wp2_with fail
    refine (HD.out _ HU5.out).mono ?_
    rintro e w6 ⟨rfl, hu6⟩
    have HU6 := Lib.hid (HU5.out.trans_ext hu6)
    clear hu6
    go_wp2_with fail
    go_ret
    exact ⟨rfl, HU6.out⟩
  · have HF : Hid (checkF nameF nd = formF nameF nd) := Lib.hid (by unfold checkF; rw [if_pos h1])
    rw [HF.out]
    generalize hfx : formF nameF nd = fx at *
    have ez : ((fx : Int) == 0) = false := by rw [beq_eq_false_iff_ne]; omega
    have ez2 : ((fx : Int) != 0) = true := by rw [bne, ez]; rfl
    clear hfx h1
    go_enter Tryz.func13, Tryz.ntmps13
    go_wp2_with fail
    refine (HS.out _ HUA.out).mono ?_
    rintro e w5 ⟨rfl, hu5⟩
    have HU5 := Lib.hid (HUA.out.trans_ext hu5)
    clear hu5
    go_wp2_with fail
    go_ret
    exact ⟨rfl, HU5.out⟩

end Go.Proofs.YtbnebkkpmcjmbaaGreatDoor


namespace Go.Proofs.YtbnebkkpmcjmbaaGreatDoor
open Go.RowKit Go.PL Go.Maps
open Go.ChangeShapes Go.WideShapes Go.ChangeAt Go.Deep

/-- the words of the printer, by operation -/
def pwordL : List (List UInt8) := [[], [], [61], [105, 110], [115, 117, 98], [97, 100, 106], [111, 110], [], [], [], [], [110, 111, 116], [97, 110, 100], [111, 114], [105, 109, 112, 108, 105, 101, 115], [105, 102, 102], [115, 111, 109, 101], [101, 118, 101, 114, 121]]
def tightL : List Int := [0, 0, 0, 0, 0, 0, 0, 0, 0, 0, 0, 5, 4, 3, 2, 1, 5, 5]
/-- the table of forms: names at least, at most, operands, whether it has a sort -/
structure FEnv (w : World) : Prop where
  at_ : ∀ k : Nat, k < 18 → w.cell? ⟨2, k * 4, none⟩ = some (.int .i64 ((hasF k).1 : Nat)) ∧ w.cell? ⟨2, k * 4 + 1, none⟩ = some (.int .i64 ((hasF k).2.1 : Nat)) ∧ w.cell? ⟨2, k * 4 + 2, none⟩ = some (.int .i64 ((hasF k).2.2 : Nat)) ∧ w.cell? ⟨2, k * 4 + 3, none⟩ = some (.bool (decide (16 ≤ k)))
structure PEnv (w : World) : Prop where
  word : ∀ (k : Nat) x, pwordL[k]? = some x → w.cell? ⟨1, k, none⟩ = some (.string ⟨x.toArray⟩)
  tight : ∀ (k : Nat) x, tightL[k]? = some x → w.cell? ⟨3, k, none⟩ = some (.int .i64 x)
theorem FEnv.ext {w w' : World} (h : FEnv w) (hu : Upto [] w w') : FEnv w' := ⟨fun k hk => by
  obtain ⟨h0, h1, h2, h3⟩ := h.at_ k hk
  have up : ∀ {p : Addr} {u : Value}, w.cell? p = some u → w'.cell? p = some u := fun hp => (hu.cell (World.block_lt_of_cell? w _ hp) (by simp)).trans hp
  exact ⟨up h0, up h1, up h2, up h3⟩⟩
theorem PEnv.ext {w w' : World} (h : PEnv w) (hu : Upto [] w w') : PEnv w' := by
  have up : ∀ {p : Addr} {u : Value}, w.cell? p = some u → w'.cell? p = some u := fun hp => (hu.cell (World.block_lt_of_cell? w _ hp) (by simp)).trans hp
  exact ⟨fun k x h1 => up (h.word k x h1), fun k x h1 => up (h.tight k x h1)⟩

set_option maxRecDepth 100000 in
theorem str_of {H : Type} {enc : TypeId × Value → H} {W : World} {sp : Nat → Bool} {held : Bool} {m : Nat} {v : Value} {bs : List UInt8} {p : List MemPlace} {b : Nat} (h : DataW.trod enc Tryz.prog W b sp held m 9 [v] = some (.lit (.string bs), p)) : v = .string ⟨bs.toArray⟩ := by
  obtain ⟨s, h1, h2, -⟩ := DataW.trod_string Tryz.underlying9 h
  obtain rfl : v = .string s := by simpa using h1
  have h3 : bs = s.data.toList := by simpa using (congrArg Prod.fst h2)
  cases s
  rw [h3]
theorem int_of {H : Type} {enc : TypeId × Value → H} {W : World} {sp : Nat → Bool} {held : Bool} {m : Nat} {v : Value} {k : Int} {p : List MemPlace} {b : Nat} (h : DataW.trod enc Tryz.prog W b sp held m 3 [v] = some (.lit (.int .i64 k), p)) : v = .int .i64 k := by
  obtain ⟨s, h1, h2, -⟩ := DataW.trod_int Tryz.underlying3 h
  obtain rfl : v = .int .i64 s := by simpa using h1
  have h3 : k = s := by simpa using (congrArg Prod.fst h2)
  rw [h3]
theorem bool_of {H : Type} {enc : TypeId × Value → H} {W : World} {sp : Nat → Bool} {held : Bool} {m : Nat} {v : Value} {k : Bool} {p : List MemPlace} {b : Nat} (h : DataW.trod enc Tryz.prog W b sp held m 4 [v] = some (.lit (.bool k), p)) : v = .bool k := by
  obtain ⟨s, h1, h2⟩ := DataW.trod_bool Tryz.underlying4 h
  obtain rfl : v = .bool s := by simpa using h1
  have h3 : k = s := by simpa using (congrArg Prod.fst h2)
  rw [h3]
/-- what a listed array of n elements, z cells each, holds -/
theorem arr_of {W : World} {L : List (String × DataW Unit)} {name : String} {ds : List (DataW Unit)} {g t e n z : Nat} (hg' : Tryz.prog.globalNamed name = some g) (ht' : (Tryz.prog.globals[g]?).map (·.type) = some t) (hu : Tryz.prog.underlying t = some (.array n e)) (hz : Tryz.prog.cellsOf e = z) (hc : Tryz.prog.cellsOf t = n * z)
    (h : laidMet Tryz.prog L W) (hf : L.filter (fun x => x.1 == name) = [(name, .agg ds)]) : ∃ cs : Array Value, (∀ i, W.cell? ⟨g, i, none⟩ = cs[i]?) ∧ cs.size = n * z ∧ ∀ i d, ds[i]? = some d → ∃ (enc : TypeId × Value → Unit) (b : Nat) (sp : Nat → Bool) (held : Bool) (m : Nat) (p : List MemPlace), DataW.trod enc Tryz.prog W b sp held m e ((cs.toList.drop (i * z)).take z) = some (d, p) := by
  have h1 := h.filter (fun x => x.1 == name)
  rw [hf] at h1
  obtain ⟨ps, ⟨g, t, cs, fuel, p, q, hg, ht, hvar, hd, _, _⟩, _⟩ := h1
  obtain rfl := Option.some.inj (hg'.symm.trans hg)
  obtain rfl := Option.some.inj (ht'.symm.trans ht)
  obtain ⟨xs, m, _, hx, hlen, hxl, hxi⟩ := DataW.trod_array hu hd
  rw [hc] at hlen
  rw [hz] at hxi
  refine ⟨cs, World.var?_cell hg hvar, by simpa using hlen, fun i d hi => ?_⟩
  have h2 := (Prod.mk.inj hx).1
  have h3 : ds = xs.map (·.1) := DataW.agg.inj h2
  rw [h3, List.getElem?_map] at hi
  cases hq : xs[i]? with
  | none => rw [hq] at hi; cases hi
  | some y =>
    rw [hq] at hi
    have hin : i < n := by
      have := (List.getElem?_eq_some_iff.1 hq).1
      omega
    have h4 := hxi i hin
    rw [hq] at h4
    obtain ⟨y1, y2⟩ := y
    have : y1 = d := by simpa using hi
    subst this
    exact ⟨_, _, _, _, _, y2, h4⟩
theorem take_one {α : Type} (l : List α) (i : Nat) (v : α) (h : l[i]? = some v) : (l.drop (i * 1)).take 1 = [v] := by
  rw [Nat.mul_one]
  obtain ⟨hl, rfl⟩ := List.getElem?_eq_some_iff.1 h
  rw [List.drop_eq_getElem_cons hl]
  rfl
theorem one_at {W : World} {g n : Nat} {cs : Array Value} {i : Nat} {_R : Value → Prop} {u : Value} (h1 : ∀ i, W.cell? ⟨g, i, none⟩ = cs[i]?) (h2 : cs.size = n * 1) (hi : i < n) (h3 : ∀ v, (cs.toList.drop (i * 1)).take 1 = [v] → v = u) : W.cell? ⟨g, i, none⟩ = some u := by
  have hil : i < cs.toList.length := by simp; omega
  have := h3 cs.toList[i] (take_one _ _ _ (List.getElem?_eq_getElem hil))
  rw [h1 i, ← this]
  simp at hil
  simp [hil]
section
variable {W : World} {L : List (String × DataW Unit)}
set_option maxRecDepth 100000 in
theorem senv_of (h : laidMet Tryz.prog L W) (hf : L.filter (fun x => x.1 == "palmette/formula.sorts") = [("palmette/formula.sorts", Rows.laid_palmette_formula_sorts)]) : SEnv W := by
  obtain ⟨cs, h1, h2, h3⟩ := arr_of (g := 0) (t := 126) (n := 4) (e := 9) (z := 1) (by kernel_rfl) (by kernel_rfl) Tryz.underlying126 (by kernel_rfl) (by kernel_rfl) h hf
  have key : ∀ (i : Nat) (bs : List UInt8), i < 4 → ([.lit (.string [118, 101, 114, 116, 101, 120]), .lit (.string [101, 100, 103, 101]), .lit (.string [115, 101, 116]), .lit (.string [101, 100, 103, 101, 115])] : List (DataW Unit))[i]? = some (.lit (.string bs)) → W.cell? ⟨0, i, none⟩ = some (.string ⟨bs.toArray⟩) := by
    intro i bs hi hb
    obtain ⟨enc, b0, sp, held, m, p, h4⟩ := h3 i _ hb
    exact one_at (_R := fun _ => True) h1 h2 hi (fun v hv => by rw [hv] at h4; exact str_of h4)
  exact ⟨key 0 _ (by omega) rfl, key 1 _ (by omega) rfl, key 2 _ (by omega) rfl, key 3 _ (by omega) rfl⟩
set_option maxRecDepth 100000 in
theorem env_of (h : laidMet Tryz.prog L W) (hf : L.filter (fun x => x.1 == "strings.asciiSpace") = [("strings.asciiSpace", Lib.tabData .u8 Lib.asciiSpaceTab)]) (hf2 : L.filter (fun x => x.1 == "strconv.ErrRange") = [("strconv.ErrRange", Rows.laid_strconv_ErrRange)]) : Env W := by
  refine ⟨?_, ?_⟩
  · have h1 := h.filter (fun x => x.1 == "strings.asciiSpace")
    rw [hf] at h1
    exact Lib.tabIs_of_head (g := 4) (by kernel_rfl) (by kernel_rfl) (t := 166) Tryz.underlying166 Tryz.underlying5 (by kernel_rfl) (by kernel_rfl) h1
  · have h1 := h.filter (fun x => x.1 == "strconv.ErrRange")
    rw [hf2] at h1
    obtain ⟨ps, ⟨g, t, cs, fuel, p, q, hg, ht, hvar, hd, _, _⟩, _⟩ := h1
    obtain rfl : g = 10 := (Option.some.inj ((show Tryz.prog.globalNamed "strconv.ErrRange" = some 10 by kernel_rfl).symm.trans hg)).symm
    obtain rfl : t = 162 := (Option.some.inj ((show (Tryz.prog.globals[10]?).map (·.type) = some 162 by kernel_rfl).symm.trans ht)).symm
    obtain ⟨f, u, v, hcs, -, -⟩ := iface_of_trod Tryz.underlying162 hd
    refine ⟨u, v, ?_⟩
    have := World.var?_cell hg hvar 0
    rw [this]
    have h2 : cs = #[.iface u v] := by cases cs; simp_all
    rw [h2]
    rfl
set_option maxRecDepth 100000 in
theorem fenv_of (h : laidMet Tryz.prog L W) (hf : L.filter (fun x => x.1 == "palmette/formula.forms") = [("palmette/formula.forms", Rows.laid_palmette_formula_forms)]) : FEnv W := by
  obtain ⟨cs, h1, h2, h3⟩ := arr_of (g := 2) (t := 137) (n := 18) (e := 136) (z := 4) (by kernel_rfl) (by kernel_rfl) Tryz.underlying137 (by kernel_rfl) (by kernel_rfl) h hf
  refine ⟨fun k hk => ?_⟩
  obtain ⟨ds, hds, hfm⟩ : ∃ ds : List (DataW Unit), Rows.laid_palmette_formula_forms = .agg ds ∧ ∀ k < 18, ds[k]? = some (.agg [.lit (.int .i64 ((hasF k).1 : Nat)), .lit (.int .i64 ((hasF k).2.1 : Nat)), .lit (.int .i64 ((hasF k).2.2 : Nat)), .lit (.bool (decide (16 ≤ k)))]) := by
    refine ⟨_, rfl, fun k hk => ?_⟩
    have hk18 : k = 0 ∨ k = 1 ∨ k = 2 ∨ k = 3 ∨ k = 4 ∨ k = 5 ∨ k = 6 ∨ k = 7 ∨ k = 8 ∨ k = 9 ∨ k = 10 ∨ k = 11 ∨ k = 12 ∨ k = 13 ∨ k = 14 ∨ k = 15 ∨ k = 16 ∨ k = 17 := by omega
    rcases hk18 with rfl | rfl | rfl | rfl | rfl | rfl | rfl | rfl | rfl | rfl | rfl | rfl | rfl | rfl | rfl | rfl | rfl | rfl <;> rfl
  obtain ⟨enc, b0, sp, held, m, p, h4⟩ := h3 k _ (by
    have := hfm k hk
    unfold Rows.laid_palmette_formula_forms at hds
    rw [← DataW.agg.inj hds] at this
    exact this)
  have hl : (cs.toList.drop (k * 4)).length ≥ 4 := by simp; omega
  obtain ⟨a, b, c, d, r, hr⟩ : ∃ a b c d r, cs.toList.drop (k * 4) = a :: b :: c :: d :: r := by
    match cs.toList.drop (k * 4), hl with
    | a :: b :: c :: d :: r, _ => exact ⟨a, b, c, d, r, rfl⟩
  rw [hr] at h4
  obtain ⟨xs, n, rfl, hx, _, hlen, hfi⟩ := DataW.trod_struct Tryz.underlying136 h4
  match xs, hlen with
  | [y0, y1, y2, y3], _ =>
    have f0 := hfi 0 { name := "names", type := 3, offset := 0, embedded := false, tag := "", pkgPath := "palmette/formula", byteOffset := 0 } rfl
    have f1 := hfi 1 { name := "more", type := 3, offset := 1, embedded := false, tag := "", pkgPath := "palmette/formula", byteOffset := 8 } rfl
    have f2 := hfi 2 { name := "nodes", type := 3, offset := 2, embedded := false, tag := "", pkgPath := "palmette/formula", byteOffset := 16 } rfl
    have f3 := hfi 3 { name := "sort", type := 4, offset := 3, embedded := false, tag := "", pkgPath := "palmette/formula", byteOffset := 24 } rfl
    simp only [show Tryz.prog.cellsOf 3 = 1 by kernel_rfl, show Tryz.prog.cellsOf 4 = 1 by kernel_rfl] at f0 f1 f2 f3
    simp at f0 f1 f2 f3
    have hx1 := congrArg Prod.fst hx
    simp only [List.map_cons, List.map_nil, DataW.agg.injEq, List.cons.injEq, and_true] at hx1
    obtain ⟨z0, z1, z2, z3⟩ := hx1
    obtain ⟨y0, q0⟩ := y0
    obtain ⟨y1, q1⟩ := y1
    obtain ⟨y2, q2⟩ := y2
    obtain ⟨y3, q3⟩ := y3
    simp only at z0 z1 z2 z3
    subst z0 z1 z2 z3
    have e0 := int_of f0
    have e1 := int_of f1
    have e2 := int_of f2
    have e3 := bool_of f3
    have at_ : ∀ j v, (cs.toList.drop (k * 4))[j]? = some v → W.cell? ⟨2, k * 4 + j, none⟩ = some v := by
      intro j v hj
      rw [List.getElem?_drop] at hj
      rw [h1]
      simpa using hj
    rw [hr] at at_
    exact ⟨by rw [← e0]; exact at_ 0 a rfl, by rw [← e1]; exact at_ 1 b rfl, by rw [← e2]; exact at_ 2 c rfl, by rw [← e3]; exact at_ 3 d rfl⟩
end
end Go.Proofs.YtbnebkkpmcjmbaaGreatDoor

