/- Opening an argument of the type []Token. -/
import Derived.Test.YtkhbpebpljdifaaDoorOpen
import Derived.Test.YtkhbpebpljdifaaDoorJoinA
import Derived.Deep.Slices
namespace Go.Proofs.YtkhbpebpljdifaaDoor
open Go.ChangeShapes Go.WideShapes Go.ChangeAt Go.RowKit Go.PL Go.Deep

instance : Inhabited ITok := ⟨⟨0, [], 0, 0, 0⟩⟩
theorem pos_cells {H : Type} {enc : TypeId × Value → H} {W : World} {fuel : Nat} {a b : Value} {x : DataW H × List MemPlace} (h : DataW.trod enc Tryd.prog W 0 (fun _ => true) true fuel 24 [a, b] = some x) : ∃ k m, a = .int .i64 k ∧ b = .int .i64 m := by
  obtain ⟨y0, y1, m', -, hl, e0, e1⟩ := trod_struct2 Tryd.underlying24 h
  simp only [show Tryd.prog.cellsOf 3 = 1 by kernel_rfl] at e0 e1
  simp at e0 e1
  obtain ⟨y, hy, -⟩ := DataW.trod_int Tryd.underlying3 e0
  obtain ⟨z, hz, -⟩ := DataW.trod_int Tryd.underlying3 e1
  simp at hy hz
  exact ⟨y, z, hy, hz⟩
set_option maxRecDepth 100000 in
theorem tok_cellsR {H : Type} {enc : TypeId × Value → H} {W : World} {fuel : Nat} {cs : List Value} {x : DataW H × List MemPlace} (hl : cs.length = 5) (h : DataW.trod enc Tryd.prog W 0 (fun _ => true) true fuel 36 cs = some x) : ∃ t : ITok, cs = itC t := by
  obtain ⟨xs, n, _, _, _, hlen, hf⟩ := DataW.trod_struct Tryd.underlying36 h
  match cs, hl with
  | [a, b, c, d, e], _ =>
    match xs, hlen with
    | [y0, y1, y2, y3], _ =>
      have f0 := hf 0 { name := "Kind", type := 3, offset := 0, embedded := false, tag := "", pkgPath := "", byteOffset := 0 } rfl
      have f1 := hf 1 { name := "Text", type := 9, offset := 1, embedded := false, tag := "", pkgPath := "", byteOffset := 8 } rfl
      have f2 := hf 2 { name := "Value", type := 3, offset := 2, embedded := false, tag := "", pkgPath := "", byteOffset := 24 } rfl
      have f3 := hf 3 { name := "Pos", type := 24, offset := 3, embedded := false, tag := "", pkgPath := "", byteOffset := 32 } rfl
      simp only [show Tryd.prog.cellsOf 3 = 1 by kernel_rfl, show Tryd.prog.cellsOf 9 = 1 by kernel_rfl, show Tryd.prog.cellsOf 24 = 2 by kernel_rfl] at f0 f1 f2 f3
      simp at f0 f1 f2 f3
      obtain ⟨k, hk, -⟩ := DataW.trod_int Tryd.underlying3 f0
      obtain ⟨s, hs, -⟩ := DataW.trod_string Tryd.underlying9 f1
      obtain ⟨v, hv, -⟩ := DataW.trod_int Tryd.underlying3 f2
      obtain ⟨l, m, hl, hm⟩ := pos_cells f3
      simp at hk hs hv
      refine ⟨⟨k, s.data.toList, v, l, m⟩, ?_⟩
      rw [hk, hs, hv, hl, hm]
      rfl
theorem open_toks {H : Type} {enc : TypeId × Value → H} {W : World} {v : Value} {d : DataW H} {ps : List MemPlace} (hv : ∃ a n c, v = .slice a n c) (h : DataW.Trod enc Tryd.prog W 0 (fun _ => true) true 22 v d ps) :
    ∃ ts : List ITok, IToks W v ts ∧ ∃ a c, v = .slice a ts.length c ∧ ts.length ≤ c ∧ c ≤ maxLen := by
  obtain ⟨a, n, c, rfl⟩ := hv
  obtain ⟨fuel, hf⟩ := h
  simp only [Value.cells, List.toList_toArray] at hf
  rcases open_slice Tryd.underlying22 hf with ⟨hcs, _⟩ | ⟨ad, len, cap, m, n', D, Pl, hcs, _, hl, hm, hmm, hx, hcell⟩
  · simp at hcs
    obtain ⟨rfl, rfl, rfl⟩ := hcs
    exact ⟨[], ⟨rfl, Or.inl ⟨rfl, none, 0, rfl⟩⟩, none, 0, rfl, by simp, by simp⟩
  · simp at hcs
    obtain ⟨rfl, rfl, rfl⟩ := hcs
    simp only [if_true] at hmm
    simp only [show Tryd.prog.cellsOf 36 = 5 by kernel_rfl] at hcell
    obtain ⟨f, hf'⟩ := choose_lt (α := ITok) (n := n) (p := fun i x => ∀ (j : Nat) u, (itC x)[j]? = some u → W.cell? ((ad.add (i * 5)).add j) = some u) (fun i hi => by
      obtain ⟨cs', h1, h2⟩ := hcell i (by omega)
      obtain ⟨_, hlen, hat⟩ := World.cells?_some h1
      obtain ⟨t, rfl⟩ := tok_cellsR hlen h2
      exact ⟨t, fun j u hj => (hat j (by have := (List.getElem?_eq_some_iff.1 hj).1; exact this)).trans hj⟩)
    have hlen : ((List.range n).map f).length = n := by simp
    have hfl : (((List.range n).map f).flatMap itC).length = n * 5 := by
      rw [List.length_flatMap]
      have : ∀ l : List ITok, (l.map fun t => (itC t).length).sum = l.length * 5 := fun l => by
        induction l with
        | nil => rfl
        | cons a l ih => rw [List.map_cons, List.sum_cons, ih, List.length_cons]; show 5 + _ = _; omega
      rw [this, hlen]
    refine ⟨(List.range n).map f, ⟨by rw [hfl, hlen], ?_⟩, some ad, c, by rw [hlen], by rw [hlen]; omega, by omega⟩
    rcases Nat.eq_zero_or_pos n with h0 | h0
    · subst h0
      exact Or.inl ⟨rfl, some ad, c, rfl⟩
    · obtain ⟨b, off, spot⟩ := ad
      have hspot : spot = none := by
        have := hf' 0 h0 0 _ rfl
        simpa [Addr.add] using World.cell?_spot this
      subst hspot
      refine Or.inr ⟨b, off, c, by rw [hlen], fun j u hj => ?_⟩
      have hj5 : j < n * 5 := by
        have := (List.getElem?_eq_some_iff.1 hj).1
        rwa [hfl] at this
      have hi : j / 5 < n := by omega
      have hti : ((List.range n).map f)[j / 5]? = some (f (j / 5)) := by
        rw [List.getElem?_map, List.getElem?_range hi]
        rfl
      have hr : j % 5 < 5 := Nat.mod_lt _ (by decide)
      have e : j = j / 5 * 5 + j % 5 := by omega
      have key := hf' (j / 5) hi (j % 5) u (by
        rw [← hj]
        conv => rhs; rw [e]
        exact (flatMap_at itC 5 (fun _ => rfl) _ _ _ _ hti hr).symm)
      simp only [Addr.add_lit] at key
      rw [Nat.add_assoc, ← e] at key
      exact key
end Go.Proofs.YtkhbpebpljdifaaDoor
