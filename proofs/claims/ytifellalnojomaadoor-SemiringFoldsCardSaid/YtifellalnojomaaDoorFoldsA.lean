/- SemiringFolds: what the two lists of numbers hold. -/
import Derived.Test.YtifellalnojomaaDoorMult
namespace Go.Proofs.YtifellalnojomaaDoor
open Go.RowKit Go.PL Go.Maps

/-- a number as a slice, its words from the head of a block -/
def Elem (w : World) (v : Value) (k : Nat) : Prop := ∃ g c, v = .slice (some ⟨g, 0, none⟩) (W32 k).length c ∧ NumS w (some ⟨g, 0, none⟩) c k
theorem Elem.ext {w w' : World} {v : Value} {k : Nat} (h : Elem w v k) (hu : Upto [] w w') : Elem w' v k := by
  obtain ⟨g, c, h1, h2⟩ := h
  exact ⟨g, c, h1, h2.ext hu⟩
/-- it stays if what is written lies in a block whose first cell is no word -/
theorem Elem.set {w w' : World} {v : Value} {k B : Nat} {x : Value} (h : Elem w v k) (hu : Upto [B] w w') (hB : w.cell? ⟨B, 0, none⟩ = some x) (hx : ∀ m, x ≠ uv m) : Elem w' v k := by
  obtain ⟨g, c, h1, h2⟩ := h
  refine ⟨g, c, h1, ?_⟩
  rcases h2 with h0 | ⟨g', o, c', hs, hc⟩
  · exact Or.inl h0
  · refine Or.inr ⟨g', o, c', hs, fun j u hj => ?_⟩
    simp at hs
    obtain ⟨⟨rfl, rfl⟩, rfl⟩ := hs
    have h3 := hc j u hj
    have hne : g ≠ B := by
      rintro rfl
      cases hl : (W32 k) with
      | nil => rw [hl] at hj; simp at hj
      | cons y ys =>
        have h4 := hc 0 (uv y) (by rw [hl]; rfl)
        rw [Nat.add_zero, hB] at h4
        exact hx y (Option.some.inj h4)
    exact (hu.cell (p := ⟨g, 0 + j, none⟩) (World.block_lt_of_cell? w _ h3) (by simpa using hne)).trans h3

/-- values and the numbers that they are, one by one -/
inductive Elems (w : World) : List Value → List Nat → Prop
  | nil : Elems w [] []
  | cons {v k vs ks} : Elem w v k → Elems w vs ks → Elems w (v :: vs) (k :: ks)
theorem Elems.len {w : World} : ∀ {vs : List Value} {ks : List Nat}, Elems w vs ks → vs.length = ks.length
  | _, _, .nil => rfl
  | _, _, .cons _ h => by rw [List.length_cons, List.length_cons, h.len]
theorem Elems.imp {w w' : World} (h : ∀ v k, Elem w v k → Elem w' v k) : ∀ {vs : List Value} {ks : List Nat}, Elems w vs ks → Elems w' vs ks
  | _, _, .nil => .nil
  | _, _, .cons h1 h2 => .cons (h _ _ h1) (h2.imp h)
theorem Elems.snoc {w : World} {v : Value} {k : Nat} (h : Elem w v k) : ∀ {vs : List Value} {ks : List Nat}, Elems w vs ks → Elems w (vs ++ [v]) (ks ++ [k])
  | _, _, .nil => .cons h .nil
  | _, _, .cons h1 h2 => .cons h1 (h2.snoc h)
theorem Elems.get {w : World} : ∀ {vs : List Value} {ks : List Nat}, Elems w vs ks → ∀ (j : Nat) (k : Nat), ks[j]? = some k → ∃ v, vs[j]? = some v ∧ Elem w v k
  | _, _, .nil, j, k, h => by simp at h
  | _, _, .cons h1 h2, 0, k, h => by simp at h; subst h; exact ⟨_, rfl, h1⟩
  | _, _, .cons h1 h2, j + 1, k, h => by simpa using h2.get j k (by simpa using h)

theorem elems_one {w : World} {vs : List Value} {ks : List Nat} (h : Elems w vs ks) : ∀ u ∈ vs, u.oneCell' = true := by
  induction h with
  | nil => intro u hu; cases hu
  | cons h1 _ ih =>
    intro u hu
    rcases List.mem_cons.1 hu with rfl | hu
    · obtain ⟨g, c, rfl, _⟩ := h1
      rfl
    · exact ih u hu

def prodN (l : List Nat) : Nat := l.foldr (fun a b => a * b) 1
theorem prodN_append (a b : List Nat) : prodN (a ++ b) = prodN a * prodN b := by
  induction a with
  | nil => simp [prodN]
  | cons x a ih => simp only [List.cons_append, prodN, List.foldr_cons] at *; rw [ih, Nat.mul_assoc]
theorem prodN_reverse (a : List Nat) : prodN a.reverse = prodN a := by
  induction a with
  | nil => rfl
  | cons x a ih => rw [List.reverse_cons, prodN_append, ih]; simp [prodN, Nat.mul_comm]
theorem sum_reverse (a : List Nat) : a.reverse.sum = a.sum := by
  induction a with
  | nil => rfl
  | cons x a ih => rw [List.reverse_cons, List.sum_append, ih]; simp [Nat.add_comm]
theorem sum_le (l : List Nat) (m : Nat) (h : ∀ x ∈ l, x ≤ m) : l.sum ≤ l.length * m := by
  induction l with
  | nil => simp
  | cons x l ih =>
    have h1 := h x (by simp)
    have h2 := ih (fun y hy => h y (by simp [hy]))
    rw [List.sum_cons, List.length_cons, Nat.add_mul]
    omega
theorem prodN_lt (l : List Nat) (h : ∀ x ∈ l, x < 65536) : prodN l < 4294967296 ^ (2 * (l.length + 1)) := by
  induction l with
  | nil => simp [prodN]
  | cons x l ih =>
    have h1 := h x (by simp)
    have h2 := ih (fun y hy => h y (by simp [hy]))
    have := pow_mul_lt (i := 1) (j := l.length + 1) (x := x) (y := prodN l) (by omega) h2
    rw [List.length_cons, show 2 * (l.length + 1 + 1) = 2 * (1 + (l.length + 1)) by omega]
    exact this
theorem take_snoc (ks : List Nat) (i : Nat) (h : i < ks.length) : ks.take (i + 1) = ks.take i ++ [ks[i]] := List.take_succ_eq_append_getElem h

/-- what the first loop has laid: the sum of the first i7, the product of the first i8, the first i9 in one slice, the first i10 backwards in another -/
structure FoldSt (B8 : Nat) (W0 : World) (ks : List Nat) (i8 i9 i10 : Nat) (t9 t10 : Value) (wr : World) : Prop where
  up : Upto [B8] W0 wr
  lt : B8 < W0.heap.size
  pr : ∃ v, wr.heap[B8]? = some (.cells #[v] 45) ∧ Elem wr v (prodN (ks.take i8))
  xs : ∃ xa xc L, t9 = .slice xa i9 xc ∧ wr.ownsRow 0 45 1 (.slice xa i9 xc) i9 L ∧ Elems wr L (ks.take i9) ∧ (∀ g, (Value.slice xa i9 xc).ownBlock = some g → W0.heap.size ≤ g) ∧ (i9 = 0 → xa = none)
  ys : ∃ ya yc M, t10 = .slice ya i10 yc ∧ SlC wr (.slice ya i10 yc) M ∧ M.length = i10 ∧ Elems wr M (ks.take i10).reverse ∧ ∀ g o, ya = some ⟨g, o, none⟩ → W0.heap.size ≤ g ∧ g < wr.heap.size ∧ t9.ownBlock ≠ some g

theorem elem_first {w : World} {v : Value} {k : Nat} (h : Elem w v k) : ∀ m, v ≠ uv m := by
  obtain ⟨g, c, rfl, _⟩ := h
  intro m
  simp [uv]

theorem FoldSt.ext {B8 : Nat} {W0 : World} {ks : List Nat} {i8 i9 i10 : Nat} {t9 t10 : Value} {w w' : World} (h : FoldSt B8 W0 ks i8 i9 i10 t9 t10 w) (hu : Upto [] w w') : FoldSt B8 W0 ks i8 i9 i10 t9 t10 w' := by
  obtain ⟨h1, h2, ⟨v, h3, h4⟩, ⟨xa, xc, L, h5, h6, h7, h8, h8b⟩, ya, yc, M, h9, h10, h11, h12, h13⟩ := h
  exact ⟨h1.trans_ext hu, h2, ⟨v, hu.at h3 (by simp), h4.ext hu⟩, ⟨xa, xc, L, h5, ownsRow_upto h6 hu (by simp), h7.imp fun _ _ h => h.ext hu, h8, h8b⟩, ya, yc, M, h9, h10.ext hu, h11, h12.imp fun _ _ h => h.ext hu, fun g o e => ⟨(h13 g o e).1, Nat.lt_of_lt_of_le (h13 g o e).2.1 hu.size, (h13 g o e).2.2⟩⟩

/-- the product's variable is written -/
theorem FoldSt.prod {B8 : Nat} {W0 : World} {ks : List Nat} {i8 i9 i10 : Nat} {t9 t10 : Value} {w : World} (h : FoldSt B8 W0 ks i8 i9 i10 t9 t10 w) {i : Nat} {v' : Value} (hv : Elem w v' (prodN (ks.take i))) : FoldSt B8 W0 ks i i9 i10 t9 t10 (w.setCell ⟨B8, 0, none⟩ v') := by
  obtain ⟨h1, h2, ⟨v, h3, h4⟩, ⟨xa, xc, L, h5, h6, h7, h8, h8b⟩, ya, yc, M, h9, h10, h11, h12, h13⟩ := h
  have hu : Upto [B8] w (w.setCell ⟨B8, 0, none⟩ v') := (Upto.refl _ w).setCell (Or.inl (by simp)) _
  have hc : w.cell? ⟨B8, 0, none⟩ = some v := by simpa using cell_of h3 0
  have hx := elem_first h4
  refine ⟨h1.trans_same hu, h2, ⟨v', by simpa using set_same h3 0 v', hv.set hu hc hx⟩, ⟨xa, xc, L, h5, ownsRow_upto h6 hu ?_, h7.imp fun _ _ h => h.set hu hc hx, h8, h8b⟩, ya, yc, M, h9, h10.upto hu ?_, h11, h12.imp fun _ _ h => h.set hu hc hx, fun g o e => ⟨(h13 g o e).1, Nat.lt_of_lt_of_le (h13 g o e).2.1 hu.size, (h13 g o e).2.2⟩⟩
  · intro g hg
    have := h8 g hg
    simp
    omega
  · intro g o n c e _
    have := (h13 g o (by simp at e; exact e.1)).1
    simp
    omega

/-- one more in the first slice -/
theorem FoldSt.app9 {B8 : Nat} {W0 : World} {ks : List Nat} {i8 i9 i10 : Nat} {xa : Option Addr} {xc : Nat} {t10 : Value} {w w' : World} (h : FoldSt B8 W0 ks i8 i9 i10 (.slice xa i9 xc) t10 w) {L : List Value} (hro : w.ownsRow 0 45 1 (.slice xa i9 xc) i9 L) (hL : Elems w L (ks.take i9)) {xk : Nat} (hk : ks.take (i9 + 1) = ks.take i9 ++ [xk]) {v : Value} (hv : Elem w v xk)
    {qa : Option Addr} {qc : Nat} (ho : w'.ownsRow 0 45 1 (.slice qa (i9 + 1) qc) (i9 + 1) (L ++ [v])) (hu : Upto (Value.slice xa i9 xc).ownBlock.toList w w') (hw : ∀ g, (Value.slice qa (i9 + 1) qc).ownBlock = some g → (Value.slice xa i9 xc).ownBlock = some g ∨ w.heap.size ≤ g) : FoldSt B8 W0 ks i8 (i9 + 1) i10 (.slice qa (i9 + 1) qc) t10 w' := by
  obtain ⟨h1, h2, ⟨v0, h3, h4⟩, ⟨xa', xc', L', h5, h6, h7, h8, h8b⟩, ya, yc, M, h9, h10, h11, h12, h13⟩ := h
  cases h5
  have hel : ∀ v k, Elem w v k → Elem w' v k := by
    intro v k he
    cases ho' : (Value.slice xa i9 xc).ownBlock with
    | none => rw [ho'] at hu; exact he.ext hu
    | some B =>
      rw [ho'] at hu
      rcases hro.2 with ⟨hn, rfl⟩ | ⟨g, cap, cur, hs, _, hh, hnc, _, _, htk⟩
      · cases hn; cases ho'
      · cases hs
        cases ho'
        cases hi : i9 with
        | zero =>
          have := h8b hi
          cases this
        | succ n =>
          subst hi
          cases hL' : L with
          | nil =>
            have := hro.1
            rw [hL'] at this
            simp at this
          | cons y ys =>
            subst hL'
            have hg : ∃ k, (ks.take (n + 1))[0]? = some k := by
              cases hq : ks.take (n + 1) with
              | nil => rw [hq] at hL; cases hL
              | cons a1 a2 => exact ⟨a1, rfl⟩
            obtain ⟨k0, hk0⟩ := hg
            obtain ⟨y', hy1, hy2⟩ := hL.get 0 k0 hk0
            cases hy1
            have hc : w.cell? ⟨g, 0, none⟩ = some y := by
              rw [cell_of hh 0]
              have h0 : (cur.toList.take ((n + 1) * 1))[0]? = some y := by rw [htk]; rfl
              rw [List.getElem?_take] at h0
              simpa using h0
            exact he.set (by simpa using hu) hc (elem_first hy2)
  refine ⟨h1.trans hu (fun k hk => Or.inr (h8 k (by simpa using hk))), h2, ⟨v0, hu.at h3 (fun hm => by have := h8 B8 (by simpa using hm); omega), hel _ _ h4⟩, ⟨qa, qc, L ++ [v], rfl, ho, by rw [hk]; exact (hL.imp hel).snoc (hel _ _ hv), fun g hg => (hw g hg).elim (h8 g) (fun h => Nat.le_trans h1.size h), by omega⟩, ya, yc, M, h9, h10.upto hu ?_, h11, h12.imp hel, fun g o e => ⟨(h13 g o e).1, Nat.lt_of_lt_of_le (h13 g o e).2.1 hu.size, fun hq => (hw g hq).elim (h13 g o e).2.2 (fun h => by have := (h13 g o e).2.1; omega)⟩⟩
  intro g o n c e _ hm
  exact (h13 g o (by simp at e; exact e.1)).2.2 (by simpa using hm)

/-- one more at the head of the second slice -/
theorem FoldSt.app10 {B8 : Nat} {W0 : World} {ks : List Nat} {i8 i9 i10 : Nat} {t9 : Value} {ya : Option Addr} {yc : Nat} {w w' : World} (h : FoldSt B8 W0 ks i8 i9 i10 t9 (.slice ya i10 yc) w) (hu : Upto [] w w') {M : List Value} (hM : Elems w M (ks.take i10).reverse) {xk : Nat} (hk : ks.take (i10 + 1) = ks.take i10 ++ [xk]) {v : Value} (hv : Elem w' v xk)
    {qa : Option Addr} {qc n : Nat} (hn : n = i10 + 1) (ho : SlC w' (.slice qa n qc) (v :: M)) (hw : ∀ g o, qa = some ⟨g, o, none⟩ → w.heap.size ≤ g ∧ g < w'.heap.size) : FoldSt B8 W0 ks i8 i9 (i10 + 1) t9 (.slice qa n qc) w' := by
  subst hn
  have h' := h.ext hu
  obtain ⟨h1, h2, h3, ⟨xa, xc, L, h5, h6, h7, h8, h8b⟩, ya', yc', M', h9, h10, h11, h12, h13⟩ := h'
  cases h9
  refine ⟨h1, h2, h3, ⟨xa, xc, L, h5, h6, h7, h8, h8b⟩, qa, qc, v :: M, rfl, ho, ?_, ?_, fun g o e => ⟨Nat.le_trans h.up.size (hw g o e).1, (hw g o e).2, fun hq => ?_⟩⟩
  · rw [List.length_cons]
    have e1 := hM.len
    have e2 := h12.len
    rw [List.length_reverse] at e1 e2
    rw [e1, ← e2, h11]
  · rw [hk, List.reverse_append, List.reverse_singleton, List.singleton_append]
    exact .cons hv (hM.imp fun _ _ h => h.ext hu)
  · obtain ⟨h1', h2', h3', ⟨xa', xc', L', h5', h6', h7', h8', h8b'⟩, _⟩ := h
    rw [h5'] at hq
    obtain ⟨cur, hh⟩ := ownsRow_block h6' hq
    have := lt_of_heap hh
    have := (hw g o e).1
    omega
end Go.Proofs.YtifellalnojomaaDoor
