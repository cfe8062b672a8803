/- SemiringFolds: what the loop over the costs lays. -/
import Derived.Test.YtifellalnojomaaDoorFoldsB
namespace Go.Proofs.YtifellalnojomaaDoor
open Go.RowKit Go.PL Go.Maps

theorem addR_min' (a b : Bool × Int) : costO (addR false a b) = minO (costO a) (costO b) := by
  obtain ⟨k, n⟩ := a
  obtain ⟨k', n'⟩ := b
  cases k <;> cases k' <;> simp [addR, costO, minO]
  by_cases h : n' < n <;> simp [h] <;> omega

/-- a cost within i times the law's range -/
def Cost (i : Nat) (a : Bool × Int) (x : Option Int) : Prop := x = costO a ∧ (a.1 = true → -(1099511627776 * (i : Int)) ≤ a.2 ∧ a.2 ≤ 1099511627776 * (i : Int))
theorem Cost.right {a : Bool × Int} (h : rightF a = true) : Cost 1 a (costO a) := by
  obtain ⟨k, m⟩ := a
  refine ⟨rfl, fun hk => ?_⟩
  simp only at hk
  subst hk
  simp [rightF] at h
  simp
  omega
theorem Cost.min {i : Nat} {a b : Bool × Int} {x y : Option Int} (ha : Cost i a x) (hb : Cost 1 b y) : Cost (i + 1) (addR false a b) (minO x y) := by
  obtain ⟨rfl, ha⟩ := ha
  obtain ⟨rfl, hb⟩ := hb
  refine ⟨(addR_min' a b).symm, ?_⟩
  obtain ⟨k, n⟩ := a
  obtain ⟨k', n'⟩ := b
  cases k <;> cases k' <;> simp [addR] at *
  · omega
  · omega
  · by_cases h : n' < n <;> simp [h] <;> omega
theorem Cost.mul {i : Nat} {a b : Bool × Int} {x y : Option Int} (hi : i + 1 ≤ 20) (ha : Cost i a x) (hb : Cost 1 b y) : Cost (i + 1) (andF a b) (mulO x y) := by
  obtain ⟨rfl, ha⟩ := ha
  obtain ⟨rfl, hb⟩ := hb
  exact ⟨(andF_mul a b (repC_20 (by omega) ha) (repC_20 (by omega) hb)).symm, repC_mul hi ha hb⟩

theorem two_cell {w : World} {x y : Value} {t : TypeId} : ∀ (j : Nat) (u : Value), [x, y][j]? = some u → (w.alloc (.cells #[x, y] t)).cell? ((⟨w.heap.size, 0, none⟩ : Addr).add j) = some u := by
  intro j u hj
  have h := cell_of (new_at w (.cells #[x, y] t)) j
  rw [Addr.add_lit, Nat.zero_add, h]
  simpa using hj

theorem repC_cost {i : Nat} {w : World} {k : Bool} {m : Int} {x : Option Int} (h : RepC i w (.agg #[.bool k, .int .i64 m]) x) : costO (k, m) = x := by
  obtain ⟨⟨a, b⟩, he, rfl, _⟩ := h
  simp [cv] at he
  obtain ⟨rfl, rfl⟩ := he
  rfl

def cells2 (l : List (Bool × Int)) : List Value := l.flatMap fun x => [.bool x.1, .int .i64 x.2]
theorem cells2_snoc (l : List (Bool × Int)) (x : Bool × Int) : cells2 (l ++ [x]) = cells2 l ++ [.bool x.1, .int .i64 x.2] := by simp [cells2]
theorem cells2_get : ∀ (l : List (Bool × Int)) (k : Nat) (x : Bool × Int), l[k]? = some x → (cells2 l)[k * 2]? = some (.bool x.1) ∧ (cells2 l)[k * 2 + 1]? = some (.int .i64 x.2)
  | [], k, x, h => by simp at h
  | y :: l, 0, x, h => by
    simp at h
    subst h
    exact ⟨rfl, rfl⟩
  | y :: l, k + 1, x, h => by
    have := cells2_get l k x (by simpa using h)
    rw [show (k + 1) * 2 = k * 2 + 1 + 1 by omega]
    exact this

/-- what the loop over the costs has laid: the least of the first i, the sum of the first i, the first j in a slice -/
structure CostSt (B13 B14 : Nat) (W1 : World) (ps : List (Bool × Int)) (i j : Nat) (t15 : Value) (wr : World) : Prop where
  up : Upto [B13, B14] W1 wr
  l13 : B13 < W1.heap.size
  l14 : B14 < W1.heap.size
  ne : B13 ≠ B14
  c13 : ∃ a, wr.heap[B13]? = some (.cells #[.bool a.1, .int .i64 a.2] 27) ∧ Cost (i + 1) a (msumF (ps.take i))
  c14 : ∃ a, wr.heap[B14]? = some (.cells #[.bool a.1, .int .i64 a.2] 27) ∧ Cost (i + 1) a (mprodF (ps.take i))
  ys : ∃ ya yc, t15 = .slice ya j yc ∧ wr.ownsRow 0 32 2 (.slice ya j yc) j (cells2 (ps.take j)) ∧ ∀ g, (Value.slice ya j yc).ownBlock = some g → W1.heap.size ≤ g
  rt : ∀ x ∈ ps.take j, rightF x = true

theorem CostSt.ext {B13 B14 : Nat} {W1 : World} {ps : List (Bool × Int)} {i j : Nat} {t15 : Value} {w w' : World} (h : CostSt B13 B14 W1 ps i j t15 w) (hu : Upto [] w w') : CostSt B13 B14 W1 ps i j t15 w' := by
  obtain ⟨h1, h2, h3, h4, ⟨a, h5, h6⟩, ⟨b, h7, h8⟩, ⟨ya, yc, h9, h10, h11⟩, h12⟩ := h
  exact ⟨h1.trans_ext hu, h2, h3, h4, ⟨a, hu.at h5 (by simp), h6⟩, ⟨b, hu.at h7 (by simp), h8⟩, ⟨ya, yc, h9, ownsRow_upto h10 hu (by simp), h11⟩, h12⟩

/-- both variables are written -/
theorem CostSt.vars {B13 B14 : Nat} {W1 : World} {ps : List (Bool × Int)} {i j i' : Nat} {t15 : Value} {w : World} (h : CostSt B13 B14 W1 ps i j t15 w) {a b : Bool × Int} (ha : Cost (i' + 1) a (msumF (ps.take i'))) (hb : Cost (i' + 1) b (mprodF (ps.take i'))) :
    CostSt B13 B14 W1 ps i' j t15 ((((w.setCell ⟨B13, 0, none⟩ (.bool a.1)).setCell ⟨B13, 1, none⟩ (.int .i64 a.2)).setCell ⟨B14, 0, none⟩ (.bool b.1)).setCell ⟨B14, 1, none⟩ (.int .i64 b.2)) := by
  obtain ⟨h1, h2, h3, h4, ⟨a', h5, h6⟩, ⟨b', h7, h8⟩, ⟨ya, yc, h9, h10, h11⟩, h12⟩ := h
  have hu : Upto [B13, B14] w ((((w.setCell ⟨B13, 0, none⟩ (.bool a.1)).setCell ⟨B13, 1, none⟩ (.int .i64 a.2)).setCell ⟨B14, 0, none⟩ (.bool b.1)).setCell ⟨B14, 1, none⟩ (.int .i64 b.2)) :=
    ((((Upto.refl _ w).setCell (Or.inl (by simp)) _).setCell (Or.inl (by simp)) _).setCell (Or.inl (by simp)) _).setCell (Or.inl (by simp)) _
  have y13 := set_other (set_other (set_same (set_same h5 0 (.bool a.1)) 1 (.int .i64 a.2)) h4 0 (.bool b.1)) h4 1 (.int .i64 b.2)
  have y14 := set_same (set_same (set_other (set_other h7 (Ne.symm h4) 0 (.bool a.1)) (Ne.symm h4) 1 (.int .i64 a.2)) 0 (.bool b.1)) 1 (.int .i64 b.2)
  refine ⟨h1.trans_same hu, h2, h3, h4, ⟨a, by simpa using y13, ha⟩, ⟨b, by simpa using y14, hb⟩, ⟨ya, yc, h9, ownsRow_upto h10 hu ?_, h11⟩, h12⟩
  intro g hg hm
  have := h11 g hg
  simp at hm
  omega

/-- one more in the slice -/
theorem CostSt.app {B13 B14 : Nat} {W1 : World} {ps : List (Bool × Int)} {i j : Nat} {ya : Option Addr} {yc : Nat} {w w' : World} (h : CostSt B13 B14 W1 ps i j (.slice ya j yc) w) {x : Bool × Int} (hk : ps.take (j + 1) = ps.take j ++ [x]) (hx : rightF x = true)
    {qa : Option Addr} {qc : Nat} (ho : w'.ownsRow 0 32 2 (.slice qa (j + 1) qc) (j + 1) (cells2 (ps.take j) ++ [.bool x.1, .int .i64 x.2])) (hu : Upto (Value.slice ya j yc).ownBlock.toList w w') (hw : ∀ g, (Value.slice qa (j + 1) qc).ownBlock = some g → (Value.slice ya j yc).ownBlock = some g ∨ w.heap.size ≤ g) : CostSt B13 B14 W1 ps i (j + 1) (.slice qa (j + 1) qc) w' := by
  obtain ⟨h1, h2, h3, h4, ⟨a', h5, h6⟩, ⟨b', h7, h8⟩, ⟨ya', yc', h9, h10, h11⟩, h12⟩ := h
  cases h9
  refine ⟨h1.trans hu (fun k hk => Or.inr (h11 k (by simpa using hk))), h2, h3, h4, ⟨a', hu.at h5 (fun hm => by have := h11 B13 (by simpa using hm); omega), h6⟩, ⟨b', hu.at h7 (fun hm => by have := h11 B14 (by simpa using hm); omega), h8⟩, ⟨qa, qc, rfl, by rw [hk, cells2_snoc]; exact ho, fun g hg => (hw g hg).elim (h11 g) (fun h => Nat.le_trans h1.size h)⟩, ?_⟩
  rw [hk]
  intro y hy
  rcases List.mem_append.1 hy with hy | hy
  · exact h12 y hy
  · simp at hy
    rw [hy]
    exact hx

/-- the cells of the slice -/
theorem row2_cells {w : World} {ya : Option Addr} {yc n : Nat} {l : List (Bool × Int)} (h : w.ownsRow 0 32 2 (.slice ya n yc) n (cells2 l)) : n = 0 ∨ ∃ g o, ya = some ⟨g, o, none⟩ ∧ ∀ k x, l[k]? = some x → w.cell? ⟨g, o + k * 2, none⟩ = some (.bool x.1) ∧ w.cell? ⟨g, o + k * 2 + 1, none⟩ = some (.int .i64 x.2) := by
  rcases h.2 with ⟨_, h0⟩ | ⟨g, cap, cur, he, _⟩
  · exact Or.inl h0
  · simp at he
    obtain ⟨rfl, rfl⟩ := he
    refine Or.inr ⟨g, 0, rfl, fun k x hx => ?_⟩
    have h2 := cells2_get l k x hx
    have hc := h.cells (g := g) rfl
    have e1 := hc _ _ h2.1
    have e2 := hc _ _ h2.2
    simp only [Addr.add_lit] at e1 e2
    exact ⟨by simpa using e1, by simpa [Nat.add_assoc] using e2⟩
end Go.Proofs.YtifellalnojomaaDoor
