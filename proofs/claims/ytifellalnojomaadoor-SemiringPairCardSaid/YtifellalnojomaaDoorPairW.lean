/- SemiringPair: the walk. -/
import Derived.Test.YtifellalnojomaaDoorPairO
import Derived.Test.YtifellalnojomaaDoorLawfulP
namespace Go.Proofs.YtifellalnojomaaDoor
open Go.RowKit Go.PL Go.Maps

theorem lift_upto {S : List Nat} {w w0 w1 : World} (h : Upto [] w w0) (hu : Upto S w0 w1) (hs : ∀ b ∈ S, w.heap.size ≤ b) : Upto [] w w1 :=
  h.trans hu fun b hb => Or.inr (hs b hb)
theorem repC_right {w : World} {k : Bool} {m : Int} (h : rightF (k, m) = true) : RepC 1 w (.agg #[.bool k, .int .i64 m]) (costO (k, m)) := by
  refine ⟨(k, m), rfl, rfl, fun hk => ?_⟩
  simp only at hk
  subst hk
  simp [rightF] at h
  simp
  omega
theorem repC_val {i : Nat} {w : World} {k : Bool} {m : Int} {x : Option Int} (h : RepC i w (.agg #[.bool k, .int .i64 m]) x) : costO (k, m) = x := by
  obtain ⟨⟨a, b⟩, he, rfl, _⟩ := h
  simp [cv] at he
  obtain ⟨rfl, rfl⟩ := he
  rfl
theorem repI_val {i : Nat} {w : World} {g : Option Addr} {n c : Nat} {l : Bool} {m : Int} {x : Nat × Option Int} (h : RepI i w (.agg #[.slice g n c, .bool l, .int .i64 m]) x) : RepN i w (.agg #[.slice g n c]) x.1 ∧ costO (l, m) = x.2 := by
  obtain ⟨_, _, _, _, _, he, h1, h2⟩ := h
  simp at he
  obtain ⟨⟨rfl, rfl, rfl⟩, rfl, rfl⟩ := he
  exact ⟨h1, repC_val h2⟩
theorem repN_val {i : Nat} {w : World} {g : Option Addr} {n c : Nat} {x : Nat} (h : RepN i w (.agg #[.slice g n c]) x) : n = (W32 x).length ∧ NumS w g c x ∧ x < 4294967296 ^ (2 * i) := by
  obtain ⟨_, _, he, h1, h2⟩ := h
  simp at he
  obtain ⟨rfl, rfl, rfl⟩ := he
  exact ⟨rfl, h1, h2⟩
theorem sameR_cost {a b : Bool × Int} : sameR a b = true → costO a = costO b := by
  obtain ⟨k, n⟩ := a
  obtain ⟨k', n'⟩ := b
  cases k <;> cases k' <;> simp [costO, sameR]
theorem bool_of (p : Prop) : ∃ d : Bool, (d = true ↔ p) := by
  by_cases h : p
  · exact ⟨true, by simp [h]⟩
  · exact ⟨false, by simp [h]⟩
theorem right_20 {k : Bool} {m : Int} (h : rightF (k, m) = true) : (k, m).1 = true → -(1099511627776 * 20) ≤ (k, m).2 ∧ (k, m).2 ≤ 1099511627776 * 20 := by
  intro hk
  simp only at hk
  subst hk
  simp [rightF] at h
  simp
  omega
theorem addR_min (a b : Bool × Int) : costO (addR false a b) = minO (costO a) (costO b) := by
  obtain ⟨k, n⟩ := a
  obtain ⟨k', n'⟩ := b
  cases k <;> cases k' <;> simp [addR, costO, minO]
  by_cases h : n' < n <;> simp [h] <;> omega

/-- what the loop has laid after k rounds -/
def PairSt (sz : Nat) (w0 : World) (t0 t1 t2 : Bool) (n0 n1 n2 : Nat) (k0 : Bool) (m0 : Int) (k1 : Bool) (m1 : Int) (k2 : Bool) (m2 : Int) (k : Nat) (wr : World) : Prop :=
  Upto [sz + 1 + 1 + 1] w0 wr ∧ ∃ (a0 a1 a2 : Option Addr) (l0 l1 l2 c0 c1 c2 : Nat) (b0 : Bool) (q0 : Bool) (r0 : Int) (b1 : Bool) (q1 : Bool) (r1 : Int) (b2 : Bool) (q2 : Bool) (r2 : Int),
    wr.heap[sz + 1 + 1 + 1]? = some (.cells #[.bool b0, .slice a0 l0 c0, .bool q0, .int .i64 r0, .bool b1, .slice a1 l1 c1, .bool q1, .int .i64 r1, .bool b2, .slice a2 l2 c2, .bool q2, .int .i64 r2] 81) ∧
    (0 < k → RepN 1 wr (.agg #[.slice a0 l0 c0]) n0 ∧ (b0 = t0 ∧ q0 = k0 ∧ r0 = m0) ∧ rightF (k0, m0) = true) ∧
    (1 < k → RepN 1 wr (.agg #[.slice a1 l1 c1]) n1 ∧ (b1 = t1 ∧ q1 = k1 ∧ r1 = m1) ∧ rightF (k1, m1) = true) ∧
    (2 < k → RepN 1 wr (.agg #[.slice a2 l2 c2]) n2 ∧ (b2 = t2 ∧ q2 = k2 ∧ r2 = m2) ∧ rightF (k2, m2) = true)

theorem pair_notuv {w : World} {B : Nat} {a0 a1 a2 : Option Addr} {l0 l1 l2 c0 c1 c2 : Nat} {b0 : Bool} {q0 : Bool} {r0 : Int} {b1 : Bool} {q1 : Bool} {r1 : Int} {b2 : Bool} {q2 : Bool} {r2 : Int} (hy : w.heap[B]? = some (.cells #[.bool b0, .slice a0 l0 c0, .bool q0, .int .i64 r0, .bool b1, .slice a1 l1 c1, .bool q1, .int .i64 r1, .bool b2, .slice a2 l2 c2, .bool q2, .int .i64 r2] 81)) (i k : Nat) : w.cell? ⟨B, i, none⟩ ≠ some (uv k) := by
  rw [cell_of hy i]
  match i with
  | 0 => simp [uv]
  | 1 => simp [uv]
  | 2 => simp [uv]
  | 3 => simp [uv]
  | 4 => simp [uv]
  | 5 => simp [uv]
  | 6 => simp [uv]
  | 7 => simp [uv]
  | 8 => simp [uv]
  | 9 => simp [uv]
  | 10 => simp [uv]
  | 11 => simp [uv]
  | i + 12 => simp

theorem pairSt_step0 {sz : Nat} {w0 w : World} {t0 t1 t2 : Bool} {n0 n1 n2 : Nat} {k0 : Bool} {m0 : Int} {k1 : Bool} {m1 : Int} {k2 : Bool} {m2 : Int} {a0 a1 a2 : Option Addr} {l0 l1 l2 c0 c1 c2 : Nat} {b0 : Bool} {q0 : Bool} {r0 : Int} {b1 : Bool} {q1 : Bool} {r1 : Int} {b2 : Bool} {q2 : Bool} {r2 : Int} (hu : Upto [sz + 1 + 1 + 1] w0 w) (hy : w.heap[sz + 1 + 1 + 1]? = some (.cells #[.bool b0, .slice a0 l0 c0, .bool q0, .int .i64 r0, .bool b1, .slice a1 l1 c1, .bool q1, .int .i64 r1, .bool b2, .slice a2 l2 c2, .bool q2, .int .i64 r2] 81))
    (f0 : 0 < 0 → RepN 1 w (.agg #[.slice a0 l0 c0]) n0 ∧ (b0 = t0 ∧ q0 = k0 ∧ r0 = m0) ∧ rightF (k0, m0) = true)
    (f1 : 1 < 0 → RepN 1 w (.agg #[.slice a1 l1 c1]) n1 ∧ (b1 = t1 ∧ q1 = k1 ∧ r1 = m1) ∧ rightF (k1, m1) = true)
    (f2 : 2 < 0 → RepN 1 w (.agg #[.slice a2 l2 c2]) n2 ∧ (b2 = t2 ∧ q2 = k2 ∧ r2 = m2) ∧ rightF (k2, m2) = true)
    {g : Option Addr} {l cc : Nat} (hn : RepN 1 w (.agg #[.slice g l cc]) n0) (hr : rightF (k0, m0) = true) : PairSt sz w0 t0 t1 t2 n0 n1 n2 k0 m0 k1 m1 k2 m2 1 ((((w.setCell ⟨sz + 1 + 1 + 1, 0, none⟩ (.bool t0)).setCell ⟨sz + 1 + 1 + 1, 1, none⟩ (.slice g l cc)).setCell ⟨sz + 1 + 1 + 1, 2, none⟩ (.bool k0)).setCell ⟨sz + 1 + 1 + 1, 3, none⟩ (.int .i64 m0)) := by
  have hv : Upto [sz + 1 + 1 + 1] w ((((w.setCell ⟨sz + 1 + 1 + 1, 0, none⟩ (.bool t0)).setCell ⟨sz + 1 + 1 + 1, 1, none⟩ (.slice g l cc)).setCell ⟨sz + 1 + 1 + 1, 2, none⟩ (.bool k0)).setCell ⟨sz + 1 + 1 + 1, 3, none⟩ (.int .i64 m0)) := ((((Upto.refl _ w).setCell (Or.inl (by simp)) _).setCell (Or.inl (by simp)) _).setCell (Or.inl (by simp)) _).setCell (Or.inl (by simp)) _
  have hq : ∀ B ∈ [sz + 1 + 1 + 1], ∀ (i : Nat) (k : Nat), w.cell? ⟨B, i, none⟩ ≠ some (uv k) := by
    intro B hB
    rw [List.mem_singleton.1 hB]
    exact pair_notuv hy
  have y1 := set_same (set_same (set_same (set_same (hy) 0 (.bool t0)) 1 (.slice g l cc)) 2 (.bool k0)) 3 (.int .i64 m0)
  exact ⟨hu.trans_same hv, _, _, _, _, _, _, _, _, _, _, _, _, _, _, _, _, _, _, by simpa using y1, fun _ => ⟨repN_upto hn hv hq, ⟨rfl, rfl, rfl⟩, hr⟩, by omega, by omega⟩

theorem pairSt_step1 {sz : Nat} {w0 w : World} {t0 t1 t2 : Bool} {n0 n1 n2 : Nat} {k0 : Bool} {m0 : Int} {k1 : Bool} {m1 : Int} {k2 : Bool} {m2 : Int} {a0 a1 a2 : Option Addr} {l0 l1 l2 c0 c1 c2 : Nat} {b0 : Bool} {q0 : Bool} {r0 : Int} {b1 : Bool} {q1 : Bool} {r1 : Int} {b2 : Bool} {q2 : Bool} {r2 : Int} (hu : Upto [sz + 1 + 1 + 1] w0 w) (hy : w.heap[sz + 1 + 1 + 1]? = some (.cells #[.bool b0, .slice a0 l0 c0, .bool q0, .int .i64 r0, .bool b1, .slice a1 l1 c1, .bool q1, .int .i64 r1, .bool b2, .slice a2 l2 c2, .bool q2, .int .i64 r2] 81))
    (f0 : 0 < 1 → RepN 1 w (.agg #[.slice a0 l0 c0]) n0 ∧ (b0 = t0 ∧ q0 = k0 ∧ r0 = m0) ∧ rightF (k0, m0) = true)
    (f1 : 1 < 1 → RepN 1 w (.agg #[.slice a1 l1 c1]) n1 ∧ (b1 = t1 ∧ q1 = k1 ∧ r1 = m1) ∧ rightF (k1, m1) = true)
    (f2 : 2 < 1 → RepN 1 w (.agg #[.slice a2 l2 c2]) n2 ∧ (b2 = t2 ∧ q2 = k2 ∧ r2 = m2) ∧ rightF (k2, m2) = true)
    {g : Option Addr} {l cc : Nat} (hn : RepN 1 w (.agg #[.slice g l cc]) n1) (hr : rightF (k1, m1) = true) : PairSt sz w0 t0 t1 t2 n0 n1 n2 k0 m0 k1 m1 k2 m2 2 ((((w.setCell ⟨sz + 1 + 1 + 1, 4, none⟩ (.bool t1)).setCell ⟨sz + 1 + 1 + 1, 5, none⟩ (.slice g l cc)).setCell ⟨sz + 1 + 1 + 1, 6, none⟩ (.bool k1)).setCell ⟨sz + 1 + 1 + 1, 7, none⟩ (.int .i64 m1)) := by
  have hv : Upto [sz + 1 + 1 + 1] w ((((w.setCell ⟨sz + 1 + 1 + 1, 4, none⟩ (.bool t1)).setCell ⟨sz + 1 + 1 + 1, 5, none⟩ (.slice g l cc)).setCell ⟨sz + 1 + 1 + 1, 6, none⟩ (.bool k1)).setCell ⟨sz + 1 + 1 + 1, 7, none⟩ (.int .i64 m1)) := ((((Upto.refl _ w).setCell (Or.inl (by simp)) _).setCell (Or.inl (by simp)) _).setCell (Or.inl (by simp)) _).setCell (Or.inl (by simp)) _
  have hq : ∀ B ∈ [sz + 1 + 1 + 1], ∀ (i : Nat) (k : Nat), w.cell? ⟨B, i, none⟩ ≠ some (uv k) := by
    intro B hB
    rw [List.mem_singleton.1 hB]
    exact pair_notuv hy
  have y1 := set_same (set_same (set_same (set_same (hy) 4 (.bool t1)) 5 (.slice g l cc)) 6 (.bool k1)) 7 (.int .i64 m1)
  exact ⟨hu.trans_same hv, _, _, _, _, _, _, _, _, _, _, _, _, _, _, _, _, _, _, by simpa using y1, fun _ => (f0 (by omega)).imp_left fun g => repN_upto g hv hq, fun _ => ⟨repN_upto hn hv hq, ⟨rfl, rfl, rfl⟩, hr⟩, by omega⟩

theorem pairSt_step2 {sz : Nat} {w0 w : World} {t0 t1 t2 : Bool} {n0 n1 n2 : Nat} {k0 : Bool} {m0 : Int} {k1 : Bool} {m1 : Int} {k2 : Bool} {m2 : Int} {a0 a1 a2 : Option Addr} {l0 l1 l2 c0 c1 c2 : Nat} {b0 : Bool} {q0 : Bool} {r0 : Int} {b1 : Bool} {q1 : Bool} {r1 : Int} {b2 : Bool} {q2 : Bool} {r2 : Int} (hu : Upto [sz + 1 + 1 + 1] w0 w) (hy : w.heap[sz + 1 + 1 + 1]? = some (.cells #[.bool b0, .slice a0 l0 c0, .bool q0, .int .i64 r0, .bool b1, .slice a1 l1 c1, .bool q1, .int .i64 r1, .bool b2, .slice a2 l2 c2, .bool q2, .int .i64 r2] 81))
    (f0 : 0 < 2 → RepN 1 w (.agg #[.slice a0 l0 c0]) n0 ∧ (b0 = t0 ∧ q0 = k0 ∧ r0 = m0) ∧ rightF (k0, m0) = true)
    (f1 : 1 < 2 → RepN 1 w (.agg #[.slice a1 l1 c1]) n1 ∧ (b1 = t1 ∧ q1 = k1 ∧ r1 = m1) ∧ rightF (k1, m1) = true)
    (f2 : 2 < 2 → RepN 1 w (.agg #[.slice a2 l2 c2]) n2 ∧ (b2 = t2 ∧ q2 = k2 ∧ r2 = m2) ∧ rightF (k2, m2) = true)
    {g : Option Addr} {l cc : Nat} (hn : RepN 1 w (.agg #[.slice g l cc]) n2) (hr : rightF (k2, m2) = true) : PairSt sz w0 t0 t1 t2 n0 n1 n2 k0 m0 k1 m1 k2 m2 3 ((((w.setCell ⟨sz + 1 + 1 + 1, 8, none⟩ (.bool t2)).setCell ⟨sz + 1 + 1 + 1, 9, none⟩ (.slice g l cc)).setCell ⟨sz + 1 + 1 + 1, 10, none⟩ (.bool k2)).setCell ⟨sz + 1 + 1 + 1, 11, none⟩ (.int .i64 m2)) := by
  have hv : Upto [sz + 1 + 1 + 1] w ((((w.setCell ⟨sz + 1 + 1 + 1, 8, none⟩ (.bool t2)).setCell ⟨sz + 1 + 1 + 1, 9, none⟩ (.slice g l cc)).setCell ⟨sz + 1 + 1 + 1, 10, none⟩ (.bool k2)).setCell ⟨sz + 1 + 1 + 1, 11, none⟩ (.int .i64 m2)) := ((((Upto.refl _ w).setCell (Or.inl (by simp)) _).setCell (Or.inl (by simp)) _).setCell (Or.inl (by simp)) _).setCell (Or.inl (by simp)) _
  have hq : ∀ B ∈ [sz + 1 + 1 + 1], ∀ (i : Nat) (k : Nat), w.cell? ⟨B, i, none⟩ ≠ some (uv k) := by
    intro B hB
    rw [List.mem_singleton.1 hB]
    exact pair_notuv hy
  have y1 := set_same (set_same (set_same (set_same (hy) 8 (.bool t2)) 9 (.slice g l cc)) 10 (.bool k2)) 11 (.int .i64 m2)
  exact ⟨hu.trans_same hv, _, _, _, _, _, _, _, _, _, _, _, _, _, _, _, _, _, _, by simpa using y1, fun _ => (f0 (by omega)).imp_left fun g => repN_upto g hv hq, fun _ => (f1 (by omega)).imp_left fun g => repN_upto g hv hq, fun _ => ⟨repN_upto hn hv hq, ⟨rfl, rfl, rfl⟩, hr⟩⟩

set_option maxRecDepth 100000 in
set_option maxHeartbeats 12800000 in
theorem pair_walk (t0 t1 t2 : Bool) (n0 n1 n2 : Nat) (hn0 : n0 < 18446744073709551616) (hn1 : n1 < 18446744073709551616) (hn2 : n2 < 18446744073709551616) (k0 : Bool) (m0 : Int) (k1 : Bool) (m1 : Int) (k2 : Bool) (m2 : Int) (w : World) :
    Calls Tryd.prog 8 #[.agg #[.bool t0, .bool t1, .bool t2, .int .u64 n0, .int .u64 n1, .int .u64 n2, .bool k0, .int .i64 m0, .bool k1, .int .i64 m1, .bool k2, .int .i64 m2]] w fun e w' => e = .returned (.bool true) ∧ Upto [] w w' := by
  have HK := Lib.hid known_calls
  have HR0 := Lib.hid (right_calls (k0, m0))
  have HO0 : Hid (∀ w, Calls Tryd.prog 18 #[.agg #[.bool k0, .int .i64 m0]] w fun e w' => e = .returned (.agg #[.bool k0, .int .i64 m0]) ∧ Upto [] w w') := fun w => (own_calls k0 m0 w).mono fun e w' ⟨h1, h2⟩ => ⟨h1, by rw [h2]; exact ((Upto.refl [] w).alloc _).alloc _⟩
  have HF0 : Hid (∀ w, Calls Tryd.prog 33 #[.int .u64 n0] w fun e w' => ∃ y : Nat × Nat, e = .returned (.agg #[.slice (some ⟨y.1, 0, none⟩) (W32 n0).length y.2]) ∧ Upto [] w w' ∧ RepN 1 w' (.agg #[.slice (some ⟨y.1, 0, none⟩) (W32 n0).length y.2]) n0 ∧ ∀ b ∈ ([] : List Nat), w.heap.size ≤ b ∧ b < w'.heap.size) := fun w => (fromW_calls n0 hn0 w).mono fun e w' ⟨g, h1, h2, h3⟩ => ⟨(g, 2), h1, h3, ⟨_, _, rfl, h2, by omega⟩, fun b hb => by cases hb⟩
  have HR1 := Lib.hid (right_calls (k1, m1))
  have HO1 : Hid (∀ w, Calls Tryd.prog 18 #[.agg #[.bool k1, .int .i64 m1]] w fun e w' => e = .returned (.agg #[.bool k1, .int .i64 m1]) ∧ Upto [] w w') := fun w => (own_calls k1 m1 w).mono fun e w' ⟨h1, h2⟩ => ⟨h1, by rw [h2]; exact ((Upto.refl [] w).alloc _).alloc _⟩
  have HF1 : Hid (∀ w, Calls Tryd.prog 33 #[.int .u64 n1] w fun e w' => ∃ y : Nat × Nat, e = .returned (.agg #[.slice (some ⟨y.1, 0, none⟩) (W32 n1).length y.2]) ∧ Upto [] w w' ∧ RepN 1 w' (.agg #[.slice (some ⟨y.1, 0, none⟩) (W32 n1).length y.2]) n1 ∧ ∀ b ∈ ([] : List Nat), w.heap.size ≤ b ∧ b < w'.heap.size) := fun w => (fromW_calls n1 hn1 w).mono fun e w' ⟨g, h1, h2, h3⟩ => ⟨(g, 2), h1, h3, ⟨_, _, rfl, h2, by omega⟩, fun b hb => by cases hb⟩
  have HR2 := Lib.hid (right_calls (k2, m2))
  have HO2 : Hid (∀ w, Calls Tryd.prog 18 #[.agg #[.bool k2, .int .i64 m2]] w fun e w' => e = .returned (.agg #[.bool k2, .int .i64 m2]) ∧ Upto [] w w') := fun w => (own_calls k2 m2 w).mono fun e w' ⟨h1, h2⟩ => ⟨h1, by rw [h2]; exact ((Upto.refl [] w).alloc _).alloc _⟩
  have HF2 : Hid (∀ w, Calls Tryd.prog 33 #[.int .u64 n2] w fun e w' => ∃ y : Nat × Nat, e = .returned (.agg #[.slice (some ⟨y.1, 0, none⟩) (W32 n2).length y.2]) ∧ Upto [] w w' ∧ RepN 1 w' (.agg #[.slice (some ⟨y.1, 0, none⟩) (W32 n2).length y.2]) n2 ∧ ∀ b ∈ ([] : List Nat), w.heap.size ≤ b ∧ b < w'.heap.size) := fun w => (fromW_calls n2 hn2 w).mono fun e w' ⟨g, h1, h2, h3⟩ => ⟨(g, 2), h1, h3, ⟨_, _, rfl, h2, by omega⟩, fun b hb => by cases hb⟩
  simp only [cv] at HR0 HR1 HR2
  obtain ⟨W0, hW⟩ : ∃ W, W = ((((w.alloc (.cells #[.bool t0, .bool t1, .bool t2, .int .u64 n0, .int .u64 n1, .int .u64 n2, .bool k0, .int .i64 m0, .bool k1, .int .i64 m1, .bool k2, .int .i64 m2] 58)).alloc (.cells #[.iface 42 (.agg #[]), .iface 29 (.agg #[])] 70)).alloc (.cells #[.iface 23 (.agg #[]), .iface 70 (.agg #[.iface 42 (.agg #[]), .iface 29 (.agg #[])])] 76)).alloc (.cells #[.bool false, .slice none 0 0, .bool false, .int .i64 0, .bool false, .slice none 0 0, .bool false, .int .i64 0, .bool false, .slice none 0 0, .bool false, .int .i64 0] 81)) := ⟨_, rfl⟩
  have hu0 : Upto [] w W0 := by rw [hW]; exact ((((Upto.refl [] w).alloc _).alloc _).alloc _).alloc _
  have x0 := alloc_old (alloc_old (alloc_old (new_at w (.cells #[.bool t0, .bool t1, .bool t2, .int .u64 n0, .int .u64 n1, .int .u64 n2, .bool k0, .int .i64 m0, .bool k1, .int .i64 m1, .bool k2, .int .i64 m2] 58)) (.cells #[.iface 42 (.agg #[]), .iface 29 (.agg #[])] 70)) (.cells #[.iface 23 (.agg #[]), .iface 70 (.agg #[.iface 42 (.agg #[]), .iface 29 (.agg #[])])] 76)) (.cells #[.bool false, .slice none 0 0, .bool false, .int .i64 0, .bool false, .slice none 0 0, .bool false, .int .i64 0, .bool false, .slice none 0 0, .bool false, .int .i64 0] 81)
  rw [← hW] at x0
  try simp only [World.size_alloc] at x0
  have x1 := alloc_old (alloc_old (new_at (w.alloc (.cells #[.bool t0, .bool t1, .bool t2, .int .u64 n0, .int .u64 n1, .int .u64 n2, .bool k0, .int .i64 m0, .bool k1, .int .i64 m1, .bool k2, .int .i64 m2] 58)) (.cells #[.iface 42 (.agg #[]), .iface 29 (.agg #[])] 70)) (.cells #[.iface 23 (.agg #[]), .iface 70 (.agg #[.iface 42 (.agg #[]), .iface 29 (.agg #[])])] 76)) (.cells #[.bool false, .slice none 0 0, .bool false, .int .i64 0, .bool false, .slice none 0 0, .bool false, .int .i64 0, .bool false, .slice none 0 0, .bool false, .int .i64 0] 81)
  rw [← hW] at x1
  try simp only [World.size_alloc] at x1
  have x2 := alloc_old (new_at ((w.alloc (.cells #[.bool t0, .bool t1, .bool t2, .int .u64 n0, .int .u64 n1, .int .u64 n2, .bool k0, .int .i64 m0, .bool k1, .int .i64 m1, .bool k2, .int .i64 m2] 58)).alloc (.cells #[.iface 42 (.agg #[]), .iface 29 (.agg #[])] 70)) (.cells #[.iface 23 (.agg #[]), .iface 70 (.agg #[.iface 42 (.agg #[]), .iface 29 (.agg #[])])] 76)) (.cells #[.bool false, .slice none 0 0, .bool false, .int .i64 0, .bool false, .slice none 0 0, .bool false, .int .i64 0, .bool false, .slice none 0 0, .bool false, .int .i64 0] 81)
  rw [← hW] at x2
  try simp only [World.size_alloc] at x2
  have x3 := new_at (((w.alloc (.cells #[.bool t0, .bool t1, .bool t2, .int .u64 n0, .int .u64 n1, .int .u64 n2, .bool k0, .int .i64 m0, .bool k1, .int .i64 m1, .bool k2, .int .i64 m2] 58)).alloc (.cells #[.iface 42 (.agg #[]), .iface 29 (.agg #[])] 70)).alloc (.cells #[.iface 23 (.agg #[]), .iface 70 (.agg #[.iface 42 (.agg #[]), .iface 29 (.agg #[])])] 76)) (.cells #[.bool false, .slice none 0 0, .bool false, .int .i64 0, .bool false, .slice none 0 0, .bool false, .int .i64 0, .bool false, .slice none 0 0, .bool false, .int .i64 0] 81)
  rw [← hW] at x3
  try simp only [World.size_alloc] at x3
  go_enter Tryd.func8, Tryd.ntmps8
  go_wp2_with fail
  simp only [← hW]
  generalize hsz : w.heap.size = sz at *
  clear hW
  go_loopw [6] (fun i wr => ∃ k : Nat, k ≤ 3 ∧ i = .int .i64 k ∧ PairSt sz W0 t0 t1 t2 n0 n1 n2 k0 m0 k1 m1 k2 m2 k wr) (fun i _ => 3 - (intOf i).toNat)
  case atStart =>
    exact ⟨0, by omega, rfl, Upto.refl _ _, _, _, _, _, _, _, _, _, _, _, _, _, _, _, _, _, _, _, x3, (by omega), (by omega), (by omega)⟩
  case round =>
    obtain ⟨k, hk, rfl, hu, a0, a1, a2, l0, l1, l2, c0, c1, c2, b0, q0, r0, b1, q1, r1, b2, q2, r2, hy, f0, f1, f2⟩ := hrel
    have hx := hu.at x0 (by simp <;> omega)
    have hx1 := hu.at x1 (by simp <;> omega)
    have hx2 := hu.at x2 (by simp <;> omega)
    clear x0 x1 x2 x3
    rcases (by omega : k = 0 ∨ k = 1 ∨ k = 2 ∨ k = 3) with rfl | rfl | rfl | rfl
    · clear hk
      simp only [show ((0 : Nat) : Int) = 0 from rfl]
      have d0 := cell_of hx 3
      have d1 := cell_of hx 6
      have d2 := cell_of hx 7
      have d3 := cell_of hx 0
      simp only [List.getElem?_toArray, List.getElem?_cons_zero, List.getElem?_cons_succ] at d0 d1 d2 d3
      generalize hr : rightF (k0, m0) = rr at HR0
      have HRR := Lib.hid hr
      clear hr
      cases rr
      · go_wp2_with fail
        refine (HR0.out _).mono ?_
        rintro e w1 ⟨rfl, hv⟩
        go_wp2_with fail
        refine (HK.out _).mono ?_
        rintro e w2 ⟨rfl, hv2⟩
        go_wp2
        go_ret
        exact ⟨rfl, ((lift_upto hu0 hu (by simp <;> omega)).trans_ext hv).trans_ext hv2⟩
      · go_wp2_with fail
        refine (HR0.out _).mono ?_
        rintro e w1 ⟨rfl, hv⟩
        replace hx := hv.at hx (by simp)
        replace hy := hv.at hy (by simp)
        replace f0 := fun h => (f0 h).imp_left fun g => ringN.stable _ _ _ _ _ g hv
        replace f1 := fun h => (f1 h).imp_left fun g => ringN.stable _ _ _ _ _ g hv
        replace f2 := fun h => (f2 h).imp_left fun g => ringN.stable _ _ _ _ _ g hv
        replace hu := hu.trans_ext hv
        clear d0 d1 d2 d3 hv hx1 hx2
        go_wp2_with fail
        generalize w1 = W at *
        have e0 : ∀ u : Ext W, u.w.cell? ⟨sz, 3, none⟩ = some (.int .u64 n0) := fun u => u.cell (cell_of hx 3)
        have e1 : ∀ u : Ext W, u.w.cell? ⟨sz, 6, none⟩ = some (.bool k0) := fun u => u.cell (cell_of hx 6)
        have e2 : ∀ u : Ext W, u.w.cell? ⟨sz, 7, none⟩ = some (.int .i64 m0) := fun u => u.cell (cell_of hx 7)
        have e3 : ∀ u : Ext W, u.w.cell? ⟨sz, 0, none⟩ = some (.bool t0) := fun u => u.cell (cell_of hx 0)
        refine wp_region_seg_at [9, 14] [] [0, 1, 2, 3, 4, 5, 6, 7, 8, 9, 10, 11, 12, 13, 14, 15, 16, 17] [18] 18 (by kernel_rfl) (by kernel_rfl) (by kernel_rfl) ?_
        refine seg_plain rfl rfl rfl rfl rfl ?_
        intro K' hK'
        go_big_quiet_op
        go_big_quiet_on
        refine seg_plain rfl rfl rfl rfl rfl ?_
        intro K' hK'
        go_big_quiet_op
        go_big_quiet_on
        refine seg_plain rfl rfl rfl rfl rfl ?_
        intro K' hK'
        go_big_quiet_op
        go_big_quiet_on
        refine seg_plain rfl rfl rfl rfl rfl ?_
        intro K' hK'
        go_big_quiet_op
        go_big_quiet_on
        refine seg_plain rfl rfl rfl rfl rfl ?_
        intro K' hK'
        go_big_quiet_op
        go_big_quiet_on
        refine seg_plain rfl rfl rfl rfl rfl ?_
        intro K' hK'
        go_big_quiet_op
        go_big_quiet_on
        refine seg_plain rfl rfl rfl rfl rfl ?_
        intro K' hK'
        go_big_quiet_op
        go_big_quiet_on
        refine seg_plain rfl rfl rfl rfl rfl ?_
        intro K' hK'
        go_big_quiet_op
        go_big_quiet_on
        refine seg_plain rfl rfl rfl rfl rfl ?_
        intro K' hK'
        go_big_quiet_op
        go_big_quiet_on
        refine seg_callO (Y := Nat × Nat) (fun tt => .agg #[.slice (some ⟨tt.1, 0, none⟩) (W32 n0).length tt.2]) (fun tt u => RepN 1 u (.agg #[.slice (some ⟨tt.1, 0, none⟩) (W32 n0).length tt.2]) n0) (fun _ => []) rfl rfl rfl rfl (fun _ _ _ h hu => ringN.stable _ _ _ _ _ h hu) (fun _ => List.nodup_nil) (fun w => by go_simp) (fun w hu hd => HF0.out w) ?_
        rintro ⟨g, cc⟩
        simp only [Act.put, List.setIfInBounds_toArray, List.set_cons_zero, List.set_cons_succ]
        refine seg_plain rfl rfl rfl rfl rfl ?_
        intro K' hK'
        go_big_quiet_op
        go_big_quiet_on
        refine seg_plain rfl rfl rfl rfl rfl ?_
        intro K' hK'
        go_big_quiet_op
        go_big_quiet_on
        refine seg_plain rfl rfl rfl rfl rfl ?_
        intro K' hK'
        go_big_quiet_op
        go_big_quiet_on
        refine seg_plain rfl rfl rfl rfl rfl ?_
        intro K' hK'
        go_big_quiet_op
        go_big_quiet_on
        refine seg_call rfl rfl rfl rfl (fun w => by go_simp) (fun w _ _ => HO0.out w) ?_
        simp only [Act.put, List.setIfInBounds_toArray, List.set_cons_zero, List.set_cons_succ]
        refine seg_plain rfl rfl rfl rfl rfl ?_
        intro K' hK'
        go_big_quiet_op
        go_big_quiet_on
        refine seg_plain rfl rfl rfl rfl rfl ?_
        intro K' hK'
        go_big_quiet_op
        go_big_quiet_on
        refine seg_plain rfl rfl rfl rfl rfl ?_
        intro K' hK'
        go_big_quiet_op
        go_big_quiet_on
        intro w9 hg
        have hv := hg.up
        have hrN := hg.hold.1
        simp only at hrN
        clear hg e0 e1 e2 e3
        simp only [List.drop_succ_cons, List.drop_zero]
        replace hy := hv.at hy (by simp)
        replace f0 := fun h => (f0 h).imp_left fun g => ringN.stable _ _ _ _ _ g hv
        replace f1 := fun h => (f1 h).imp_left fun g => ringN.stable _ _ _ _ _ g hv
        replace f2 := fun h => (f2 h).imp_left fun g => ringN.stable _ _ _ _ _ g hv
        replace hu := hu.trans_ext hv
        have s0 := cell_of hy 0
        have t10 := free_of hy 0
        have s1 := cell_of hy 1
        have t11 := free_of hy 1
        have s2 := cell_of hy 2
        have t12 := free_of hy 2
        have s3 := cell_of hy 3
        have t13 := free_of hy 3
        simp only [List.getElem?_toArray, List.getElem?_cons_zero, List.getElem?_cons_succ] at s0 s1 s2 s3
        go_wp2_with fail
        go_roundw
        case rel => exact ⟨1, by omega, rfl, pairSt_step0 hu hy f0 f1 f2 hrN HRR.out⟩
        case measure => simp [intOf]
    · clear hk
      simp only [show ((1 : Nat) : Int) = 1 from rfl]
      have d0 := cell_of hx 4
      have d1 := cell_of hx 8
      have d2 := cell_of hx 9
      have d3 := cell_of hx 1
      simp only [List.getElem?_toArray, List.getElem?_cons_zero, List.getElem?_cons_succ] at d0 d1 d2 d3
      generalize hr : rightF (k1, m1) = rr at HR1
      have HRR := Lib.hid hr
      clear hr
      cases rr
      · go_wp2_with fail
        refine (HR1.out _).mono ?_
        rintro e w1 ⟨rfl, hv⟩
        go_wp2_with fail
        refine (HK.out _).mono ?_
        rintro e w2 ⟨rfl, hv2⟩
        go_wp2
        go_ret
        exact ⟨rfl, ((lift_upto hu0 hu (by simp <;> omega)).trans_ext hv).trans_ext hv2⟩
      · go_wp2_with fail
        refine (HR1.out _).mono ?_
        rintro e w1 ⟨rfl, hv⟩
        replace hx := hv.at hx (by simp)
        replace hy := hv.at hy (by simp)
        replace f0 := fun h => (f0 h).imp_left fun g => ringN.stable _ _ _ _ _ g hv
        replace f1 := fun h => (f1 h).imp_left fun g => ringN.stable _ _ _ _ _ g hv
        replace f2 := fun h => (f2 h).imp_left fun g => ringN.stable _ _ _ _ _ g hv
        replace hu := hu.trans_ext hv
        clear d0 d1 d2 d3 hv hx1 hx2
        go_wp2_with fail
        generalize w1 = W at *
        have e0 : ∀ u : Ext W, u.w.cell? ⟨sz, 4, none⟩ = some (.int .u64 n1) := fun u => u.cell (cell_of hx 4)
        have e1 : ∀ u : Ext W, u.w.cell? ⟨sz, 8, none⟩ = some (.bool k1) := fun u => u.cell (cell_of hx 8)
        have e2 : ∀ u : Ext W, u.w.cell? ⟨sz, 9, none⟩ = some (.int .i64 m1) := fun u => u.cell (cell_of hx 9)
        have e3 : ∀ u : Ext W, u.w.cell? ⟨sz, 1, none⟩ = some (.bool t1) := fun u => u.cell (cell_of hx 1)
        refine wp_region_seg_at [9, 14] [] [0, 1, 2, 3, 4, 5, 6, 7, 8, 9, 10, 11, 12, 13, 14, 15, 16, 17] [18] 18 (by kernel_rfl) (by kernel_rfl) (by kernel_rfl) ?_
        refine seg_plain rfl rfl rfl rfl rfl ?_
        intro K' hK'
        go_big_quiet_op
        go_big_quiet_on
        refine seg_plain rfl rfl rfl rfl rfl ?_
        intro K' hK'
        go_big_quiet_op
        go_big_quiet_on
        refine seg_plain rfl rfl rfl rfl rfl ?_
        intro K' hK'
        go_big_quiet_op
        go_big_quiet_on
        refine seg_plain rfl rfl rfl rfl rfl ?_
        intro K' hK'
        go_big_quiet_op
        go_big_quiet_on
        refine seg_plain rfl rfl rfl rfl rfl ?_
        intro K' hK'
        go_big_quiet_op
        go_big_quiet_on
        refine seg_plain rfl rfl rfl rfl rfl ?_
        intro K' hK'
        go_big_quiet_op
        go_big_quiet_on
        refine seg_plain rfl rfl rfl rfl rfl ?_
        intro K' hK'
        go_big_quiet_op
        go_big_quiet_on
        refine seg_plain rfl rfl rfl rfl rfl ?_
        intro K' hK'
        go_big_quiet_op
        go_big_quiet_on
        refine seg_plain rfl rfl rfl rfl rfl ?_
        intro K' hK'
        go_big_quiet_op
        go_big_quiet_on
        refine seg_callO (Y := Nat × Nat) (fun tt => .agg #[.slice (some ⟨tt.1, 0, none⟩) (W32 n1).length tt.2]) (fun tt u => RepN 1 u (.agg #[.slice (some ⟨tt.1, 0, none⟩) (W32 n1).length tt.2]) n1) (fun _ => []) rfl rfl rfl rfl (fun _ _ _ h hu => ringN.stable _ _ _ _ _ h hu) (fun _ => List.nodup_nil) (fun w => by go_simp) (fun w hu hd => HF1.out w) ?_
        rintro ⟨g, cc⟩
        simp only [Act.put, List.setIfInBounds_toArray, List.set_cons_zero, List.set_cons_succ]
        refine seg_plain rfl rfl rfl rfl rfl ?_
        intro K' hK'
        go_big_quiet_op
        go_big_quiet_on
        refine seg_plain rfl rfl rfl rfl rfl ?_
        intro K' hK'
        go_big_quiet_op
        go_big_quiet_on
        refine seg_plain rfl rfl rfl rfl rfl ?_
        intro K' hK'
        go_big_quiet_op
        go_big_quiet_on
        refine seg_plain rfl rfl rfl rfl rfl ?_
        intro K' hK'
        go_big_quiet_op
        go_big_quiet_on
        refine seg_call rfl rfl rfl rfl (fun w => by go_simp) (fun w _ _ => HO1.out w) ?_
        simp only [Act.put, List.setIfInBounds_toArray, List.set_cons_zero, List.set_cons_succ]
        refine seg_plain rfl rfl rfl rfl rfl ?_
        intro K' hK'
        go_big_quiet_op
        go_big_quiet_on
        refine seg_plain rfl rfl rfl rfl rfl ?_
        intro K' hK'
        go_big_quiet_op
        go_big_quiet_on
        refine seg_plain rfl rfl rfl rfl rfl ?_
        intro K' hK'
        go_big_quiet_op
        go_big_quiet_on
        intro w9 hg
        have hv := hg.up
        have hrN := hg.hold.1
        simp only at hrN
        clear hg e0 e1 e2 e3
        simp only [List.drop_succ_cons, List.drop_zero]
        replace hy := hv.at hy (by simp)
        replace f0 := fun h => (f0 h).imp_left fun g => ringN.stable _ _ _ _ _ g hv
        replace f1 := fun h => (f1 h).imp_left fun g => ringN.stable _ _ _ _ _ g hv
        replace f2 := fun h => (f2 h).imp_left fun g => ringN.stable _ _ _ _ _ g hv
        replace hu := hu.trans_ext hv
        have s0 := cell_of hy 4
        have t10 := free_of hy 4
        have s1 := cell_of hy 5
        have t11 := free_of hy 5
        have s2 := cell_of hy 6
        have t12 := free_of hy 6
        have s3 := cell_of hy 7
        have t13 := free_of hy 7
        simp only [List.getElem?_toArray, List.getElem?_cons_zero, List.getElem?_cons_succ] at s0 s1 s2 s3
        go_wp2_with fail
        go_roundw
        case rel => exact ⟨2, by omega, rfl, pairSt_step1 hu hy f0 f1 f2 hrN HRR.out⟩
        case measure => simp [intOf]
    · clear hk
      simp only [show ((2 : Nat) : Int) = 2 from rfl]
      have d0 := cell_of hx 5
      have d1 := cell_of hx 10
      have d2 := cell_of hx 11
      have d3 := cell_of hx 2
      simp only [List.getElem?_toArray, List.getElem?_cons_zero, List.getElem?_cons_succ] at d0 d1 d2 d3
      generalize hr : rightF (k2, m2) = rr at HR2
      have HRR := Lib.hid hr
      clear hr
      cases rr
      · go_wp2_with fail
        refine (HR2.out _).mono ?_
        rintro e w1 ⟨rfl, hv⟩
        go_wp2_with fail
        refine (HK.out _).mono ?_
        rintro e w2 ⟨rfl, hv2⟩
        go_wp2
        go_ret
        exact ⟨rfl, ((lift_upto hu0 hu (by simp <;> omega)).trans_ext hv).trans_ext hv2⟩
      · go_wp2_with fail
        refine (HR2.out _).mono ?_
        rintro e w1 ⟨rfl, hv⟩
        replace hx := hv.at hx (by simp)
        replace hy := hv.at hy (by simp)
        replace f0 := fun h => (f0 h).imp_left fun g => ringN.stable _ _ _ _ _ g hv
        replace f1 := fun h => (f1 h).imp_left fun g => ringN.stable _ _ _ _ _ g hv
        replace f2 := fun h => (f2 h).imp_left fun g => ringN.stable _ _ _ _ _ g hv
        replace hu := hu.trans_ext hv
        clear d0 d1 d2 d3 hv hx1 hx2
        go_wp2_with fail
        generalize w1 = W at *
        have e0 : ∀ u : Ext W, u.w.cell? ⟨sz, 5, none⟩ = some (.int .u64 n2) := fun u => u.cell (cell_of hx 5)
        have e1 : ∀ u : Ext W, u.w.cell? ⟨sz, 10, none⟩ = some (.bool k2) := fun u => u.cell (cell_of hx 10)
        have e2 : ∀ u : Ext W, u.w.cell? ⟨sz, 11, none⟩ = some (.int .i64 m2) := fun u => u.cell (cell_of hx 11)
        have e3 : ∀ u : Ext W, u.w.cell? ⟨sz, 2, none⟩ = some (.bool t2) := fun u => u.cell (cell_of hx 2)
        refine wp_region_seg_at [9, 14] [] [0, 1, 2, 3, 4, 5, 6, 7, 8, 9, 10, 11, 12, 13, 14, 15, 16, 17] [18] 18 (by kernel_rfl) (by kernel_rfl) (by kernel_rfl) ?_
        refine seg_plain rfl rfl rfl rfl rfl ?_
        intro K' hK'
        go_big_quiet_op
        go_big_quiet_on
        refine seg_plain rfl rfl rfl rfl rfl ?_
        intro K' hK'
        go_big_quiet_op
        go_big_quiet_on
        refine seg_plain rfl rfl rfl rfl rfl ?_
        intro K' hK'
        go_big_quiet_op
        go_big_quiet_on
        refine seg_plain rfl rfl rfl rfl rfl ?_
        intro K' hK'
        go_big_quiet_op
        go_big_quiet_on
        refine seg_plain rfl rfl rfl rfl rfl ?_
        intro K' hK'
        go_big_quiet_op
        go_big_quiet_on
        refine seg_plain rfl rfl rfl rfl rfl ?_
        intro K' hK'
        go_big_quiet_op
        go_big_quiet_on
        refine seg_plain rfl rfl rfl rfl rfl ?_
        intro K' hK'
        go_big_quiet_op
        go_big_quiet_on
        refine seg_plain rfl rfl rfl rfl rfl ?_
        intro K' hK'
        go_big_quiet_op
        go_big_quiet_on
        refine seg_plain rfl rfl rfl rfl rfl ?_
        intro K' hK'
        go_big_quiet_op
        go_big_quiet_on
        refine seg_callO (Y := Nat × Nat) (fun tt => .agg #[.slice (some ⟨tt.1, 0, none⟩) (W32 n2).length tt.2]) (fun tt u => RepN 1 u (.agg #[.slice (some ⟨tt.1, 0, none⟩) (W32 n2).length tt.2]) n2) (fun _ => []) rfl rfl rfl rfl (fun _ _ _ h hu => ringN.stable _ _ _ _ _ h hu) (fun _ => List.nodup_nil) (fun w => by go_simp) (fun w hu hd => HF2.out w) ?_
        rintro ⟨g, cc⟩
        simp only [Act.put, List.setIfInBounds_toArray, List.set_cons_zero, List.set_cons_succ]
        refine seg_plain rfl rfl rfl rfl rfl ?_
        intro K' hK'
        go_big_quiet_op
        go_big_quiet_on
        refine seg_plain rfl rfl rfl rfl rfl ?_
        intro K' hK'
        go_big_quiet_op
        go_big_quiet_on
        refine seg_plain rfl rfl rfl rfl rfl ?_
        intro K' hK'
        go_big_quiet_op
        go_big_quiet_on
        refine seg_plain rfl rfl rfl rfl rfl ?_
        intro K' hK'
        go_big_quiet_op
        go_big_quiet_on
        refine seg_call rfl rfl rfl rfl (fun w => by go_simp) (fun w _ _ => HO2.out w) ?_
        simp only [Act.put, List.setIfInBounds_toArray, List.set_cons_zero, List.set_cons_succ]
        refine seg_plain rfl rfl rfl rfl rfl ?_
        intro K' hK'
        go_big_quiet_op
        go_big_quiet_on
        refine seg_plain rfl rfl rfl rfl rfl ?_
        intro K' hK'
        go_big_quiet_op
        go_big_quiet_on
        refine seg_plain rfl rfl rfl rfl rfl ?_
        intro K' hK'
        go_big_quiet_op
        go_big_quiet_on
        intro w9 hg
        have hv := hg.up
        have hrN := hg.hold.1
        simp only at hrN
        clear hg e0 e1 e2 e3
        simp only [List.drop_succ_cons, List.drop_zero]
        replace hy := hv.at hy (by simp)
        replace f0 := fun h => (f0 h).imp_left fun g => ringN.stable _ _ _ _ _ g hv
        replace f1 := fun h => (f1 h).imp_left fun g => ringN.stable _ _ _ _ _ g hv
        replace f2 := fun h => (f2 h).imp_left fun g => ringN.stable _ _ _ _ _ g hv
        replace hu := hu.trans_ext hv
        have s0 := cell_of hy 8
        have t10 := free_of hy 8
        have s1 := cell_of hy 9
        have t11 := free_of hy 9
        have s2 := cell_of hy 10
        have t12 := free_of hy 10
        have s3 := cell_of hy 11
        have t13 := free_of hy 11
        simp only [List.getElem?_toArray, List.getElem?_cons_zero, List.getElem?_cons_succ] at s0 s1 s2 s3
        go_wp2_with fail
        go_roundw
        case rel => exact ⟨3, by omega, rfl, pairSt_step2 hu hy f0 f1 f2 hrN HRR.out⟩
        case measure => simp [intOf]
    · clear hk HR0 HR1 HR2 HO0 HO1 HO2 HF0 HF1 HF2
      simp only [show ((3 : Nat) : Int) = 3 from rfl]
      obtain ⟨g0, ⟨rfl, rfl, rfl⟩, h0⟩ := f0 (by omega)
      obtain ⟨g1, ⟨rfl, rfl, rfl⟩, h1⟩ := f1 (by omega)
      obtain ⟨g2, ⟨rfl, rfl, rfl⟩, h2⟩ := f2 (by omega)
      obtain ⟨_, _, he, hm0, hb0⟩ := g0
      simp at he
      obtain ⟨rfl, rfl, rfl⟩ := he
      have g0 : RepN 1 wr (.agg #[.slice a0 (W32 n0).length c0]) n0 := ⟨_, _, rfl, hm0, hb0⟩
      obtain ⟨_, _, he, hm1, hb1⟩ := g1
      simp at he
      obtain ⟨rfl, rfl, rfl⟩ := he
      have g1 : RepN 1 wr (.agg #[.slice a1 (W32 n1).length c1]) n1 := ⟨_, _, rfl, hm1, hb1⟩
      obtain ⟨_, _, he, hm2, hb2⟩ := g2
      simp at he
      obtain ⟨rfl, rfl, rfl⟩ := he
      have g2 : RepN 1 wr (.agg #[.slice a2 (W32 n2).length c2]) n2 := ⟨_, _, rfl, hm2, hb2⟩
      clear f0 f1 f2
      have hU := lift_upto hu0 hu (by simp <;> omega)
      clear hu hu0
      have j0 : RepI 1 wr (.agg #[.slice a0 (W32 n0).length c0, .bool q0, .int .i64 r0]) (n0, costO (q0, r0)) := ⟨_, _, _, _, _, rfl, g0, repC_right h0⟩
      have j1 : RepI 1 wr (.agg #[.slice a1 (W32 n1).length c1, .bool q1, .int .i64 r1]) (n1, costO (q1, r1)) := ⟨_, _, _, _, _, rfl, g1, repC_right h1⟩
      have j2 : RepI 1 wr (.agg #[.slice a2 (W32 n2).length c2, .bool q2, .int .i64 r2]) (n2, costO (q2, r2)) := ⟨_, _, _, _, _, rfl, g2, repC_right h2⟩
      go_wp2_with fail
      have e0 : True := trivial
      clear e0
      have e0 : ∀ u : Ext wr, u.w.cell? ⟨sz + 1 + 1, 0, none⟩ = some (.iface 23 (.agg #[])) := fun u => u.cell (cell_of hx2 0)
      have e1 : ∀ u : Ext wr, u.w.cell? ⟨sz + 1 + 1, 1, none⟩ = some (.iface 70 (.agg #[.iface 42 (.agg #[]), .iface 29 (.agg #[])])) := fun u => u.cell (cell_of hx2 1)
      have e2 : ∀ u : Ext wr, u.w.cell? ⟨sz + 1 + 1 + 1, 0, none⟩ = some (.bool b0) := fun u => u.cell (cell_of hy 0)
      have e3 : ∀ u : Ext wr, u.w.cell? ⟨sz + 1 + 1 + 1, 1, none⟩ = some (.slice a0 (W32 n0).length c0) := fun u => u.cell (cell_of hy 1)
      have e4 : ∀ u : Ext wr, u.w.cell? ⟨sz + 1 + 1 + 1, 2, none⟩ = some (.bool q0) := fun u => u.cell (cell_of hy 2)
      have e5 : ∀ u : Ext wr, u.w.cell? ⟨sz + 1 + 1 + 1, 3, none⟩ = some (.int .i64 r0) := fun u => u.cell (cell_of hy 3)
      have e6 : ∀ u : Ext wr, u.w.cell? ⟨sz + 1 + 1 + 1, 4, none⟩ = some (.bool b1) := fun u => u.cell (cell_of hy 4)
      have e7 : ∀ u : Ext wr, u.w.cell? ⟨sz + 1 + 1 + 1, 5, none⟩ = some (.slice a1 (W32 n1).length c1) := fun u => u.cell (cell_of hy 5)
      have e8 : ∀ u : Ext wr, u.w.cell? ⟨sz + 1 + 1 + 1, 6, none⟩ = some (.bool q1) := fun u => u.cell (cell_of hy 6)
      have e9 : ∀ u : Ext wr, u.w.cell? ⟨sz + 1 + 1 + 1, 7, none⟩ = some (.int .i64 r1) := fun u => u.cell (cell_of hy 7)
      refine wp_region_seg_at [5, 11] [12, 13] [0, 1, 2, 3, 4, 5, 6, 7, 8, 9, 10, 11, 12, 13] [14, 15] 14 (by kernel_rfl) (by kernel_rfl) (by kernel_rfl) ?_
      refine seg_plain rfl rfl rfl rfl rfl ?_
      intro K' hK'
      go_big_quiet_op
      go_big_quiet_on
      refine seg_plain rfl rfl rfl rfl rfl ?_
      intro K' hK'
      go_big_quiet_op
      go_big_quiet_on
      refine seg_plain rfl rfl rfl rfl rfl ?_
      intro K' hK'
      go_big_quiet_op
      go_big_quiet_on
      refine seg_plain rfl rfl rfl rfl rfl ?_
      intro K' hK'
      go_big_quiet_op
      go_big_quiet_on
      refine seg_plain rfl rfl rfl rfl rfl ?_
      intro K' hK'
      go_big_quiet_op
      go_big_quiet_on
      refine seg_callO (Y := Bool × Option Addr × Nat × Nat × Bool × Int) (fun tt => .agg #[.bool tt.1, .slice (tt.2.1) (tt.2.2.1) (tt.2.2.2.1), .bool tt.2.2.2.2.1, .int .i64 (tt.2.2.2.2.2)]) (fun tt u => RepB 2 u (.bool tt.1) (b0 || b1) ∧ RepI 2 u (.agg #[.slice (tt.2.1) (tt.2.2.1) (tt.2.2.2.1), .bool tt.2.2.2.2.1, .int .i64 (tt.2.2.2.2.2)]) (n0 + n1, minO (costO (q0, r0)) (costO (q1, r1)))) (fun _ => []) rfl rfl rfl rfl (fun _ _ _ h hu => ⟨h.1, ringI.stable _ _ _ _ _ h.2 hu⟩) (fun _ => List.nodup_nil) (fun w => by go_simp) (fun w hu hd => (O_add_calls 1 1 (by decide) b0 a0 _ c0 q0 r0 b1 a1 _ c1 q1 r1 w rfl rfl (ringI.stable _ _ _ _ _ j0 hu) (ringI.stable _ _ _ _ _ j1 hu)).mono fun e w' ⟨k, g, n, c, l, m, h1, h2, h3, h4⟩ => ⟨(k, g, n, c, l, m), h1, h2, ⟨h3, h4⟩, fun b hb => by cases hb⟩) ?_
      rintro ⟨ks, gs, ns, cs, ls, ms⟩
      simp only [Act.put, List.setIfInBounds_toArray, List.set_cons_zero, List.set_cons_succ]
      refine seg_plain rfl rfl rfl rfl rfl ?_
      intro K' hK'
      go_big_quiet_op
      go_big_quiet_on
      refine seg_plain rfl rfl rfl rfl rfl ?_
      intro K' hK'
      go_big_quiet_op
      go_big_quiet_on
      refine seg_plain rfl rfl rfl rfl rfl ?_
      intro K' hK'
      go_big_quiet_op
      go_big_quiet_on
      refine seg_plain rfl rfl rfl rfl rfl ?_
      intro K' hK'
      go_big_quiet_op
      go_big_quiet_on
      refine seg_plain rfl rfl rfl rfl rfl ?_
      intro K' hK'
      go_big_quiet_op
      go_big_quiet_on
      refine seg_callO (Y := Bool × Option Addr × Nat × Nat × Bool × Int) (fun tt => .agg #[.bool tt.1, .slice (tt.2.1) (tt.2.2.1) (tt.2.2.2.1), .bool tt.2.2.2.2.1, .int .i64 (tt.2.2.2.2.2)]) (fun tt u => RepB 2 u (.bool tt.1) (b0 && b1) ∧ RepI 2 u (.agg #[.slice (tt.2.1) (tt.2.2.1) (tt.2.2.2.1), .bool tt.2.2.2.2.1, .int .i64 (tt.2.2.2.2.2)]) (n0 * n1, mulO (costO (q0, r0)) (costO (q1, r1)))) (fun _ => []) rfl rfl rfl rfl (fun _ _ _ h hu => ⟨h.1, ringI.stable _ _ _ _ _ h.2 hu⟩) (fun _ => List.nodup_nil) (fun w => by go_simp) (fun w hu hd => (O_mul_calls 1 1 (by decide) b0 a0 _ c0 q0 r0 b1 a1 _ c1 q1 r1 w rfl rfl (ringI.stable _ _ _ _ _ j0 hu) (ringI.stable _ _ _ _ _ j1 hu)).mono fun e w' ⟨k, g, n, c, l, m, h1, h2, h3, h4⟩ => ⟨(k, g, n, c, l, m), h1, h2, ⟨h3, h4⟩, fun b hb => by cases hb⟩) ?_
      rintro ⟨kp, gp, np, cp, lp, mp⟩
      simp only [Act.put, List.setIfInBounds_toArray, List.set_cons_zero, List.set_cons_succ]
      refine seg_alloc (.cells #[.bool false, .slice none 0 0, .bool false, .int .i64 0] 80) rfl rfl rfl (fun w => by go_simp) ?_
      intro B7
      simp only [Act.put, List.setIfInBounds_toArray, List.set_cons_zero, List.set_cons_succ]
      refine seg_alloc (.cells #[.bool false, .slice none 0 0, .bool false, .int .i64 0] 80) rfl rfl rfl (fun w => by go_simp) ?_
      intro B8
      simp only [Act.put, List.setIfInBounds_toArray, List.set_cons_zero, List.set_cons_succ]
      intro w9 hg
      have hv := hg.up
      have h8 := hg.hold.1
      have h7 := hg.hold.2.1
      have hp := hg.hold.2.2.1
      have hs := hg.hold.2.2.2.1
      simp only at h7 h8 hs hp
      have hne : B8 ≠ B7 := by
        have := hg.nodup
        simp [ownAll] at this
        exact this
      have hB7 := (hg.inb _ (List.mem_cons_of_mem _ (List.mem_cons_self ..)) B7 (by simp)).1
      have hB8 := (hg.inb _ (List.mem_cons_self ..) B8 (by simp)).1
      clear hg e0 e1 e2 e3 e4 e5 e6 e7 e8 e9
      simp only [List.drop_succ_cons, List.drop_zero]
      have s0 := cell_of h7 0
      have s4 := cell_of h8 0
      have t10 := free_of h7 0
      have t14 := free_of h8 0
      have s1 := cell_of h7 1
      have s5 := cell_of h8 1
      have t11 := free_of h7 1
      have t15 := free_of h8 1
      have s2 := cell_of h7 2
      have s6 := cell_of h8 2
      have t12 := free_of h7 2
      have t16 := free_of h8 2
      have s3 := cell_of h7 3
      have s7 := cell_of h8 3
      have t13 := free_of h7 3
      have t17 := free_of h8 3
      simp only [List.getElem?_toArray, List.getElem?_cons_zero, List.getElem?_cons_succ] at s0 s1 s2 s3 s4 s5 s6 s7
      obtain ⟨hbs, hs2⟩ := hs
      obtain ⟨hNs, hCs⟩ := repI_val hs2
      obtain ⟨rfl, hms, hBs⟩ := repN_val hNs
      replace hbs := Value.bool.inj hbs
      subst hbs
      clear hs2 hNs
      simp only at hCs hms hBs
      obtain ⟨hbp, hp2⟩ := hp
      obtain ⟨hNp, hCp⟩ := repI_val hp2
      obtain ⟨rfl, hmp, hBp⟩ := repN_val hNp
      replace hbp := Value.bool.inj hbp
      subst hbp
      clear hp2 hNp
      simp only at hCp hmp hBp
      obtain ⟨V, hV⟩ : ∃ V, V = ((((((((w9.setCell ⟨B7, 0, none⟩ (.bool (b0 || b1))).setCell ⟨B7, 1, none⟩ (.slice gs (W32 (n0 + n1)).length cs)).setCell ⟨B7, 2, none⟩ (.bool ls)).setCell ⟨B7, 3, none⟩ (.int .i64 ms)).setCell ⟨B8, 0, none⟩ (.bool (b0 && b1))).setCell ⟨B8, 1, none⟩ (.slice gp (W32 (n0 * n1)).length cp)).setCell ⟨B8, 2, none⟩ (.bool lp)).setCell ⟨B8, 3, none⟩ (.int .i64 mp)) := ⟨_, rfl⟩
      have y7 : V.heap[B7]? = some (.cells #[.bool (b0 || b1), .slice gs (W32 (n0 + n1)).length cs, .bool ls, .int .i64 ms] 80) := by rw [hV]; simpa using set_other (set_other (set_other (set_other (set_same (set_same (set_same (set_same (h7) 0 (.bool (b0 || b1))) 1 (.slice gs (W32 (n0 + n1)).length cs)) 2 (.bool ls)) 3 (.int .i64 ms)) (Ne.symm hne) 0 (.bool (b0 && b1))) (Ne.symm hne) 1 (.slice gp (W32 (n0 * n1)).length cp)) (Ne.symm hne) 2 (.bool lp)) (Ne.symm hne) 3 (.int .i64 mp)
      have y8 : V.heap[B8]? = some (.cells #[.bool (b0 && b1), .slice gp (W32 (n0 * n1)).length cp, .bool lp, .int .i64 mp] 80) := by rw [hV]; simpa using set_same (set_same (set_same (set_same (set_other (set_other (set_other (set_other (h8) hne 0 (.bool (b0 || b1))) hne 1 (.slice gs (W32 (n0 + n1)).length cs)) hne 2 (.bool ls)) hne 3 (.int .i64 ms)) 0 (.bool (b0 && b1))) 1 (.slice gp (W32 (n0 * n1)).length cp)) 2 (.bool lp)) 3 (.int .i64 mp)
      have hv2 : Upto [B7, B8] w9 V := by rw [hV]; exact ((((((((Upto.refl [B7, B8] w9).setCell (Or.inl (by simp)) _).setCell (Or.inl (by simp)) _).setCell (Or.inl (by simp)) _).setCell (Or.inl (by simp)) _).setCell (Or.inl (by simp)) _).setCell (Or.inl (by simp)) _).setCell (Or.inl (by simp)) _).setCell (Or.inl (by simp)) _
      have hq : ∀ B ∈ [B7, B8], ∀ (i : Nat) (k : Nat), w9.cell? ⟨B, i, none⟩ ≠ some (uv k) := by
        intro B hB
        simp only [List.mem_cons, List.not_mem_nil, or_false] at hB
        rcases hB with rfl | rfl
        · exact not_uvO h7
        · exact not_uvO h8
      replace hms := num_upto hms hv2 hq
      replace hmp := num_upto hmp hv2 hq
      replace hm0 := num_upto (hm0.ext hv) hv2 hq
      replace hm1 := num_upto (hm1.ext hv) hv2 hq
      replace hm2 := num_upto (hm2.ext hv) hv2 hq
      clear g0 g1 g2 j0 j1 j2 hq
      have hlt := lt_of_heap hy
      replace hx := hv2.at (hv.at hx (by simp)) (by simp; omega)
      replace hx2 := hv2.at (hv.at hx2 (by simp)) (by simp; omega)
      replace hy := hv2.at (hv.at hy (by simp)) (by simp; omega)
      replace hU : Upto [] w V := (hU.trans_ext hv).trans hv2 (by
        intro b hb
        have := hU.size
        simp only [List.mem_cons, List.not_mem_nil, or_false] at hb
        rcases hb with rfl | rfl
        · exact Or.inr (by omega)
        · exact Or.inr (by omega))
      have HV := Lib.hid hV
      clear hV hv hv2 h7 h8 hx1 hB7 hB8 hlt
      go_wp2_with fail
      simp only [← HV.out]
      clear hne HV s0 s1 s2 s3 s4 s5 s6 s7 t10 t11 t12 t13 t14 t15 t16 t17
      have hLs : (W32 (n0 + n1)).length ≤ 100000000000 := repN_len (w := V) (v := undef) (i := 2) (by omega) hBs
      have hLp : (W32 (n0 * n1)).length ≤ 100000000000 := repN_len (w := V) (v := undef) (i := 2) (by omega) hBp
      have hl0 : (W32 n0).length ≤ 100000000000 := repN_len (w := V) (v := undef) (i := 1) (by omega) hb0
      have hl1 : (W32 n1).length ≤ 100000000000 := repN_len (w := V) (v := undef) (i := 1) (by omega) hb1
      have hl2 : (W32 n2).length ≤ 100000000000 := repN_len (w := V) (v := undef) (i := 1) (by omega) hb2
      cases b0
      · simp only [Bool.true_or, Bool.false_or, Bool.true_and, Bool.false_and] at y7 y8
        have e0 : ∀ u : Ext V, u.w.cell? ⟨B7, 0, none⟩ = some (.bool b1) := fun u => u.cell (cell_of y7 0)
        have e1 : ∀ u : Ext V, u.w.cell? ⟨B7, 1, none⟩ = some (.slice gs (W32 (n0 + n1)).length cs) := fun u => u.cell (cell_of y7 1)
        have e2 : ∀ u : Ext V, u.w.cell? ⟨B7, 2, none⟩ = some (.bool ls) := fun u => u.cell (cell_of y7 2)
        have e3 : ∀ u : Ext V, u.w.cell? ⟨B7, 3, none⟩ = some (.int .i64 ms) := fun u => u.cell (cell_of y7 3)
        have e4 : ∀ u : Ext V, u.w.cell? ⟨sz + 1 + 1 + 1, 1, none⟩ = some (.slice a0 (W32 n0).length c0) := fun u => u.cell (cell_of hy 1)
        have e5 : ∀ u : Ext V, u.w.cell? ⟨sz + 1 + 1 + 1, 5, none⟩ = some (.slice a1 (W32 n1).length c1) := fun u => u.cell (cell_of hy 5)
        have e6 : ∀ u : Ext V, u.w.cell? ⟨sz, 0, none⟩ = some (.bool false) := fun u => u.cell (cell_of hx 0)
        have e7 : ∀ u : Ext V, u.w.cell? ⟨sz, 1, none⟩ = some (.bool b1) := fun u => u.cell (cell_of hx 1)
        have e8 : ∀ u : Ext V, u.w.cell? ⟨sz, 6, none⟩ = some (.bool q0) := fun u => u.cell (cell_of hx 6)
        have e9 : ∀ u : Ext V, u.w.cell? ⟨sz, 7, none⟩ = some (.int .i64 r0) := fun u => u.cell (cell_of hx 7)
        have e10 : ∀ u : Ext V, u.w.cell? ⟨sz, 8, none⟩ = some (.bool q1) := fun u => u.cell (cell_of hx 8)
        have e11 : ∀ u : Ext V, u.w.cell? ⟨sz, 9, none⟩ = some (.int .i64 r1) := fun u => u.cell (cell_of hx 9)
        refine wp_region_seg_all [23, 24, 31, 38, 39] [] [0, 1, 2, 3, 4, 5, 6, 7, 8, 9, 10, 11, 12, 13, 14, 15, 16, 17, 18, 19, 20, 21, 22, 23, 24, 25, 26, 27, 28, 29, 30, 31, 32, 33, 34, 35, 36, 37, 38, 39, 40, 41] (by kernel_rfl) (by kernel_rfl) ?_
        refine seg_plain rfl rfl rfl rfl rfl ?_
        intro K' hK'
        go_big_quiet_op
        go_big_quiet_on
        refine seg_plain rfl rfl rfl rfl rfl ?_
        intro K' hK'
        go_big_quiet_op
        go_big_quiet_on
        refine seg_plain rfl rfl rfl rfl rfl ?_
        intro K' hK'
        go_big_quiet_op
        go_big_quiet_on
        refine seg_plain rfl rfl rfl rfl rfl ?_
        intro K' hK'
        go_big_quiet_op
        go_big_quiet_on
        refine seg_plain rfl rfl rfl rfl rfl ?_
        intro K' hK'
        go_big_quiet_op
        go_big_quiet_on
        refine seg_plain rfl rfl rfl rfl rfl ?_
        intro K' hK'
        go_big_quiet_op
        go_big_quiet_on
        refine seg_plain rfl rfl rfl rfl rfl ?_
        intro K' hK'
        go_big_quiet_op
        go_big_quiet_on
        refine seg_plain rfl rfl rfl rfl rfl ?_
        intro K' hK'
        go_big_quiet_op
        go_big_quiet_on
        refine seg_plain rfl rfl rfl rfl rfl ?_
        intro K' hK'
        go_big_quiet_op
        go_big_quiet_on
        refine seg_plain rfl rfl rfl rfl rfl ?_
        intro K' hK'
        go_big_quiet_op
        go_big_quiet_on
        refine seg_plain rfl rfl rfl rfl rfl ?_
        intro K' hK'
        go_big_quiet_op
        go_big_quiet_on
        refine seg_plain rfl rfl rfl rfl rfl ?_
        intro K' hK'
        go_big_quiet_op
        go_big_quiet_on
        refine seg_plain rfl rfl rfl rfl rfl ?_
        intro K' hK'
        go_big_quiet_op
        go_big_quiet_on
        refine seg_plain rfl rfl rfl rfl rfl ?_
        intro K' hK'
        go_big_quiet_op
        go_big_quiet_on
        refine seg_plain rfl rfl rfl rfl rfl ?_
        intro K' hK'
        go_big_quiet_op
        go_big_quiet_on
        refine seg_plain rfl rfl rfl rfl rfl ?_
        intro K' hK'
        go_big_quiet_op
        go_big_quiet_on
        refine seg_plain rfl rfl rfl rfl rfl ?_
        intro K' hK'
        go_big_quiet_op
        go_big_quiet_on
        refine seg_plain rfl rfl rfl rfl rfl ?_
        intro K' hK'
        go_big_quiet_op
        go_big_quiet_on
        refine seg_plain rfl rfl rfl rfl rfl ?_
        intro K' hK'
        go_big_quiet_op
        go_big_quiet_on
        refine seg_plain rfl rfl rfl rfl rfl ?_
        intro K' hK'
        go_big_quiet_op
        go_big_quiet_on
        refine seg_plain rfl rfl rfl rfl rfl ?_
        intro K' hK'
        go_big_quiet_op
        go_big_quiet_on
        refine seg_plain rfl rfl rfl rfl rfl ?_
        intro K' hK'
        go_big_quiet_op
        go_big_quiet_on
        refine seg_plain rfl rfl rfl rfl rfl ?_
        intro K' hK'
        go_big_quiet_op
        go_big_quiet_on
        refine seg_callO (Y := Nat × Nat) (fun tt => .agg #[.slice (some ⟨tt.1, 0, none⟩) (W32 (n0 + n1)).length tt.2]) (fun tt u => NumS u (some ⟨tt.1, 0, none⟩) tt.2 (n0 + n1)) (fun _ => []) rfl rfl rfl rfl (fun _ _ _ h hu => h.ext hu) (fun _ => List.nodup_nil) (fun w => by go_simp) (fun w hu hd => (add_calls n0 n1 _ _ _ _ w (hm0.ext hu) (hm1.ext hu) hl0 hl1).mono fun e w' ⟨g, vc, h1, h2, h3⟩ => ⟨(g, vc), h1, h3, h2, fun b hb => by cases hb⟩) ?_
        rintro ⟨gz, cz⟩
        simp only [Act.put, List.setIfInBounds_toArray, List.set_cons_zero, List.set_cons_succ]
        refine seg_call (v := .bool true) rfl rfl rfl rfl (fun w => by go_simp) (fun w hu hd => (nequal_calls (n0 + n1) (n0 + n1) _ _ _ _ w (hms.ext hu) (hd.1 (by kernel_rfl)) hLs hLs).mono fun e w' ⟨h1, h2⟩ => ⟨by rw [h1]; simp, h2⟩) ?_
        simp only [Act.put, List.setIfInBounds_toArray, List.set_cons_zero, List.set_cons_succ]
        refine seg_plain rfl rfl rfl rfl rfl ?_
        intro K' hK'
        go_big_quiet_op
        go_big_quiet_on
        refine seg_plain rfl rfl rfl rfl rfl ?_
        intro K' hK'
        go_big_quiet_op
        go_big_quiet_on
        refine seg_plain rfl rfl rfl rfl rfl ?_
        intro K' hK'
        go_big_quiet_op
        go_big_quiet_on
        refine seg_plain rfl rfl rfl rfl rfl ?_
        intro K' hK'
        go_big_quiet_op
        go_big_quiet_on
        refine seg_plain rfl rfl rfl rfl rfl ?_
        intro K' hK'
        go_big_quiet_op
        go_big_quiet_on
        refine seg_plain rfl rfl rfl rfl rfl ?_
        intro K' hK'
        go_big_quiet_op
        go_big_quiet_on
        refine seg_call rfl rfl rfl rfl (fun w => by go_simp) (fun w hu hd => back_calls (ls, ms) w) ?_
        simp only [cv]
        simp only [Act.put, List.setIfInBounds_toArray, List.set_cons_zero, List.set_cons_succ]
        refine seg_plain rfl rfl rfl rfl rfl ?_
        intro K' hK'
        go_big_quiet_op
        go_big_quiet_on
        refine seg_plain rfl rfl rfl rfl rfl ?_
        intro K' hK'
        go_big_quiet_op
        go_big_quiet_on
        refine seg_plain rfl rfl rfl rfl rfl ?_
        intro K' hK'
        go_big_quiet_op
        go_big_quiet_on
        refine seg_plain rfl rfl rfl rfl rfl ?_
        intro K' hK'
        go_big_quiet_op
        go_big_quiet_on
        refine seg_plain rfl rfl rfl rfl rfl ?_
        intro K' hK'
        go_big_quiet_op
        go_big_quiet_on
        refine seg_plain rfl rfl rfl rfl rfl ?_
        intro K' hK'
        go_big_quiet_op
        go_big_quiet_on
        refine seg_call rfl rfl rfl rfl (fun w => by go_simp) (fun w hu hd => addR_calls false (q0, r0) (q1, r1) w) ?_
        simp only [cv]
        simp only [Act.put, List.setIfInBounds_toArray, List.set_cons_zero, List.set_cons_succ]
        refine seg_call (v := .bool true) rfl rfl rfl rfl (fun w => by go_simp) (fun w hu hd => (sameR_calls (ls, ms) (addR false (q0, r0) (q1, r1)) w).mono fun e w' ⟨k1, k2⟩ => ⟨by rw [k1, same_eq (hCs.trans (addR_min (q0, r0) (q1, r1)).symm)], k2⟩) ?_
        simp only [Act.put, List.setIfInBounds_toArray, List.set_cons_zero, List.set_cons_succ]
        refine seg_plain rfl rfl rfl rfl rfl ?_
        intro K' hK'
        go_big_quiet_op
        go_big_quiet_on
        refine seg_plain rfl rfl rfl rfl rfl ?_
        intro K' hK'
        go_big_quiet_op
        go_big_quiet_on
        intro w10 hg
        have hv := hg.up
        clear hg e0 e1 e2 e3 e4 e5 e6 e7 e8 e9 e10 e11
        replace hx := hv.at hx (by simp)
        replace hx2 := hv.at hx2 (by simp)
        replace hy := hv.at hy (by simp)
        replace y7 := hv.at y7 (by simp)
        replace y8 := hv.at y8 (by simp)
        replace hm0 := hm0.ext hv
        replace hm1 := hm1.ext hv
        replace hm2 := hm2.ext hv
        replace hms := hms.ext hv
        replace hmp := hmp.ext hv
        replace hU := hU.trans_ext hv
        clear hv
        go_wp2_with fail
        have e0 : ∀ u : Ext w10, u.w.cell? ⟨B8, 0, none⟩ = some (.bool false) := fun u => u.cell (cell_of y8 0)
        have e1 : ∀ u : Ext w10, u.w.cell? ⟨B8, 1, none⟩ = some (.slice gp (W32 (n0 * n1)).length cp) := fun u => u.cell (cell_of y8 1)
        have e2 : ∀ u : Ext w10, u.w.cell? ⟨B8, 2, none⟩ = some (.bool lp) := fun u => u.cell (cell_of y8 2)
        have e3 : ∀ u : Ext w10, u.w.cell? ⟨B8, 3, none⟩ = some (.int .i64 mp) := fun u => u.cell (cell_of y8 3)
        have e4 : ∀ u : Ext w10, u.w.cell? ⟨sz + 1 + 1 + 1, 1, none⟩ = some (.slice a0 (W32 n0).length c0) := fun u => u.cell (cell_of hy 1)
        have e5 : ∀ u : Ext w10, u.w.cell? ⟨sz + 1 + 1 + 1, 5, none⟩ = some (.slice a1 (W32 n1).length c1) := fun u => u.cell (cell_of hy 5)
        have e6 : ∀ u : Ext w10, u.w.cell? ⟨sz, 0, none⟩ = some (.bool false) := fun u => u.cell (cell_of hx 0)
        have e7 : ∀ u : Ext w10, u.w.cell? ⟨sz, 1, none⟩ = some (.bool b1) := fun u => u.cell (cell_of hx 1)
        have e8 : ∀ u : Ext w10, u.w.cell? ⟨sz, 6, none⟩ = some (.bool q0) := fun u => u.cell (cell_of hx 6)
        have e9 : ∀ u : Ext w10, u.w.cell? ⟨sz, 7, none⟩ = some (.int .i64 r0) := fun u => u.cell (cell_of hx 7)
        have e10 : ∀ u : Ext w10, u.w.cell? ⟨sz, 8, none⟩ = some (.bool q1) := fun u => u.cell (cell_of hx 8)
        have e11 : ∀ u : Ext w10, u.w.cell? ⟨sz, 9, none⟩ = some (.int .i64 r1) := fun u => u.cell (cell_of hx 9)
        refine wp_region_seg_all [23, 24, 31, 38, 39] [] [0, 1, 2, 3, 4, 5, 6, 7, 8, 9, 10, 11, 12, 13, 14, 15, 16, 17, 18, 19, 20, 21, 22, 23, 24, 25, 26, 27, 28, 29, 30, 31, 32, 33, 34, 35, 36, 37, 38, 39, 40, 41] (by kernel_rfl) (by kernel_rfl) ?_
        refine seg_plain rfl rfl rfl rfl rfl ?_
        intro K' hK'
        go_big_quiet_op
        go_big_quiet_on
        refine seg_plain rfl rfl rfl rfl rfl ?_
        intro K' hK'
        go_big_quiet_op
        go_big_quiet_on
        refine seg_plain rfl rfl rfl rfl rfl ?_
        intro K' hK'
        go_big_quiet_op
        go_big_quiet_on
        refine seg_plain rfl rfl rfl rfl rfl ?_
        intro K' hK'
        go_big_quiet_op
        go_big_quiet_on
        refine seg_plain rfl rfl rfl rfl rfl ?_
        intro K' hK'
        go_big_quiet_op
        go_big_quiet_on
        refine seg_plain rfl rfl rfl rfl rfl ?_
        intro K' hK'
        go_big_quiet_op
        go_big_quiet_on
        refine seg_skip rfl rfl ?_
        simp only [Act.put, List.setIfInBounds_toArray, List.set_cons_zero, List.set_cons_succ]
        refine seg_skip rfl rfl ?_
        simp only [Act.put, List.setIfInBounds_toArray, List.set_cons_zero, List.set_cons_succ]
        refine seg_skip rfl rfl ?_
        simp only [Act.put, List.setIfInBounds_toArray, List.set_cons_zero, List.set_cons_succ]
        refine seg_plain rfl rfl rfl rfl rfl ?_
        intro K' hK'
        go_big_quiet_op
        go_big_quiet_on
        refine seg_plain rfl rfl rfl rfl rfl ?_
        intro K' hK'
        go_big_quiet_op
        go_big_quiet_on
        refine seg_plain rfl rfl rfl rfl rfl ?_
        intro K' hK'
        go_big_quiet_op
        go_big_quiet_on
        refine seg_plain rfl rfl rfl rfl rfl ?_
        intro K' hK'
        go_big_quiet_op
        go_big_quiet_on
        refine seg_plain rfl rfl rfl rfl rfl ?_
        intro K' hK'
        go_big_quiet_op
        go_big_quiet_on
        refine seg_plain rfl rfl rfl rfl rfl ?_
        intro K' hK'
        go_big_quiet_op
        go_big_quiet_on
        refine seg_plain rfl rfl rfl rfl rfl ?_
        intro K' hK'
        go_big_quiet_op
        go_big_quiet_on
        refine seg_plain rfl rfl rfl rfl rfl ?_
        intro K' hK'
        go_big_quiet_op
        go_big_quiet_on
        refine seg_plain rfl rfl rfl rfl rfl ?_
        intro K' hK'
        go_big_quiet_op
        go_big_quiet_on
        refine seg_plain rfl rfl rfl rfl rfl ?_
        intro K' hK'
        go_big_quiet_op
        go_big_quiet_on
        refine seg_plain rfl rfl rfl rfl rfl ?_
        intro K' hK'
        go_big_quiet_op
        go_big_quiet_on
        refine seg_plain rfl rfl rfl rfl rfl ?_
        intro K' hK'
        go_big_quiet_op
        go_big_quiet_on
        refine seg_plain rfl rfl rfl rfl rfl ?_
        intro K' hK'
        go_big_quiet_op
        go_big_quiet_on
        refine seg_plain rfl rfl rfl rfl rfl ?_
        intro K' hK'
        go_big_quiet_op
        go_big_quiet_on
        refine seg_callO (Y := Nat × Nat) (fun tt => .agg #[.slice (some ⟨tt.1, 0, none⟩) (W32 (n0 * n1)).length tt.2]) (fun tt u => NumS u (some ⟨tt.1, 0, none⟩) tt.2 (n0 * n1)) (fun _ => []) rfl rfl rfl rfl (fun _ _ _ h hu => h.ext hu) (fun _ => List.nodup_nil) (fun w => by go_simp) (fun w hu hd => (mul_calls n0 n1 _ _ _ _ w (hm0.ext hu) (hm1.ext hu) hl0 hl1).mono fun e w' ⟨g, vc, h1, h2, h3⟩ => ⟨(g, vc), h1, h3, h2, fun b hb => by cases hb⟩) ?_
        rintro ⟨gz, cz⟩
        simp only [Act.put, List.setIfInBounds_toArray, List.set_cons_zero, List.set_cons_succ]
        refine seg_call (v := .bool true) rfl rfl rfl rfl (fun w => by go_simp) (fun w hu hd => (nequal_calls (n0 * n1) (n0 * n1) _ _ _ _ w (hmp.ext hu) (hd.1 (by kernel_rfl)) hLp hLp).mono fun e w' ⟨h1, h2⟩ => ⟨by rw [h1]; simp, h2⟩) ?_
        simp only [Act.put, List.setIfInBounds_toArray, List.set_cons_zero, List.set_cons_succ]
        refine seg_plain rfl rfl rfl rfl rfl ?_
        intro K' hK'
        go_big_quiet_op
        go_big_quiet_on
        refine seg_plain rfl rfl rfl rfl rfl ?_
        intro K' hK'
        go_big_quiet_op
        go_big_quiet_on
        refine seg_plain rfl rfl rfl rfl rfl ?_
        intro K' hK'
        go_big_quiet_op
        go_big_quiet_on
        refine seg_plain rfl rfl rfl rfl rfl ?_
        intro K' hK'
        go_big_quiet_op
        go_big_quiet_on
        refine seg_plain rfl rfl rfl rfl rfl ?_
        intro K' hK'
        go_big_quiet_op
        go_big_quiet_on
        refine seg_plain rfl rfl rfl rfl rfl ?_
        intro K' hK'
        go_big_quiet_op
        go_big_quiet_on
        refine seg_call rfl rfl rfl rfl (fun w => by go_simp) (fun w hu hd => back_calls (lp, mp) w) ?_
        simp only [cv]
        simp only [Act.put, List.setIfInBounds_toArray, List.set_cons_zero, List.set_cons_succ]
        refine seg_plain rfl rfl rfl rfl rfl ?_
        intro K' hK'
        go_big_quiet_op
        go_big_quiet_on
        refine seg_plain rfl rfl rfl rfl rfl ?_
        intro K' hK'
        go_big_quiet_op
        go_big_quiet_on
        refine seg_plain rfl rfl rfl rfl rfl ?_
        intro K' hK'
        go_big_quiet_op
        go_big_quiet_on
        refine seg_plain rfl rfl rfl rfl rfl ?_
        intro K' hK'
        go_big_quiet_op
        go_big_quiet_on
        refine seg_plain rfl rfl rfl rfl rfl ?_
        intro K' hK'
        go_big_quiet_op
        go_big_quiet_on
        refine seg_plain rfl rfl rfl rfl rfl ?_
        intro K' hK'
        go_big_quiet_op
        go_big_quiet_on
        refine seg_call rfl rfl rfl rfl (fun w => by go_simp) (fun w hu hd => mulR_calls (q0, r0) (q1, r1) w) ?_
        simp only [cv]
        simp only [Act.put, List.setIfInBounds_toArray, List.set_cons_zero, List.set_cons_succ]
        refine seg_call (v := .bool true) rfl rfl rfl rfl (fun w => by go_simp) (fun w hu hd => (sameR_calls (lp, mp) (andF (q0, r0) (q1, r1)) w).mono fun e w' ⟨k1, k2⟩ => ⟨by rw [k1, same_eq (hCp.trans (andF_mul (q0, r0) (q1, r1) (right_20 h0) (right_20 h1)).symm)], k2⟩) ?_
        simp only [Act.put, List.setIfInBounds_toArray, List.set_cons_zero, List.set_cons_succ]
        refine seg_plain rfl rfl rfl rfl rfl ?_
        intro K' hK'
        go_big_quiet_op
        go_big_quiet_on
        refine seg_plain rfl rfl rfl rfl rfl ?_
        intro K' hK'
        go_big_quiet_op
        go_big_quiet_on
        intro w11 hg
        have hv := hg.up
        clear hg e0 e1 e2 e3 e4 e5 e6 e7 e8 e9 e10 e11
        replace hx := hv.at hx (by simp)
        replace hx2 := hv.at hx2 (by simp)
        replace hy := hv.at hy (by simp)
        replace y7 := hv.at y7 (by simp)
        replace y8 := hv.at y8 (by simp)
        replace hm0 := hm0.ext hv
        replace hm1 := hm1.ext hv
        replace hm2 := hm2.ext hv
        replace hms := hms.ext hv
        replace hmp := hmp.ext hv
        replace hU := hU.trans_ext hv
        clear hv
        clear y7 y8 hms hmp hBs hBp hLs hLp hCs hCp
        cases b1
        · rcases Decidable.em (n0 = n1) with hnn | hnn
          · subst hnn
            have d0 := cell_of hx 0
            have d1 := cell_of hx 1
            have d2 := cell_of hx 3
            have d3 := cell_of hx 4
            have d4 := cell_of hx 6
            have d5 := cell_of hx 7
            have d6 := cell_of hx 8
            have d7 := cell_of hx 9
            simp only [List.getElem?_toArray, List.getElem?_cons_zero, List.getElem?_cons_succ] at d0 d1 d2 d3 d4 d5 d6 d7
            go_wp2_with fail
            refine (sameR_calls (q0, r0) (q1, r1) _).mono ?_
            rintro e w12 ⟨rfl, hv⟩
            clear d0 d1 d2 d3 d4 d5 d6 d7
            replace hx := hv.at hx (by simp)
            replace hx2 := hv.at hx2 (by simp)
            replace hy := hv.at hy (by simp)
            replace hm0 := hm0.ext hv
            replace hm1 := hm1.ext hv
            replace hm2 := hm2.ext hv
            replace hU := hU.trans_ext hv
            clear hv
            have hss := same_iff (a := (q0, r0)) (b := (q1, r1)) (d := sameR (q0, r0) (q1, r1))
            have hsc : sameR (q0, r0) (q1, r1) = true ↔ costO (q0, r0) = costO (q1, r1) := ⟨sameR_cost, same_eq⟩
            clear hss
            generalize sameR (q0, r0) (q1, r1) = ss at *
            have d0 := cell_of hx 0
            have d1 := cell_of hx 1
            have d2 := cell_of hx 3
            have d3 := cell_of hx 4
            have d4 := cell_of hx 6
            have d5 := cell_of hx 7
            have d6 := cell_of hx 8
            have d7 := cell_of hx 9
            have d8 := cell_of hx2 0
            have d9 := cell_of hx2 1
            have d10 := cell_of hy 0
            have d11 := cell_of hy 1
            have d12 := cell_of hy 2
            have d13 := cell_of hy 3
            have d14 := cell_of hy 4
            have d15 := cell_of hy 5
            have d16 := cell_of hy 6
            have d17 := cell_of hy 7
            have d18 := cell_of hy 8
            have d19 := cell_of hy 9
            have d20 := cell_of hy 10
            have d21 := cell_of hy 11
            simp only [List.getElem?_toArray, List.getElem?_cons_zero, List.getElem?_cons_succ] at d0 d1 d2 d3 d4 d5 d6 d7 d8 d9 d10 d11 d12 d13 d14 d15 d16 d17 d18 d19 d20 d21
            have j0 : RepI 1 _ (.agg #[.slice a0 (W32 n0).length c0, .bool q0, .int .i64 r0]) (n0, costO (q0, r0)) := ⟨_, _, _, _, _, rfl, ⟨_, _, rfl, hm0, hb0⟩, repC_right h0⟩
            have j1 : RepI 1 _ (.agg #[.slice a1 (W32 n0).length c1, .bool q1, .int .i64 r1]) (n0, costO (q1, r1)) := ⟨_, _, _, _, _, rfl, ⟨_, _, rfl, hm1, hb1⟩, repC_right h1⟩
            have j2 : RepI 1 _ (.agg #[.slice a2 (W32 n2).length c2, .bool q2, .int .i64 r2]) (n2, costO (q2, r2)) := ⟨_, _, _, _, _, rfl, ⟨_, _, rfl, hm2, hb2⟩, repC_right h2⟩
            have HS := Lib.hid (fun u (hu : Upto [] _ u) => O_same_calls 1 1 (by decide) false a0 _ c0 q0 r0 false a1 _ c1 q1 r1 true ss (by simp) (by rw [hsc]; simp) u rfl rfl (ringI.stable _ _ _ _ _ j0 hu) (ringI.stable _ _ _ _ _ j1 hu))
            clear hsc
            clear j0 j1 j2
            go_wp2_with fail
            refine (HS.out _ (Upto.refl _ _)).mono ?_
            rintro e w13 ⟨rfl, hv⟩
            clear HS d0 d1 d2 d3 d4 d5 d6 d7 d8 d9 d10 d11 d12 d13 d14 d15 d16 d17 d18 d19 d20 d21
            replace hx := hv.at hx (by simp)
            replace hx2 := hv.at hx2 (by simp)
            replace hy := hv.at hy (by simp)
            replace hm0 := hm0.ext hv
            replace hm1 := hm1.ext hv
            replace hm2 := hm2.ext hv
            replace hU := hU.trans_ext hv
            clear hv
            have d0 := cell_of hx2 0
            have d1 := cell_of hx2 1
            have d2 := cell_of hy 0
            have d3 := cell_of hy 1
            have d4 := cell_of hy 2
            have d5 := cell_of hy 3
            have d6 := cell_of hy 4
            have d7 := cell_of hy 5
            have d8 := cell_of hy 6
            have d9 := cell_of hy 7
            have d10 := cell_of hy 8
            have d11 := cell_of hy 9
            have d12 := cell_of hy 10
            have d13 := cell_of hy 11
            simp only [List.getElem?_toArray, List.getElem?_cons_zero, List.getElem?_cons_succ] at d0 d1 d2 d3 d4 d5 d6 d7 d8 d9 d10 d11 d12 d13
            have j0 : RepI 1 _ (.agg #[.slice a0 (W32 n0).length c0, .bool q0, .int .i64 r0]) (n0, costO (q0, r0)) := ⟨_, _, _, _, _, rfl, ⟨_, _, rfl, hm0, hb0⟩, repC_right h0⟩
            have j1 : RepI 1 _ (.agg #[.slice a1 (W32 n0).length c1, .bool q1, .int .i64 r1]) (n0, costO (q1, r1)) := ⟨_, _, _, _, _, rfl, ⟨_, _, rfl, hm1, hb1⟩, repC_right h1⟩
            have j2 : RepI 1 _ (.agg #[.slice a2 (W32 n2).length c2, .bool q2, .int .i64 r2]) (n2, costO (q2, r2)) := ⟨_, _, _, _, _, rfl, ⟨_, _, rfl, hm2, hb2⟩, repC_right h2⟩
            have o0 : RepO 1 _ (.agg #[.bool false, .slice a0 (W32 n0).length c0, .bool q0, .int .i64 r0]) (false, n0, costO (q0, r0)) := ⟨_, _, _, _, _, _, rfl, rfl, j0⟩
            have o1 : RepO 1 _ (.agg #[.bool false, .slice a1 (W32 n0).length c1, .bool q1, .int .i64 r1]) (false, n0, costO (q1, r1)) := ⟨_, _, _, _, _, _, rfl, rfl, j1⟩
            have o2 : RepO 1 _ (.agg #[.bool b2, .slice a2 (W32 n2).length c2, .bool q2, .int .i64 r2]) (b2, n2, costO (q2, r2)) := ⟨_, _, _, _, _, _, rfl, rfl, j2⟩
            have HP := Lib.hid (lawfulP ringO repO_shape false a0 _ c0 q0 r0 false a1 _ c1 q1 r1 b2 a2 _ c2 q2 r2 _ o0 o1 o2)
            clear j0 j1 j2 o0 o1 o2
            go_wp2_with fail
            refine HP.out.mono ?_
            rintro e w14 ⟨rfl, hv⟩
            clear HP d0 d1 d2 d3 d4 d5 d6 d7 d8 d9 d10 d11 d12 d13
            replace hx := hv.at hx (by simp)
            replace hx2 := hv.at hx2 (by simp)
            replace hy := hv.at hy (by simp)
            replace hm0 := hm0.ext hv
            replace hm1 := hm1.ext hv
            replace hm2 := hm2.ext hv
            replace hU := hU.trans_ext hv
            clear hv
            go_wp2_with fail
            refine (HK.out _).mono ?_
            rintro e w15 ⟨rfl, hv⟩
            go_wp2
            go_ret
            exact ⟨rfl, hU.trans_ext hv⟩
          · skip
            have d0 := cell_of hx 0
            have d1 := cell_of hx 1
            have d2 := cell_of hx 3
            have d3 := cell_of hx 4
            have d4 := cell_of hx 6
            have d5 := cell_of hx 7
            have d6 := cell_of hx 8
            have d7 := cell_of hx 9
            simp only [List.getElem?_toArray, List.getElem?_cons_zero, List.getElem?_cons_succ] at d0 d1 d2 d3 d4 d5 d6 d7
            have HN := Lib.hid hnn
            have hni : ¬ (n0 : Int) = n1 := by omega
            clear hnn
            clear d0 d1 d2 d3 d4 d5 d6 d7
            have d0 := cell_of hx 0
            have d1 := cell_of hx 1
            have d2 := cell_of hx 3
            have d3 := cell_of hx 4
            have d4 := cell_of hx 6
            have d5 := cell_of hx 7
            have d6 := cell_of hx 8
            have d7 := cell_of hx 9
            have d8 := cell_of hx2 0
            have d9 := cell_of hx2 1
            have d10 := cell_of hy 0
            have d11 := cell_of hy 1
            have d12 := cell_of hy 2
            have d13 := cell_of hy 3
            have d14 := cell_of hy 4
            have d15 := cell_of hy 5
            have d16 := cell_of hy 6
            have d17 := cell_of hy 7
            have d18 := cell_of hy 8
            have d19 := cell_of hy 9
            have d20 := cell_of hy 10
            have d21 := cell_of hy 11
            simp only [List.getElem?_toArray, List.getElem?_cons_zero, List.getElem?_cons_succ] at d0 d1 d2 d3 d4 d5 d6 d7 d8 d9 d10 d11 d12 d13 d14 d15 d16 d17 d18 d19 d20 d21
            have j0 : RepI 1 _ (.agg #[.slice a0 (W32 n0).length c0, .bool q0, .int .i64 r0]) (n0, costO (q0, r0)) := ⟨_, _, _, _, _, rfl, ⟨_, _, rfl, hm0, hb0⟩, repC_right h0⟩
            have j1 : RepI 1 _ (.agg #[.slice a1 (W32 n1).length c1, .bool q1, .int .i64 r1]) (n1, costO (q1, r1)) := ⟨_, _, _, _, _, rfl, ⟨_, _, rfl, hm1, hb1⟩, repC_right h1⟩
            have j2 : RepI 1 _ (.agg #[.slice a2 (W32 n2).length c2, .bool q2, .int .i64 r2]) (n2, costO (q2, r2)) := ⟨_, _, _, _, _, rfl, ⟨_, _, rfl, hm2, hb2⟩, repC_right h2⟩
            have HS := Lib.hid (fun u (hu : Upto [] _ u) => O_same_calls 1 1 (by decide) false a0 _ c0 q0 r0 false a1 _ c1 q1 r1 true false (by simp) (by simp [HN.out]) u rfl rfl (ringI.stable _ _ _ _ _ j0 hu) (ringI.stable _ _ _ _ _ j1 hu))
            clear j0 j1 j2
            go_wp2_with fail
            refine (HS.out _ (Upto.refl _ _)).mono ?_
            rintro e w13 ⟨rfl, hv⟩
            clear HS d0 d1 d2 d3 d4 d5 d6 d7 d8 d9 d10 d11 d12 d13 d14 d15 d16 d17 d18 d19 d20 d21
            replace hx := hv.at hx (by simp)
            replace hx2 := hv.at hx2 (by simp)
            replace hy := hv.at hy (by simp)
            replace hm0 := hm0.ext hv
            replace hm1 := hm1.ext hv
            replace hm2 := hm2.ext hv
            replace hU := hU.trans_ext hv
            clear hv
            have d0 := cell_of hx2 0
            have d1 := cell_of hx2 1
            have d2 := cell_of hy 0
            have d3 := cell_of hy 1
            have d4 := cell_of hy 2
            have d5 := cell_of hy 3
            have d6 := cell_of hy 4
            have d7 := cell_of hy 5
            have d8 := cell_of hy 6
            have d9 := cell_of hy 7
            have d10 := cell_of hy 8
            have d11 := cell_of hy 9
            have d12 := cell_of hy 10
            have d13 := cell_of hy 11
            simp only [List.getElem?_toArray, List.getElem?_cons_zero, List.getElem?_cons_succ] at d0 d1 d2 d3 d4 d5 d6 d7 d8 d9 d10 d11 d12 d13
            have j0 : RepI 1 _ (.agg #[.slice a0 (W32 n0).length c0, .bool q0, .int .i64 r0]) (n0, costO (q0, r0)) := ⟨_, _, _, _, _, rfl, ⟨_, _, rfl, hm0, hb0⟩, repC_right h0⟩
            have j1 : RepI 1 _ (.agg #[.slice a1 (W32 n1).length c1, .bool q1, .int .i64 r1]) (n1, costO (q1, r1)) := ⟨_, _, _, _, _, rfl, ⟨_, _, rfl, hm1, hb1⟩, repC_right h1⟩
            have j2 : RepI 1 _ (.agg #[.slice a2 (W32 n2).length c2, .bool q2, .int .i64 r2]) (n2, costO (q2, r2)) := ⟨_, _, _, _, _, rfl, ⟨_, _, rfl, hm2, hb2⟩, repC_right h2⟩
            have o0 : RepO 1 _ (.agg #[.bool false, .slice a0 (W32 n0).length c0, .bool q0, .int .i64 r0]) (false, n0, costO (q0, r0)) := ⟨_, _, _, _, _, _, rfl, rfl, j0⟩
            have o1 : RepO 1 _ (.agg #[.bool false, .slice a1 (W32 n1).length c1, .bool q1, .int .i64 r1]) (false, n1, costO (q1, r1)) := ⟨_, _, _, _, _, _, rfl, rfl, j1⟩
            have o2 : RepO 1 _ (.agg #[.bool b2, .slice a2 (W32 n2).length c2, .bool q2, .int .i64 r2]) (b2, n2, costO (q2, r2)) := ⟨_, _, _, _, _, _, rfl, rfl, j2⟩
            have HP := Lib.hid (lawfulP ringO repO_shape false a0 _ c0 q0 r0 false a1 _ c1 q1 r1 b2 a2 _ c2 q2 r2 _ o0 o1 o2)
            clear j0 j1 j2 o0 o1 o2
            go_wp2_with fail
            refine HP.out.mono ?_
            rintro e w14 ⟨rfl, hv⟩
            clear HP d0 d1 d2 d3 d4 d5 d6 d7 d8 d9 d10 d11 d12 d13
            replace hx := hv.at hx (by simp)
            replace hx2 := hv.at hx2 (by simp)
            replace hy := hv.at hy (by simp)
            replace hm0 := hm0.ext hv
            replace hm1 := hm1.ext hv
            replace hm2 := hm2.ext hv
            replace hU := hU.trans_ext hv
            clear hv
            go_wp2_with fail
            refine (HK.out _).mono ?_
            rintro e w15 ⟨rfl, hv⟩
            go_wp2
            go_ret
            exact ⟨rfl, hU.trans_ext hv⟩
        · skip
          have d0 := cell_of hx 0
          have d1 := cell_of hx 1
          have d2 := cell_of hx 3
          have d3 := cell_of hx 4
          have d4 := cell_of hx 6
          have d5 := cell_of hx 7
          have d6 := cell_of hx 8
          have d7 := cell_of hx 9
          simp only [List.getElem?_toArray, List.getElem?_cons_zero, List.getElem?_cons_succ] at d0 d1 d2 d3 d4 d5 d6 d7
          clear d0 d1 d2 d3 d4 d5 d6 d7
          have d0 := cell_of hx 0
          have d1 := cell_of hx 1
          have d2 := cell_of hx 3
          have d3 := cell_of hx 4
          have d4 := cell_of hx 6
          have d5 := cell_of hx 7
          have d6 := cell_of hx 8
          have d7 := cell_of hx 9
          have d8 := cell_of hx2 0
          have d9 := cell_of hx2 1
          have d10 := cell_of hy 0
          have d11 := cell_of hy 1
          have d12 := cell_of hy 2
          have d13 := cell_of hy 3
          have d14 := cell_of hy 4
          have d15 := cell_of hy 5
          have d16 := cell_of hy 6
          have d17 := cell_of hy 7
          have d18 := cell_of hy 8
          have d19 := cell_of hy 9
          have d20 := cell_of hy 10
          have d21 := cell_of hy 11
          simp only [List.getElem?_toArray, List.getElem?_cons_zero, List.getElem?_cons_succ] at d0 d1 d2 d3 d4 d5 d6 d7 d8 d9 d10 d11 d12 d13 d14 d15 d16 d17 d18 d19 d20 d21
          have j0 : RepI 1 _ (.agg #[.slice a0 (W32 n0).length c0, .bool q0, .int .i64 r0]) (n0, costO (q0, r0)) := ⟨_, _, _, _, _, rfl, ⟨_, _, rfl, hm0, hb0⟩, repC_right h0⟩
          have j1 : RepI 1 _ (.agg #[.slice a1 (W32 n1).length c1, .bool q1, .int .i64 r1]) (n1, costO (q1, r1)) := ⟨_, _, _, _, _, rfl, ⟨_, _, rfl, hm1, hb1⟩, repC_right h1⟩
          have j2 : RepI 1 _ (.agg #[.slice a2 (W32 n2).length c2, .bool q2, .int .i64 r2]) (n2, costO (q2, r2)) := ⟨_, _, _, _, _, rfl, ⟨_, _, rfl, hm2, hb2⟩, repC_right h2⟩
          obtain ⟨dB, hdB⟩ : ∃ d : Bool, (d = true ↔ ((n0, costO (q0, r0)) : Nat × Option Int) = (n1, costO (q1, r1))) := bool_of _
          have HDB := Lib.hid hdB
          clear hdB
          have HS := Lib.hid (fun u (hu : Upto [] _ u) => O_same_calls 1 1 (by decide) false a0 _ c0 q0 r0 true a1 _ c1 q1 r1 false dB (by simp) HDB.out u rfl rfl (ringI.stable _ _ _ _ _ j0 hu) (ringI.stable _ _ _ _ _ j1 hu))
          clear j0 j1 j2
          go_wp2_with fail
          refine (HS.out _ (Upto.refl _ _)).mono ?_
          rintro e w13 ⟨rfl, hv⟩
          clear HS d0 d1 d2 d3 d4 d5 d6 d7 d8 d9 d10 d11 d12 d13 d14 d15 d16 d17 d18 d19 d20 d21
          replace hx := hv.at hx (by simp)
          replace hx2 := hv.at hx2 (by simp)
          replace hy := hv.at hy (by simp)
          replace hm0 := hm0.ext hv
          replace hm1 := hm1.ext hv
          replace hm2 := hm2.ext hv
          replace hU := hU.trans_ext hv
          clear hv
          have d0 := cell_of hx2 0
          have d1 := cell_of hx2 1
          have d2 := cell_of hy 0
          have d3 := cell_of hy 1
          have d4 := cell_of hy 2
          have d5 := cell_of hy 3
          have d6 := cell_of hy 4
          have d7 := cell_of hy 5
          have d8 := cell_of hy 6
          have d9 := cell_of hy 7
          have d10 := cell_of hy 8
          have d11 := cell_of hy 9
          have d12 := cell_of hy 10
          have d13 := cell_of hy 11
          simp only [List.getElem?_toArray, List.getElem?_cons_zero, List.getElem?_cons_succ] at d0 d1 d2 d3 d4 d5 d6 d7 d8 d9 d10 d11 d12 d13
          have j0 : RepI 1 _ (.agg #[.slice a0 (W32 n0).length c0, .bool q0, .int .i64 r0]) (n0, costO (q0, r0)) := ⟨_, _, _, _, _, rfl, ⟨_, _, rfl, hm0, hb0⟩, repC_right h0⟩
          have j1 : RepI 1 _ (.agg #[.slice a1 (W32 n1).length c1, .bool q1, .int .i64 r1]) (n1, costO (q1, r1)) := ⟨_, _, _, _, _, rfl, ⟨_, _, rfl, hm1, hb1⟩, repC_right h1⟩
          have j2 : RepI 1 _ (.agg #[.slice a2 (W32 n2).length c2, .bool q2, .int .i64 r2]) (n2, costO (q2, r2)) := ⟨_, _, _, _, _, rfl, ⟨_, _, rfl, hm2, hb2⟩, repC_right h2⟩
          have o0 : RepO 1 _ (.agg #[.bool false, .slice a0 (W32 n0).length c0, .bool q0, .int .i64 r0]) (false, n0, costO (q0, r0)) := ⟨_, _, _, _, _, _, rfl, rfl, j0⟩
          have o1 : RepO 1 _ (.agg #[.bool true, .slice a1 (W32 n1).length c1, .bool q1, .int .i64 r1]) (true, n1, costO (q1, r1)) := ⟨_, _, _, _, _, _, rfl, rfl, j1⟩
          have o2 : RepO 1 _ (.agg #[.bool b2, .slice a2 (W32 n2).length c2, .bool q2, .int .i64 r2]) (b2, n2, costO (q2, r2)) := ⟨_, _, _, _, _, _, rfl, rfl, j2⟩
          have HP := Lib.hid (lawfulP ringO repO_shape false a0 _ c0 q0 r0 true a1 _ c1 q1 r1 b2 a2 _ c2 q2 r2 _ o0 o1 o2)
          clear j0 j1 j2 o0 o1 o2
          go_wp2_with fail
          refine HP.out.mono ?_
          rintro e w14 ⟨rfl, hv⟩
          clear HP d0 d1 d2 d3 d4 d5 d6 d7 d8 d9 d10 d11 d12 d13
          replace hx := hv.at hx (by simp)
          replace hx2 := hv.at hx2 (by simp)
          replace hy := hv.at hy (by simp)
          replace hm0 := hm0.ext hv
          replace hm1 := hm1.ext hv
          replace hm2 := hm2.ext hv
          replace hU := hU.trans_ext hv
          clear hv
          go_wp2_with fail
          refine (HK.out _).mono ?_
          rintro e w15 ⟨rfl, hv⟩
          go_wp2
          go_ret
          exact ⟨rfl, hU.trans_ext hv⟩
      · simp only [Bool.true_or, Bool.false_or, Bool.true_and, Bool.false_and] at y7 y8
        have e0 : ∀ u : Ext V, u.w.cell? ⟨B7, 0, none⟩ = some (.bool true) := fun u => u.cell (cell_of y7 0)
        have e1 : ∀ u : Ext V, u.w.cell? ⟨B7, 1, none⟩ = some (.slice gs (W32 (n0 + n1)).length cs) := fun u => u.cell (cell_of y7 1)
        have e2 : ∀ u : Ext V, u.w.cell? ⟨B7, 2, none⟩ = some (.bool ls) := fun u => u.cell (cell_of y7 2)
        have e3 : ∀ u : Ext V, u.w.cell? ⟨B7, 3, none⟩ = some (.int .i64 ms) := fun u => u.cell (cell_of y7 3)
        have e4 : ∀ u : Ext V, u.w.cell? ⟨sz + 1 + 1 + 1, 1, none⟩ = some (.slice a0 (W32 n0).length c0) := fun u => u.cell (cell_of hy 1)
        have e5 : ∀ u : Ext V, u.w.cell? ⟨sz + 1 + 1 + 1, 5, none⟩ = some (.slice a1 (W32 n1).length c1) := fun u => u.cell (cell_of hy 5)
        have e6 : ∀ u : Ext V, u.w.cell? ⟨sz, 0, none⟩ = some (.bool true) := fun u => u.cell (cell_of hx 0)
        have e7 : ∀ u : Ext V, u.w.cell? ⟨sz, 1, none⟩ = some (.bool b1) := fun u => u.cell (cell_of hx 1)
        have e8 : ∀ u : Ext V, u.w.cell? ⟨sz, 6, none⟩ = some (.bool q0) := fun u => u.cell (cell_of hx 6)
        have e9 : ∀ u : Ext V, u.w.cell? ⟨sz, 7, none⟩ = some (.int .i64 r0) := fun u => u.cell (cell_of hx 7)
        have e10 : ∀ u : Ext V, u.w.cell? ⟨sz, 8, none⟩ = some (.bool q1) := fun u => u.cell (cell_of hx 8)
        have e11 : ∀ u : Ext V, u.w.cell? ⟨sz, 9, none⟩ = some (.int .i64 r1) := fun u => u.cell (cell_of hx 9)
        refine wp_region_seg_all [23, 24, 31, 38, 39] [] [0, 1, 2, 3, 4, 5, 6, 7, 8, 9, 10, 11, 12, 13, 14, 15, 16, 17, 18, 19, 20, 21, 22, 23, 24, 25, 26, 27, 28, 29, 30, 31, 32, 33, 34, 35, 36, 37, 38, 39, 40, 41] (by kernel_rfl) (by kernel_rfl) ?_
        refine seg_plain rfl rfl rfl rfl rfl ?_
        intro K' hK'
        go_big_quiet_op
        go_big_quiet_on
        refine seg_plain rfl rfl rfl rfl rfl ?_
        intro K' hK'
        go_big_quiet_op
        go_big_quiet_on
        refine seg_plain rfl rfl rfl rfl rfl ?_
        intro K' hK'
        go_big_quiet_op
        go_big_quiet_on
        refine seg_plain rfl rfl rfl rfl rfl ?_
        intro K' hK'
        go_big_quiet_op
        go_big_quiet_on
        refine seg_plain rfl rfl rfl rfl rfl ?_
        intro K' hK'
        go_big_quiet_op
        go_big_quiet_on
        refine seg_plain rfl rfl rfl rfl rfl ?_
        intro K' hK'
        go_big_quiet_op
        go_big_quiet_on
        refine seg_skip rfl rfl ?_
        simp only [Act.put, List.setIfInBounds_toArray, List.set_cons_zero, List.set_cons_succ]
        refine seg_skip rfl rfl ?_
        simp only [Act.put, List.setIfInBounds_toArray, List.set_cons_zero, List.set_cons_succ]
        refine seg_skip rfl rfl ?_
        simp only [Act.put, List.setIfInBounds_toArray, List.set_cons_zero, List.set_cons_succ]
        refine seg_plain rfl rfl rfl rfl rfl ?_
        intro K' hK'
        go_big_quiet_op
        go_big_quiet_on
        refine seg_plain rfl rfl rfl rfl rfl ?_
        intro K' hK'
        go_big_quiet_op
        go_big_quiet_on
        refine seg_plain rfl rfl rfl rfl rfl ?_
        intro K' hK'
        go_big_quiet_op
        go_big_quiet_on
        refine seg_plain rfl rfl rfl rfl rfl ?_
        intro K' hK'
        go_big_quiet_op
        go_big_quiet_on
        refine seg_plain rfl rfl rfl rfl rfl ?_
        intro K' hK'
        go_big_quiet_op
        go_big_quiet_on
        refine seg_plain rfl rfl rfl rfl rfl ?_
        intro K' hK'
        go_big_quiet_op
        go_big_quiet_on
        refine seg_plain rfl rfl rfl rfl rfl ?_
        intro K' hK'
        go_big_quiet_op
        go_big_quiet_on
        refine seg_plain rfl rfl rfl rfl rfl ?_
        intro K' hK'
        go_big_quiet_op
        go_big_quiet_on
        refine seg_plain rfl rfl rfl rfl rfl ?_
        intro K' hK'
        go_big_quiet_op
        go_big_quiet_on
        refine seg_plain rfl rfl rfl rfl rfl ?_
        intro K' hK'
        go_big_quiet_op
        go_big_quiet_on
        refine seg_plain rfl rfl rfl rfl rfl ?_
        intro K' hK'
        go_big_quiet_op
        go_big_quiet_on
        refine seg_plain rfl rfl rfl rfl rfl ?_
        intro K' hK'
        go_big_quiet_op
        go_big_quiet_on
        refine seg_plain rfl rfl rfl rfl rfl ?_
        intro K' hK'
        go_big_quiet_op
        go_big_quiet_on
        refine seg_plain rfl rfl rfl rfl rfl ?_
        intro K' hK'
        go_big_quiet_op
        go_big_quiet_on
        refine seg_callO (Y := Nat × Nat) (fun tt => .agg #[.slice (some ⟨tt.1, 0, none⟩) (W32 (n0 + n1)).length tt.2]) (fun tt u => NumS u (some ⟨tt.1, 0, none⟩) tt.2 (n0 + n1)) (fun _ => []) rfl rfl rfl rfl (fun _ _ _ h hu => h.ext hu) (fun _ => List.nodup_nil) (fun w => by go_simp) (fun w hu hd => (add_calls n0 n1 _ _ _ _ w (hm0.ext hu) (hm1.ext hu) hl0 hl1).mono fun e w' ⟨g, vc, h1, h2, h3⟩ => ⟨(g, vc), h1, h3, h2, fun b hb => by cases hb⟩) ?_
        rintro ⟨gz, cz⟩
        simp only [Act.put, List.setIfInBounds_toArray, List.set_cons_zero, List.set_cons_succ]
        refine seg_call (v := .bool true) rfl rfl rfl rfl (fun w => by go_simp) (fun w hu hd => (nequal_calls (n0 + n1) (n0 + n1) _ _ _ _ w (hms.ext hu) (hd.1 (by kernel_rfl)) hLs hLs).mono fun e w' ⟨h1, h2⟩ => ⟨by rw [h1]; simp, h2⟩) ?_
        simp only [Act.put, List.setIfInBounds_toArray, List.set_cons_zero, List.set_cons_succ]
        refine seg_plain rfl rfl rfl rfl rfl ?_
        intro K' hK'
        go_big_quiet_op
        go_big_quiet_on
        refine seg_plain rfl rfl rfl rfl rfl ?_
        intro K' hK'
        go_big_quiet_op
        go_big_quiet_on
        refine seg_plain rfl rfl rfl rfl rfl ?_
        intro K' hK'
        go_big_quiet_op
        go_big_quiet_on
        refine seg_plain rfl rfl rfl rfl rfl ?_
        intro K' hK'
        go_big_quiet_op
        go_big_quiet_on
        refine seg_plain rfl rfl rfl rfl rfl ?_
        intro K' hK'
        go_big_quiet_op
        go_big_quiet_on
        refine seg_plain rfl rfl rfl rfl rfl ?_
        intro K' hK'
        go_big_quiet_op
        go_big_quiet_on
        refine seg_call rfl rfl rfl rfl (fun w => by go_simp) (fun w hu hd => back_calls (ls, ms) w) ?_
        simp only [cv]
        simp only [Act.put, List.setIfInBounds_toArray, List.set_cons_zero, List.set_cons_succ]
        refine seg_plain rfl rfl rfl rfl rfl ?_
        intro K' hK'
        go_big_quiet_op
        go_big_quiet_on
        refine seg_plain rfl rfl rfl rfl rfl ?_
        intro K' hK'
        go_big_quiet_op
        go_big_quiet_on
        refine seg_plain rfl rfl rfl rfl rfl ?_
        intro K' hK'
        go_big_quiet_op
        go_big_quiet_on
        refine seg_plain rfl rfl rfl rfl rfl ?_
        intro K' hK'
        go_big_quiet_op
        go_big_quiet_on
        refine seg_plain rfl rfl rfl rfl rfl ?_
        intro K' hK'
        go_big_quiet_op
        go_big_quiet_on
        refine seg_plain rfl rfl rfl rfl rfl ?_
        intro K' hK'
        go_big_quiet_op
        go_big_quiet_on
        refine seg_call rfl rfl rfl rfl (fun w => by go_simp) (fun w hu hd => addR_calls false (q0, r0) (q1, r1) w) ?_
        simp only [cv]
        simp only [Act.put, List.setIfInBounds_toArray, List.set_cons_zero, List.set_cons_succ]
        refine seg_call (v := .bool true) rfl rfl rfl rfl (fun w => by go_simp) (fun w hu hd => (sameR_calls (ls, ms) (addR false (q0, r0) (q1, r1)) w).mono fun e w' ⟨k1, k2⟩ => ⟨by rw [k1, same_eq (hCs.trans (addR_min (q0, r0) (q1, r1)).symm)], k2⟩) ?_
        simp only [Act.put, List.setIfInBounds_toArray, List.set_cons_zero, List.set_cons_succ]
        refine seg_plain rfl rfl rfl rfl rfl ?_
        intro K' hK'
        go_big_quiet_op
        go_big_quiet_on
        refine seg_plain rfl rfl rfl rfl rfl ?_
        intro K' hK'
        go_big_quiet_op
        go_big_quiet_on
        intro w10 hg
        have hv := hg.up
        clear hg e0 e1 e2 e3 e4 e5 e6 e7 e8 e9 e10 e11
        replace hx := hv.at hx (by simp)
        replace hx2 := hv.at hx2 (by simp)
        replace hy := hv.at hy (by simp)
        replace y7 := hv.at y7 (by simp)
        replace y8 := hv.at y8 (by simp)
        replace hm0 := hm0.ext hv
        replace hm1 := hm1.ext hv
        replace hm2 := hm2.ext hv
        replace hms := hms.ext hv
        replace hmp := hmp.ext hv
        replace hU := hU.trans_ext hv
        clear hv
        go_wp2_with fail
        have e0 : ∀ u : Ext w10, u.w.cell? ⟨B8, 0, none⟩ = some (.bool b1) := fun u => u.cell (cell_of y8 0)
        have e1 : ∀ u : Ext w10, u.w.cell? ⟨B8, 1, none⟩ = some (.slice gp (W32 (n0 * n1)).length cp) := fun u => u.cell (cell_of y8 1)
        have e2 : ∀ u : Ext w10, u.w.cell? ⟨B8, 2, none⟩ = some (.bool lp) := fun u => u.cell (cell_of y8 2)
        have e3 : ∀ u : Ext w10, u.w.cell? ⟨B8, 3, none⟩ = some (.int .i64 mp) := fun u => u.cell (cell_of y8 3)
        have e4 : ∀ u : Ext w10, u.w.cell? ⟨sz + 1 + 1 + 1, 1, none⟩ = some (.slice a0 (W32 n0).length c0) := fun u => u.cell (cell_of hy 1)
        have e5 : ∀ u : Ext w10, u.w.cell? ⟨sz + 1 + 1 + 1, 5, none⟩ = some (.slice a1 (W32 n1).length c1) := fun u => u.cell (cell_of hy 5)
        have e6 : ∀ u : Ext w10, u.w.cell? ⟨sz, 0, none⟩ = some (.bool true) := fun u => u.cell (cell_of hx 0)
        have e7 : ∀ u : Ext w10, u.w.cell? ⟨sz, 1, none⟩ = some (.bool b1) := fun u => u.cell (cell_of hx 1)
        have e8 : ∀ u : Ext w10, u.w.cell? ⟨sz, 6, none⟩ = some (.bool q0) := fun u => u.cell (cell_of hx 6)
        have e9 : ∀ u : Ext w10, u.w.cell? ⟨sz, 7, none⟩ = some (.int .i64 r0) := fun u => u.cell (cell_of hx 7)
        have e10 : ∀ u : Ext w10, u.w.cell? ⟨sz, 8, none⟩ = some (.bool q1) := fun u => u.cell (cell_of hx 8)
        have e11 : ∀ u : Ext w10, u.w.cell? ⟨sz, 9, none⟩ = some (.int .i64 r1) := fun u => u.cell (cell_of hx 9)
        refine wp_region_seg_all [23, 24, 31, 38, 39] [] [0, 1, 2, 3, 4, 5, 6, 7, 8, 9, 10, 11, 12, 13, 14, 15, 16, 17, 18, 19, 20, 21, 22, 23, 24, 25, 26, 27, 28, 29, 30, 31, 32, 33, 34, 35, 36, 37, 38, 39, 40, 41] (by kernel_rfl) (by kernel_rfl) ?_
        refine seg_plain rfl rfl rfl rfl rfl ?_
        intro K' hK'
        go_big_quiet_op
        go_big_quiet_on
        refine seg_plain rfl rfl rfl rfl rfl ?_
        intro K' hK'
        go_big_quiet_op
        go_big_quiet_on
        refine seg_plain rfl rfl rfl rfl rfl ?_
        intro K' hK'
        go_big_quiet_op
        go_big_quiet_on
        refine seg_plain rfl rfl rfl rfl rfl ?_
        intro K' hK'
        go_big_quiet_op
        go_big_quiet_on
        refine seg_plain rfl rfl rfl rfl rfl ?_
        intro K' hK'
        go_big_quiet_op
        go_big_quiet_on
        refine seg_plain rfl rfl rfl rfl rfl ?_
        intro K' hK'
        go_big_quiet_op
        go_big_quiet_on
        refine seg_plain rfl rfl rfl rfl rfl ?_
        intro K' hK'
        go_big_quiet_op
        go_big_quiet_on
        refine seg_plain rfl rfl rfl rfl rfl ?_
        intro K' hK'
        go_big_quiet_op
        go_big_quiet_on
        refine seg_plain rfl rfl rfl rfl rfl ?_
        intro K' hK'
        go_big_quiet_op
        go_big_quiet_on
        refine seg_plain rfl rfl rfl rfl rfl ?_
        intro K' hK'
        go_big_quiet_op
        go_big_quiet_on
        refine seg_plain rfl rfl rfl rfl rfl ?_
        intro K' hK'
        go_big_quiet_op
        go_big_quiet_on
        refine seg_plain rfl rfl rfl rfl rfl ?_
        intro K' hK'
        go_big_quiet_op
        go_big_quiet_on
        refine seg_plain rfl rfl rfl rfl rfl ?_
        intro K' hK'
        go_big_quiet_op
        go_big_quiet_on
        refine seg_plain rfl rfl rfl rfl rfl ?_
        intro K' hK'
        go_big_quiet_op
        go_big_quiet_on
        refine seg_plain rfl rfl rfl rfl rfl ?_
        intro K' hK'
        go_big_quiet_op
        go_big_quiet_on
        refine seg_plain rfl rfl rfl rfl rfl ?_
        intro K' hK'
        go_big_quiet_op
        go_big_quiet_on
        refine seg_plain rfl rfl rfl rfl rfl ?_
        intro K' hK'
        go_big_quiet_op
        go_big_quiet_on
        refine seg_plain rfl rfl rfl rfl rfl ?_
        intro K' hK'
        go_big_quiet_op
        go_big_quiet_on
        refine seg_plain rfl rfl rfl rfl rfl ?_
        intro K' hK'
        go_big_quiet_op
        go_big_quiet_on
        refine seg_plain rfl rfl rfl rfl rfl ?_
        intro K' hK'
        go_big_quiet_op
        go_big_quiet_on
        refine seg_plain rfl rfl rfl rfl rfl ?_
        intro K' hK'
        go_big_quiet_op
        go_big_quiet_on
        refine seg_plain rfl rfl rfl rfl rfl ?_
        intro K' hK'
        go_big_quiet_op
        go_big_quiet_on
        refine seg_plain rfl rfl rfl rfl rfl ?_
        intro K' hK'
        go_big_quiet_op
        go_big_quiet_on
        refine seg_callO (Y := Nat × Nat) (fun tt => .agg #[.slice (some ⟨tt.1, 0, none⟩) (W32 (n0 * n1)).length tt.2]) (fun tt u => NumS u (some ⟨tt.1, 0, none⟩) tt.2 (n0 * n1)) (fun _ => []) rfl rfl rfl rfl (fun _ _ _ h hu => h.ext hu) (fun _ => List.nodup_nil) (fun w => by go_simp) (fun w hu hd => (mul_calls n0 n1 _ _ _ _ w (hm0.ext hu) (hm1.ext hu) hl0 hl1).mono fun e w' ⟨g, vc, h1, h2, h3⟩ => ⟨(g, vc), h1, h3, h2, fun b hb => by cases hb⟩) ?_
        rintro ⟨gz, cz⟩
        simp only [Act.put, List.setIfInBounds_toArray, List.set_cons_zero, List.set_cons_succ]
        refine seg_call (v := .bool true) rfl rfl rfl rfl (fun w => by go_simp) (fun w hu hd => (nequal_calls (n0 * n1) (n0 * n1) _ _ _ _ w (hmp.ext hu) (hd.1 (by kernel_rfl)) hLp hLp).mono fun e w' ⟨h1, h2⟩ => ⟨by rw [h1]; simp, h2⟩) ?_
        simp only [Act.put, List.setIfInBounds_toArray, List.set_cons_zero, List.set_cons_succ]
        refine seg_plain rfl rfl rfl rfl rfl ?_
        intro K' hK'
        go_big_quiet_op
        go_big_quiet_on
        refine seg_plain rfl rfl rfl rfl rfl ?_
        intro K' hK'
        go_big_quiet_op
        go_big_quiet_on
        refine seg_plain rfl rfl rfl rfl rfl ?_
        intro K' hK'
        go_big_quiet_op
        go_big_quiet_on
        refine seg_plain rfl rfl rfl rfl rfl ?_
        intro K' hK'
        go_big_quiet_op
        go_big_quiet_on
        refine seg_plain rfl rfl rfl rfl rfl ?_
        intro K' hK'
        go_big_quiet_op
        go_big_quiet_on
        refine seg_plain rfl rfl rfl rfl rfl ?_
        intro K' hK'
        go_big_quiet_op
        go_big_quiet_on
        refine seg_call rfl rfl rfl rfl (fun w => by go_simp) (fun w hu hd => back_calls (lp, mp) w) ?_
        simp only [cv]
        simp only [Act.put, List.setIfInBounds_toArray, List.set_cons_zero, List.set_cons_succ]
        refine seg_plain rfl rfl rfl rfl rfl ?_
        intro K' hK'
        go_big_quiet_op
        go_big_quiet_on
        refine seg_plain rfl rfl rfl rfl rfl ?_
        intro K' hK'
        go_big_quiet_op
        go_big_quiet_on
        refine seg_plain rfl rfl rfl rfl rfl ?_
        intro K' hK'
        go_big_quiet_op
        go_big_quiet_on
        refine seg_plain rfl rfl rfl rfl rfl ?_
        intro K' hK'
        go_big_quiet_op
        go_big_quiet_on
        refine seg_plain rfl rfl rfl rfl rfl ?_
        intro K' hK'
        go_big_quiet_op
        go_big_quiet_on
        refine seg_plain rfl rfl rfl rfl rfl ?_
        intro K' hK'
        go_big_quiet_op
        go_big_quiet_on
        refine seg_call rfl rfl rfl rfl (fun w => by go_simp) (fun w hu hd => mulR_calls (q0, r0) (q1, r1) w) ?_
        simp only [cv]
        simp only [Act.put, List.setIfInBounds_toArray, List.set_cons_zero, List.set_cons_succ]
        refine seg_call (v := .bool true) rfl rfl rfl rfl (fun w => by go_simp) (fun w hu hd => (sameR_calls (lp, mp) (andF (q0, r0) (q1, r1)) w).mono fun e w' ⟨k1, k2⟩ => ⟨by rw [k1, same_eq (hCp.trans (andF_mul (q0, r0) (q1, r1) (right_20 h0) (right_20 h1)).symm)], k2⟩) ?_
        simp only [Act.put, List.setIfInBounds_toArray, List.set_cons_zero, List.set_cons_succ]
        refine seg_plain rfl rfl rfl rfl rfl ?_
        intro K' hK'
        go_big_quiet_op
        go_big_quiet_on
        refine seg_plain rfl rfl rfl rfl rfl ?_
        intro K' hK'
        go_big_quiet_op
        go_big_quiet_on
        intro w11 hg
        have hv := hg.up
        clear hg e0 e1 e2 e3 e4 e5 e6 e7 e8 e9 e10 e11
        replace hx := hv.at hx (by simp)
        replace hx2 := hv.at hx2 (by simp)
        replace hy := hv.at hy (by simp)
        replace y7 := hv.at y7 (by simp)
        replace y8 := hv.at y8 (by simp)
        replace hm0 := hm0.ext hv
        replace hm1 := hm1.ext hv
        replace hm2 := hm2.ext hv
        replace hms := hms.ext hv
        replace hmp := hmp.ext hv
        replace hU := hU.trans_ext hv
        clear hv
        clear y7 y8 hms hmp hBs hBp hLs hLp hCs hCp
        cases b1
        · skip
          have d0 := cell_of hx 0
          have d1 := cell_of hx 1
          have d2 := cell_of hx 3
          have d3 := cell_of hx 4
          have d4 := cell_of hx 6
          have d5 := cell_of hx 7
          have d6 := cell_of hx 8
          have d7 := cell_of hx 9
          simp only [List.getElem?_toArray, List.getElem?_cons_zero, List.getElem?_cons_succ] at d0 d1 d2 d3 d4 d5 d6 d7
          clear d0 d1 d2 d3 d4 d5 d6 d7
          have d0 := cell_of hx 0
          have d1 := cell_of hx 1
          have d2 := cell_of hx 3
          have d3 := cell_of hx 4
          have d4 := cell_of hx 6
          have d5 := cell_of hx 7
          have d6 := cell_of hx 8
          have d7 := cell_of hx 9
          have d8 := cell_of hx2 0
          have d9 := cell_of hx2 1
          have d10 := cell_of hy 0
          have d11 := cell_of hy 1
          have d12 := cell_of hy 2
          have d13 := cell_of hy 3
          have d14 := cell_of hy 4
          have d15 := cell_of hy 5
          have d16 := cell_of hy 6
          have d17 := cell_of hy 7
          have d18 := cell_of hy 8
          have d19 := cell_of hy 9
          have d20 := cell_of hy 10
          have d21 := cell_of hy 11
          simp only [List.getElem?_toArray, List.getElem?_cons_zero, List.getElem?_cons_succ] at d0 d1 d2 d3 d4 d5 d6 d7 d8 d9 d10 d11 d12 d13 d14 d15 d16 d17 d18 d19 d20 d21
          have j0 : RepI 1 _ (.agg #[.slice a0 (W32 n0).length c0, .bool q0, .int .i64 r0]) (n0, costO (q0, r0)) := ⟨_, _, _, _, _, rfl, ⟨_, _, rfl, hm0, hb0⟩, repC_right h0⟩
          have j1 : RepI 1 _ (.agg #[.slice a1 (W32 n1).length c1, .bool q1, .int .i64 r1]) (n1, costO (q1, r1)) := ⟨_, _, _, _, _, rfl, ⟨_, _, rfl, hm1, hb1⟩, repC_right h1⟩
          have j2 : RepI 1 _ (.agg #[.slice a2 (W32 n2).length c2, .bool q2, .int .i64 r2]) (n2, costO (q2, r2)) := ⟨_, _, _, _, _, rfl, ⟨_, _, rfl, hm2, hb2⟩, repC_right h2⟩
          obtain ⟨dB, hdB⟩ : ∃ d : Bool, (d = true ↔ ((n0, costO (q0, r0)) : Nat × Option Int) = (n1, costO (q1, r1))) := bool_of _
          have HDB := Lib.hid hdB
          clear hdB
          have HS := Lib.hid (fun u (hu : Upto [] _ u) => O_same_calls 1 1 (by decide) true a0 _ c0 q0 r0 false a1 _ c1 q1 r1 false dB (by simp) HDB.out u rfl rfl (ringI.stable _ _ _ _ _ j0 hu) (ringI.stable _ _ _ _ _ j1 hu))
          clear j0 j1 j2
          go_wp2_with fail
          refine (HS.out _ (Upto.refl _ _)).mono ?_
          rintro e w13 ⟨rfl, hv⟩
          clear HS d0 d1 d2 d3 d4 d5 d6 d7 d8 d9 d10 d11 d12 d13 d14 d15 d16 d17 d18 d19 d20 d21
          replace hx := hv.at hx (by simp)
          replace hx2 := hv.at hx2 (by simp)
          replace hy := hv.at hy (by simp)
          replace hm0 := hm0.ext hv
          replace hm1 := hm1.ext hv
          replace hm2 := hm2.ext hv
          replace hU := hU.trans_ext hv
          clear hv
          have d0 := cell_of hx2 0
          have d1 := cell_of hx2 1
          have d2 := cell_of hy 0
          have d3 := cell_of hy 1
          have d4 := cell_of hy 2
          have d5 := cell_of hy 3
          have d6 := cell_of hy 4
          have d7 := cell_of hy 5
          have d8 := cell_of hy 6
          have d9 := cell_of hy 7
          have d10 := cell_of hy 8
          have d11 := cell_of hy 9
          have d12 := cell_of hy 10
          have d13 := cell_of hy 11
          simp only [List.getElem?_toArray, List.getElem?_cons_zero, List.getElem?_cons_succ] at d0 d1 d2 d3 d4 d5 d6 d7 d8 d9 d10 d11 d12 d13
          have j0 : RepI 1 _ (.agg #[.slice a0 (W32 n0).length c0, .bool q0, .int .i64 r0]) (n0, costO (q0, r0)) := ⟨_, _, _, _, _, rfl, ⟨_, _, rfl, hm0, hb0⟩, repC_right h0⟩
          have j1 : RepI 1 _ (.agg #[.slice a1 (W32 n1).length c1, .bool q1, .int .i64 r1]) (n1, costO (q1, r1)) := ⟨_, _, _, _, _, rfl, ⟨_, _, rfl, hm1, hb1⟩, repC_right h1⟩
          have j2 : RepI 1 _ (.agg #[.slice a2 (W32 n2).length c2, .bool q2, .int .i64 r2]) (n2, costO (q2, r2)) := ⟨_, _, _, _, _, rfl, ⟨_, _, rfl, hm2, hb2⟩, repC_right h2⟩
          have o0 : RepO 1 _ (.agg #[.bool true, .slice a0 (W32 n0).length c0, .bool q0, .int .i64 r0]) (true, n0, costO (q0, r0)) := ⟨_, _, _, _, _, _, rfl, rfl, j0⟩
          have o1 : RepO 1 _ (.agg #[.bool false, .slice a1 (W32 n1).length c1, .bool q1, .int .i64 r1]) (false, n1, costO (q1, r1)) := ⟨_, _, _, _, _, _, rfl, rfl, j1⟩
          have o2 : RepO 1 _ (.agg #[.bool b2, .slice a2 (W32 n2).length c2, .bool q2, .int .i64 r2]) (b2, n2, costO (q2, r2)) := ⟨_, _, _, _, _, _, rfl, rfl, j2⟩
          have HP := Lib.hid (lawfulP ringO repO_shape true a0 _ c0 q0 r0 false a1 _ c1 q1 r1 b2 a2 _ c2 q2 r2 _ o0 o1 o2)
          clear j0 j1 j2 o0 o1 o2
          go_wp2_with fail
          refine HP.out.mono ?_
          rintro e w14 ⟨rfl, hv⟩
          clear HP d0 d1 d2 d3 d4 d5 d6 d7 d8 d9 d10 d11 d12 d13
          replace hx := hv.at hx (by simp)
          replace hx2 := hv.at hx2 (by simp)
          replace hy := hv.at hy (by simp)
          replace hm0 := hm0.ext hv
          replace hm1 := hm1.ext hv
          replace hm2 := hm2.ext hv
          replace hU := hU.trans_ext hv
          clear hv
          go_wp2_with fail
          refine (HK.out _).mono ?_
          rintro e w15 ⟨rfl, hv⟩
          go_wp2
          go_ret
          exact ⟨rfl, hU.trans_ext hv⟩
        · rcases Decidable.em (n0 = n1) with hnn | hnn
          · subst hnn
            have d0 := cell_of hx 0
            have d1 := cell_of hx 1
            have d2 := cell_of hx 3
            have d3 := cell_of hx 4
            have d4 := cell_of hx 6
            have d5 := cell_of hx 7
            have d6 := cell_of hx 8
            have d7 := cell_of hx 9
            simp only [List.getElem?_toArray, List.getElem?_cons_zero, List.getElem?_cons_succ] at d0 d1 d2 d3 d4 d5 d6 d7
            go_wp2_with fail
            refine (sameR_calls (q0, r0) (q1, r1) _).mono ?_
            rintro e w12 ⟨rfl, hv⟩
            clear d0 d1 d2 d3 d4 d5 d6 d7
            replace hx := hv.at hx (by simp)
            replace hx2 := hv.at hx2 (by simp)
            replace hy := hv.at hy (by simp)
            replace hm0 := hm0.ext hv
            replace hm1 := hm1.ext hv
            replace hm2 := hm2.ext hv
            replace hU := hU.trans_ext hv
            clear hv
            have hss := same_iff (a := (q0, r0)) (b := (q1, r1)) (d := sameR (q0, r0) (q1, r1))
            have hsc : sameR (q0, r0) (q1, r1) = true ↔ costO (q0, r0) = costO (q1, r1) := ⟨sameR_cost, same_eq⟩
            clear hss
            generalize sameR (q0, r0) (q1, r1) = ss at *
            have d0 := cell_of hx 0
            have d1 := cell_of hx 1
            have d2 := cell_of hx 3
            have d3 := cell_of hx 4
            have d4 := cell_of hx 6
            have d5 := cell_of hx 7
            have d6 := cell_of hx 8
            have d7 := cell_of hx 9
            have d8 := cell_of hx2 0
            have d9 := cell_of hx2 1
            have d10 := cell_of hy 0
            have d11 := cell_of hy 1
            have d12 := cell_of hy 2
            have d13 := cell_of hy 3
            have d14 := cell_of hy 4
            have d15 := cell_of hy 5
            have d16 := cell_of hy 6
            have d17 := cell_of hy 7
            have d18 := cell_of hy 8
            have d19 := cell_of hy 9
            have d20 := cell_of hy 10
            have d21 := cell_of hy 11
            simp only [List.getElem?_toArray, List.getElem?_cons_zero, List.getElem?_cons_succ] at d0 d1 d2 d3 d4 d5 d6 d7 d8 d9 d10 d11 d12 d13 d14 d15 d16 d17 d18 d19 d20 d21
            have j0 : RepI 1 _ (.agg #[.slice a0 (W32 n0).length c0, .bool q0, .int .i64 r0]) (n0, costO (q0, r0)) := ⟨_, _, _, _, _, rfl, ⟨_, _, rfl, hm0, hb0⟩, repC_right h0⟩
            have j1 : RepI 1 _ (.agg #[.slice a1 (W32 n0).length c1, .bool q1, .int .i64 r1]) (n0, costO (q1, r1)) := ⟨_, _, _, _, _, rfl, ⟨_, _, rfl, hm1, hb1⟩, repC_right h1⟩
            have j2 : RepI 1 _ (.agg #[.slice a2 (W32 n2).length c2, .bool q2, .int .i64 r2]) (n2, costO (q2, r2)) := ⟨_, _, _, _, _, rfl, ⟨_, _, rfl, hm2, hb2⟩, repC_right h2⟩
            have HS := Lib.hid (fun u (hu : Upto [] _ u) => O_same_calls 1 1 (by decide) true a0 _ c0 q0 r0 true a1 _ c1 q1 r1 true ss (by simp) (by rw [hsc]; simp) u rfl rfl (ringI.stable _ _ _ _ _ j0 hu) (ringI.stable _ _ _ _ _ j1 hu))
            clear hsc
            clear j0 j1 j2
            go_wp2_with fail
            refine (HS.out _ (Upto.refl _ _)).mono ?_
            rintro e w13 ⟨rfl, hv⟩
            clear HS d0 d1 d2 d3 d4 d5 d6 d7 d8 d9 d10 d11 d12 d13 d14 d15 d16 d17 d18 d19 d20 d21
            replace hx := hv.at hx (by simp)
            replace hx2 := hv.at hx2 (by simp)
            replace hy := hv.at hy (by simp)
            replace hm0 := hm0.ext hv
            replace hm1 := hm1.ext hv
            replace hm2 := hm2.ext hv
            replace hU := hU.trans_ext hv
            clear hv
            have d0 := cell_of hx2 0
            have d1 := cell_of hx2 1
            have d2 := cell_of hy 0
            have d3 := cell_of hy 1
            have d4 := cell_of hy 2
            have d5 := cell_of hy 3
            have d6 := cell_of hy 4
            have d7 := cell_of hy 5
            have d8 := cell_of hy 6
            have d9 := cell_of hy 7
            have d10 := cell_of hy 8
            have d11 := cell_of hy 9
            have d12 := cell_of hy 10
            have d13 := cell_of hy 11
            simp only [List.getElem?_toArray, List.getElem?_cons_zero, List.getElem?_cons_succ] at d0 d1 d2 d3 d4 d5 d6 d7 d8 d9 d10 d11 d12 d13
            have j0 : RepI 1 _ (.agg #[.slice a0 (W32 n0).length c0, .bool q0, .int .i64 r0]) (n0, costO (q0, r0)) := ⟨_, _, _, _, _, rfl, ⟨_, _, rfl, hm0, hb0⟩, repC_right h0⟩
            have j1 : RepI 1 _ (.agg #[.slice a1 (W32 n0).length c1, .bool q1, .int .i64 r1]) (n0, costO (q1, r1)) := ⟨_, _, _, _, _, rfl, ⟨_, _, rfl, hm1, hb1⟩, repC_right h1⟩
            have j2 : RepI 1 _ (.agg #[.slice a2 (W32 n2).length c2, .bool q2, .int .i64 r2]) (n2, costO (q2, r2)) := ⟨_, _, _, _, _, rfl, ⟨_, _, rfl, hm2, hb2⟩, repC_right h2⟩
            have o0 : RepO 1 _ (.agg #[.bool true, .slice a0 (W32 n0).length c0, .bool q0, .int .i64 r0]) (true, n0, costO (q0, r0)) := ⟨_, _, _, _, _, _, rfl, rfl, j0⟩
            have o1 : RepO 1 _ (.agg #[.bool true, .slice a1 (W32 n0).length c1, .bool q1, .int .i64 r1]) (true, n0, costO (q1, r1)) := ⟨_, _, _, _, _, _, rfl, rfl, j1⟩
            have o2 : RepO 1 _ (.agg #[.bool b2, .slice a2 (W32 n2).length c2, .bool q2, .int .i64 r2]) (b2, n2, costO (q2, r2)) := ⟨_, _, _, _, _, _, rfl, rfl, j2⟩
            have HP := Lib.hid (lawfulP ringO repO_shape true a0 _ c0 q0 r0 true a1 _ c1 q1 r1 b2 a2 _ c2 q2 r2 _ o0 o1 o2)
            clear j0 j1 j2 o0 o1 o2
            go_wp2_with fail
            refine HP.out.mono ?_
            rintro e w14 ⟨rfl, hv⟩
            clear HP d0 d1 d2 d3 d4 d5 d6 d7 d8 d9 d10 d11 d12 d13
            replace hx := hv.at hx (by simp)
            replace hx2 := hv.at hx2 (by simp)
            replace hy := hv.at hy (by simp)
            replace hm0 := hm0.ext hv
            replace hm1 := hm1.ext hv
            replace hm2 := hm2.ext hv
            replace hU := hU.trans_ext hv
            clear hv
            go_wp2_with fail
            refine (HK.out _).mono ?_
            rintro e w15 ⟨rfl, hv⟩
            go_wp2
            go_ret
            exact ⟨rfl, hU.trans_ext hv⟩
          · skip
            have d0 := cell_of hx 0
            have d1 := cell_of hx 1
            have d2 := cell_of hx 3
            have d3 := cell_of hx 4
            have d4 := cell_of hx 6
            have d5 := cell_of hx 7
            have d6 := cell_of hx 8
            have d7 := cell_of hx 9
            simp only [List.getElem?_toArray, List.getElem?_cons_zero, List.getElem?_cons_succ] at d0 d1 d2 d3 d4 d5 d6 d7
            have HN := Lib.hid hnn
            have hni : ¬ (n0 : Int) = n1 := by omega
            clear hnn
            clear d0 d1 d2 d3 d4 d5 d6 d7
            have d0 := cell_of hx 0
            have d1 := cell_of hx 1
            have d2 := cell_of hx 3
            have d3 := cell_of hx 4
            have d4 := cell_of hx 6
            have d5 := cell_of hx 7
            have d6 := cell_of hx 8
            have d7 := cell_of hx 9
            have d8 := cell_of hx2 0
            have d9 := cell_of hx2 1
            have d10 := cell_of hy 0
            have d11 := cell_of hy 1
            have d12 := cell_of hy 2
            have d13 := cell_of hy 3
            have d14 := cell_of hy 4
            have d15 := cell_of hy 5
            have d16 := cell_of hy 6
            have d17 := cell_of hy 7
            have d18 := cell_of hy 8
            have d19 := cell_of hy 9
            have d20 := cell_of hy 10
            have d21 := cell_of hy 11
            simp only [List.getElem?_toArray, List.getElem?_cons_zero, List.getElem?_cons_succ] at d0 d1 d2 d3 d4 d5 d6 d7 d8 d9 d10 d11 d12 d13 d14 d15 d16 d17 d18 d19 d20 d21
            have j0 : RepI 1 _ (.agg #[.slice a0 (W32 n0).length c0, .bool q0, .int .i64 r0]) (n0, costO (q0, r0)) := ⟨_, _, _, _, _, rfl, ⟨_, _, rfl, hm0, hb0⟩, repC_right h0⟩
            have j1 : RepI 1 _ (.agg #[.slice a1 (W32 n1).length c1, .bool q1, .int .i64 r1]) (n1, costO (q1, r1)) := ⟨_, _, _, _, _, rfl, ⟨_, _, rfl, hm1, hb1⟩, repC_right h1⟩
            have j2 : RepI 1 _ (.agg #[.slice a2 (W32 n2).length c2, .bool q2, .int .i64 r2]) (n2, costO (q2, r2)) := ⟨_, _, _, _, _, rfl, ⟨_, _, rfl, hm2, hb2⟩, repC_right h2⟩
            have HS := Lib.hid (fun u (hu : Upto [] _ u) => O_same_calls 1 1 (by decide) true a0 _ c0 q0 r0 true a1 _ c1 q1 r1 true false (by simp) (by simp [HN.out]) u rfl rfl (ringI.stable _ _ _ _ _ j0 hu) (ringI.stable _ _ _ _ _ j1 hu))
            clear j0 j1 j2
            go_wp2_with fail
            refine (HS.out _ (Upto.refl _ _)).mono ?_
            rintro e w13 ⟨rfl, hv⟩
            clear HS d0 d1 d2 d3 d4 d5 d6 d7 d8 d9 d10 d11 d12 d13 d14 d15 d16 d17 d18 d19 d20 d21
            replace hx := hv.at hx (by simp)
            replace hx2 := hv.at hx2 (by simp)
            replace hy := hv.at hy (by simp)
            replace hm0 := hm0.ext hv
            replace hm1 := hm1.ext hv
            replace hm2 := hm2.ext hv
            replace hU := hU.trans_ext hv
            clear hv
            have d0 := cell_of hx2 0
            have d1 := cell_of hx2 1
            have d2 := cell_of hy 0
            have d3 := cell_of hy 1
            have d4 := cell_of hy 2
            have d5 := cell_of hy 3
            have d6 := cell_of hy 4
            have d7 := cell_of hy 5
            have d8 := cell_of hy 6
            have d9 := cell_of hy 7
            have d10 := cell_of hy 8
            have d11 := cell_of hy 9
            have d12 := cell_of hy 10
            have d13 := cell_of hy 11
            simp only [List.getElem?_toArray, List.getElem?_cons_zero, List.getElem?_cons_succ] at d0 d1 d2 d3 d4 d5 d6 d7 d8 d9 d10 d11 d12 d13
            have j0 : RepI 1 _ (.agg #[.slice a0 (W32 n0).length c0, .bool q0, .int .i64 r0]) (n0, costO (q0, r0)) := ⟨_, _, _, _, _, rfl, ⟨_, _, rfl, hm0, hb0⟩, repC_right h0⟩
            have j1 : RepI 1 _ (.agg #[.slice a1 (W32 n1).length c1, .bool q1, .int .i64 r1]) (n1, costO (q1, r1)) := ⟨_, _, _, _, _, rfl, ⟨_, _, rfl, hm1, hb1⟩, repC_right h1⟩
            have j2 : RepI 1 _ (.agg #[.slice a2 (W32 n2).length c2, .bool q2, .int .i64 r2]) (n2, costO (q2, r2)) := ⟨_, _, _, _, _, rfl, ⟨_, _, rfl, hm2, hb2⟩, repC_right h2⟩
            have o0 : RepO 1 _ (.agg #[.bool true, .slice a0 (W32 n0).length c0, .bool q0, .int .i64 r0]) (true, n0, costO (q0, r0)) := ⟨_, _, _, _, _, _, rfl, rfl, j0⟩
            have o1 : RepO 1 _ (.agg #[.bool true, .slice a1 (W32 n1).length c1, .bool q1, .int .i64 r1]) (true, n1, costO (q1, r1)) := ⟨_, _, _, _, _, _, rfl, rfl, j1⟩
            have o2 : RepO 1 _ (.agg #[.bool b2, .slice a2 (W32 n2).length c2, .bool q2, .int .i64 r2]) (b2, n2, costO (q2, r2)) := ⟨_, _, _, _, _, _, rfl, rfl, j2⟩
            have HP := Lib.hid (lawfulP ringO repO_shape true a0 _ c0 q0 r0 true a1 _ c1 q1 r1 b2 a2 _ c2 q2 r2 _ o0 o1 o2)
            clear j0 j1 j2 o0 o1 o2
            go_wp2_with fail
            refine HP.out.mono ?_
            rintro e w14 ⟨rfl, hv⟩
            clear HP d0 d1 d2 d3 d4 d5 d6 d7 d8 d9 d10 d11 d12 d13
            replace hx := hv.at hx (by simp)
            replace hx2 := hv.at hx2 (by simp)
            replace hy := hv.at hy (by simp)
            replace hm0 := hm0.ext hv
            replace hm1 := hm1.ext hv
            replace hm2 := hm2.ext hv
            replace hU := hU.trans_ext hv
            clear hv
            go_wp2_with fail
            refine (HK.out _).mono ?_
            rintro e w15 ⟨rfl, hv⟩
            go_wp2
            go_ret
            exact ⟨rfl, hU.trans_ext hv⟩
end Go.Proofs.YtifellalnojomaaDoor
