/- SemiringLawful: the walk. -/
import Derived.Test.YtifellalnojomaaDoorRingI
import Derived.Test.YtifellalnojomaaDoorLawfulN
import Derived.Test.YtifellalnojomaaDoorLawfulB
import Derived.Test.YtifellalnojomaaDoorLawfulMi
import Derived.Test.YtifellalnojomaaDoorLawfulMa
namespace Go.Proofs.YtifellalnojomaaDoor
open Go.RowKit Go.PL Go.Maps

theorem num_upto {S : List Nat} {w w' : World} {va : Option Addr} {vc n : Nat} (h : NumS w va vc n) (hu : Upto S w w') (hn : ∀ B ∈ S, ∀ (i : Nat) (k : Nat), w.cell? ⟨B, i, none⟩ ≠ some (uv k)) : NumS w' va vc n := by
  rcases h with h0 | ⟨g, o, c, hs, hc⟩
  · exact Or.inl h0
  · refine Or.inr ⟨g, o, c, hs, fun j u hj => ?_⟩
    have h1 := hc j u hj
    have hu' : ∃ k : Nat, u = uv k := by
      rw [List.getElem?_map] at hj
      cases hw : (W32 n)[j]? with
      | none => rw [hw] at hj; cases hj
      | some k => rw [hw] at hj; simp at hj; exact ⟨k, hj.symm⟩
    obtain ⟨k, rfl⟩ := hu'
    exact (hu.cell (p := ⟨g, o + j, none⟩) (World.block_lt_of_cell? w _ h1) (fun hm => hn g hm _ _ h1)).trans h1

theorem repN_upto {S : List Nat} {i : Nat} {w w' : World} {v : Value} {n : Nat} (h : RepN i w v n) (hu : Upto S w w') (hn : ∀ B ∈ S, ∀ (i : Nat) (k : Nat), w.cell? ⟨B, i, none⟩ ≠ some (uv k)) : RepN i w' v n := by
  obtain ⟨g, c, h1, h2, h3⟩ := h
  exact ⟨g, c, h1, num_upto h2 hu hn, h3⟩
theorem repN_shape (i : Nat) (w : World) (v : Value) (x : Nat) (h : RepN i w v x) : ∃ g n c, v = .agg #[.slice g n c] := by
  obtain ⟨g, c, h, _⟩ := h
  exact ⟨g, _, c, h⟩
theorem repC_shape (i : Nat) (w : World) (v : Value) (x : Option Int) (h : RepC i w v x) : ∃ k m, v = .agg #[.bool k, .int .i64 m] := by
  obtain ⟨a, h, _⟩ := h
  exact ⟨a.1, a.2, h⟩
theorem repB_shape (i : Nat) (w : World) (v : Value) (x : Bool) (h : RepB i w v x) : ∃ k, v = .bool k := ⟨x, h⟩
theorem repC_right {w : World} {k : Bool} {m : Int} (h : rightF (k, m) = true) : RepC 1 w (.agg #[.bool k, .int .i64 m]) (costO (k, m)) := by
  refine ⟨(k, m), rfl, rfl, fun hk => ?_⟩
  simp only at hk
  subst hk
  simp [rightF] at h
  simp
  omega

theorem lift_upto {S : List Nat} {w w0 w1 : World} (h : Upto [] w w0) (hu : Upto S w0 w1) (hs : ∀ b ∈ S, w.heap.size ≤ b) : Upto [] w w1 :=
  h.trans hu fun b hb => Or.inr (hs b hb)

/-- what the loop has laid after k rounds -/
def LawSt (sz : Nat) (w0 : World) (n0 n1 n2 : Nat) (k0 : Bool) (m0 : Int) (k1 : Bool) (m1 : Int) (k2 : Bool) (m2 : Int) (k : Nat) (wr : World) : Prop :=
  Upto [sz + 1, sz + 1 + 1] w0 wr ∧ ∃ (a0 a1 a2 : Option Addr) (l0 l1 l2 c0 c1 c2 : Nat) (q0 : Bool) (r0 : Int) (q1 : Bool) (r1 : Int) (q2 : Bool) (r2 : Int),
    wr.heap[sz + 1]? = some (.cells #[.slice a0 l0 c0, .slice a1 l1 c1, .slice a2 l2 c2] 59) ∧
    wr.heap[sz + 1 + 1]? = some (.cells #[.bool q0, .int .i64 r0, .bool q1, .int .i64 r1, .bool q2, .int .i64 r2] 60) ∧
    (0 < k → RepN 1 wr (.agg #[.slice a0 l0 c0]) n0 ∧ (q0 = k0 ∧ r0 = m0) ∧ rightF (k0, m0) = true) ∧
    (1 < k → RepN 1 wr (.agg #[.slice a1 l1 c1]) n1 ∧ (q1 = k1 ∧ r1 = m1) ∧ rightF (k1, m1) = true) ∧
    (2 < k → RepN 1 wr (.agg #[.slice a2 l2 c2]) n2 ∧ (q2 = k2 ∧ r2 = m2) ∧ rightF (k2, m2) = true)

theorem law_notuv {w : World} {sz : Nat} {a0 a1 a2 : Option Addr} {l0 l1 l2 c0 c1 c2 : Nat} {q0 : Bool} {r0 : Int} {q1 : Bool} {r1 : Int} {q2 : Bool} {r2 : Int} (hy : w.heap[sz + 1]? = some (.cells #[.slice a0 l0 c0, .slice a1 l1 c1, .slice a2 l2 c2] 59)) (hz : w.heap[sz + 1 + 1]? = some (.cells #[.bool q0, .int .i64 r0, .bool q1, .int .i64 r1, .bool q2, .int .i64 r2] 60)) :
    ∀ B ∈ [sz + 1, sz + 1 + 1], ∀ (i : Nat) (k : Nat), w.cell? ⟨B, i, none⟩ ≠ some (uv k) := by
  intro B hB i k
  simp only [List.mem_cons, List.not_mem_nil, or_false] at hB
  rcases hB with rfl | rfl
  · rw [cell_of hy i]
    match i with
    | 0 => simp [uv]
    | 1 => simp [uv]
    | 2 => simp [uv]
    | i + 3 => simp
  · rw [cell_of hz i]
    match i with
    | 0 => simp [uv]
    | 1 => simp [uv]
    | 2 => simp [uv]
    | 3 => simp [uv]
    | 4 => simp [uv]
    | 5 => simp [uv]
    | i + 6 => simp

theorem lawSt_step0 {sz : Nat} {w0 w : World} {n0 n1 n2 : Nat} {k0 : Bool} {m0 : Int} {k1 : Bool} {m1 : Int} {k2 : Bool} {m2 : Int} {a0 a1 a2 : Option Addr} {l0 l1 l2 c0 c1 c2 : Nat} {q0 : Bool} {r0 : Int} {q1 : Bool} {r1 : Int} {q2 : Bool} {r2 : Int} (hu : Upto [sz + 1, sz + 1 + 1] w0 w)
    (hy : w.heap[sz + 1]? = some (.cells #[.slice a0 l0 c0, .slice a1 l1 c1, .slice a2 l2 c2] 59)) (hz : w.heap[sz + 1 + 1]? = some (.cells #[.bool q0, .int .i64 r0, .bool q1, .int .i64 r1, .bool q2, .int .i64 r2] 60))
    (f0 : 0 < 0 → RepN 1 w (.agg #[.slice a0 l0 c0]) n0 ∧ (q0 = k0 ∧ r0 = m0) ∧ rightF (k0, m0) = true)
    (f1 : 1 < 0 → RepN 1 w (.agg #[.slice a1 l1 c1]) n1 ∧ (q1 = k1 ∧ r1 = m1) ∧ rightF (k1, m1) = true)
    (f2 : 2 < 0 → RepN 1 w (.agg #[.slice a2 l2 c2]) n2 ∧ (q2 = k2 ∧ r2 = m2) ∧ rightF (k2, m2) = true)
    {g : Option Addr} {l cc : Nat} (hn : RepN 1 w (.agg #[.slice g l cc]) n0) (hr : rightF (k0, m0) = true) :
    LawSt sz w0 n0 n1 n2 k0 m0 k1 m1 k2 m2 1 (((w.setCell ⟨sz + 1, 0, none⟩ (.slice g l cc)).setCell ⟨sz + 1 + 1, 0, none⟩ (.bool k0)).setCell ⟨sz + 1 + 1, 1, none⟩ (.int .i64 m0)) := by
  have hv : Upto [sz + 1, sz + 1 + 1] w (((w.setCell ⟨sz + 1, 0, none⟩ (.slice g l cc)).setCell ⟨sz + 1 + 1, 0, none⟩ (.bool k0)).setCell ⟨sz + 1 + 1, 1, none⟩ (.int .i64 m0)) := (((Upto.refl _ w).setCell (Or.inl (by simp)) _).setCell (Or.inl (by simp)) _).setCell (Or.inl (by simp)) _
  have hq := law_notuv hy hz
  have y1 := set_other (set_other (set_same hy 0 (.slice g l cc)) (show sz + 1 ≠ sz + 1 + 1 by omega) 0 (.bool k0)) (show sz + 1 ≠ sz + 1 + 1 by omega) 1 (.int .i64 m0)
  have z1 := set_same (set_same (set_other hz (show sz + 1 + 1 ≠ sz + 1 by omega) 0 (.slice g l cc)) 0 (.bool k0)) 1 (.int .i64 m0)
  exact ⟨hu.trans_same hv, _, _, _, _, _, _, _, _, _, _, _, _, _, _, _, by simpa using y1, by simpa using z1, fun _ => ⟨repN_upto hn hv hq, ⟨rfl, rfl⟩, hr⟩, by omega, by omega⟩

theorem lawSt_step1 {sz : Nat} {w0 w : World} {n0 n1 n2 : Nat} {k0 : Bool} {m0 : Int} {k1 : Bool} {m1 : Int} {k2 : Bool} {m2 : Int} {a0 a1 a2 : Option Addr} {l0 l1 l2 c0 c1 c2 : Nat} {q0 : Bool} {r0 : Int} {q1 : Bool} {r1 : Int} {q2 : Bool} {r2 : Int} (hu : Upto [sz + 1, sz + 1 + 1] w0 w)
    (hy : w.heap[sz + 1]? = some (.cells #[.slice a0 l0 c0, .slice a1 l1 c1, .slice a2 l2 c2] 59)) (hz : w.heap[sz + 1 + 1]? = some (.cells #[.bool q0, .int .i64 r0, .bool q1, .int .i64 r1, .bool q2, .int .i64 r2] 60))
    (f0 : 0 < 1 → RepN 1 w (.agg #[.slice a0 l0 c0]) n0 ∧ (q0 = k0 ∧ r0 = m0) ∧ rightF (k0, m0) = true)
    (f1 : 1 < 1 → RepN 1 w (.agg #[.slice a1 l1 c1]) n1 ∧ (q1 = k1 ∧ r1 = m1) ∧ rightF (k1, m1) = true)
    (f2 : 2 < 1 → RepN 1 w (.agg #[.slice a2 l2 c2]) n2 ∧ (q2 = k2 ∧ r2 = m2) ∧ rightF (k2, m2) = true)
    {g : Option Addr} {l cc : Nat} (hn : RepN 1 w (.agg #[.slice g l cc]) n1) (hr : rightF (k1, m1) = true) :
    LawSt sz w0 n0 n1 n2 k0 m0 k1 m1 k2 m2 2 (((w.setCell ⟨sz + 1, 1, none⟩ (.slice g l cc)).setCell ⟨sz + 1 + 1, 2, none⟩ (.bool k1)).setCell ⟨sz + 1 + 1, 3, none⟩ (.int .i64 m1)) := by
  have hv : Upto [sz + 1, sz + 1 + 1] w (((w.setCell ⟨sz + 1, 1, none⟩ (.slice g l cc)).setCell ⟨sz + 1 + 1, 2, none⟩ (.bool k1)).setCell ⟨sz + 1 + 1, 3, none⟩ (.int .i64 m1)) := (((Upto.refl _ w).setCell (Or.inl (by simp)) _).setCell (Or.inl (by simp)) _).setCell (Or.inl (by simp)) _
  have hq := law_notuv hy hz
  have y1 := set_other (set_other (set_same hy 1 (.slice g l cc)) (show sz + 1 ≠ sz + 1 + 1 by omega) 2 (.bool k1)) (show sz + 1 ≠ sz + 1 + 1 by omega) 3 (.int .i64 m1)
  have z1 := set_same (set_same (set_other hz (show sz + 1 + 1 ≠ sz + 1 by omega) 1 (.slice g l cc)) 2 (.bool k1)) 3 (.int .i64 m1)
  exact ⟨hu.trans_same hv, _, _, _, _, _, _, _, _, _, _, _, _, _, _, _, by simpa using y1, by simpa using z1, fun _ => (f0 (by omega)).imp_left fun g => repN_upto g hv hq, fun _ => ⟨repN_upto hn hv hq, ⟨rfl, rfl⟩, hr⟩, by omega⟩

theorem lawSt_step2 {sz : Nat} {w0 w : World} {n0 n1 n2 : Nat} {k0 : Bool} {m0 : Int} {k1 : Bool} {m1 : Int} {k2 : Bool} {m2 : Int} {a0 a1 a2 : Option Addr} {l0 l1 l2 c0 c1 c2 : Nat} {q0 : Bool} {r0 : Int} {q1 : Bool} {r1 : Int} {q2 : Bool} {r2 : Int} (hu : Upto [sz + 1, sz + 1 + 1] w0 w)
    (hy : w.heap[sz + 1]? = some (.cells #[.slice a0 l0 c0, .slice a1 l1 c1, .slice a2 l2 c2] 59)) (hz : w.heap[sz + 1 + 1]? = some (.cells #[.bool q0, .int .i64 r0, .bool q1, .int .i64 r1, .bool q2, .int .i64 r2] 60))
    (f0 : 0 < 2 → RepN 1 w (.agg #[.slice a0 l0 c0]) n0 ∧ (q0 = k0 ∧ r0 = m0) ∧ rightF (k0, m0) = true)
    (f1 : 1 < 2 → RepN 1 w (.agg #[.slice a1 l1 c1]) n1 ∧ (q1 = k1 ∧ r1 = m1) ∧ rightF (k1, m1) = true)
    (f2 : 2 < 2 → RepN 1 w (.agg #[.slice a2 l2 c2]) n2 ∧ (q2 = k2 ∧ r2 = m2) ∧ rightF (k2, m2) = true)
    {g : Option Addr} {l cc : Nat} (hn : RepN 1 w (.agg #[.slice g l cc]) n2) (hr : rightF (k2, m2) = true) :
    LawSt sz w0 n0 n1 n2 k0 m0 k1 m1 k2 m2 3 (((w.setCell ⟨sz + 1, 2, none⟩ (.slice g l cc)).setCell ⟨sz + 1 + 1, 4, none⟩ (.bool k2)).setCell ⟨sz + 1 + 1, 5, none⟩ (.int .i64 m2)) := by
  have hv : Upto [sz + 1, sz + 1 + 1] w (((w.setCell ⟨sz + 1, 2, none⟩ (.slice g l cc)).setCell ⟨sz + 1 + 1, 4, none⟩ (.bool k2)).setCell ⟨sz + 1 + 1, 5, none⟩ (.int .i64 m2)) := (((Upto.refl _ w).setCell (Or.inl (by simp)) _).setCell (Or.inl (by simp)) _).setCell (Or.inl (by simp)) _
  have hq := law_notuv hy hz
  have y1 := set_other (set_other (set_same hy 2 (.slice g l cc)) (show sz + 1 ≠ sz + 1 + 1 by omega) 4 (.bool k2)) (show sz + 1 ≠ sz + 1 + 1 by omega) 5 (.int .i64 m2)
  have z1 := set_same (set_same (set_other hz (show sz + 1 + 1 ≠ sz + 1 by omega) 2 (.slice g l cc)) 4 (.bool k2)) 5 (.int .i64 m2)
  exact ⟨hu.trans_same hv, _, _, _, _, _, _, _, _, _, _, _, _, _, _, _, by simpa using y1, by simpa using z1, fun _ => (f0 (by omega)).imp_left fun g => repN_upto g hv hq, fun _ => (f1 (by omega)).imp_left fun g => repN_upto g hv hq, fun _ => ⟨repN_upto hn hv hq, ⟨rfl, rfl⟩, hr⟩⟩

set_option maxRecDepth 100000 in
set_option maxHeartbeats 6400000 in
theorem lawful_walk (t0 t1 t2 : Bool) (n0 n1 n2 : Nat) (hn0 : n0 < 18446744073709551616) (hn1 : n1 < 18446744073709551616) (hn2 : n2 < 18446744073709551616) (k0 : Bool) (m0 : Int) (k1 : Bool) (m1 : Int) (k2 : Bool) (m2 : Int) (w : World) :
    Calls Tryd.prog 7 #[.agg #[.bool t0, .bool t1, .bool t2, .int .u64 n0, .int .u64 n1, .int .u64 n2, .bool k0, .int .i64 m0, .bool k1, .int .i64 m1, .bool k2, .int .i64 m2]] w fun e w' => e = .returned (.bool true) ∧ Upto [] w w' := by
  have HK := Lib.hid known_calls
  have HR0 := Lib.hid (right_calls (k0, m0))
  have HO0 : Hid (∀ w, Calls Tryd.prog 18 #[.agg #[.bool k0, .int .i64 m0]] w fun e w' => e = .returned (.agg #[.bool k0, .int .i64 m0]) ∧ Upto [] w w') := fun w => (own_calls k0 m0 w).mono fun e w' ⟨h1, h2⟩ => ⟨h1, by rw [h2]; exact ((Upto.refl [] w).alloc _).alloc _⟩
  have HF0 : Hid (∀ w, Calls Tryd.prog 33 #[.int .u64 n0] w fun e w' => ∃ v, e = .returned v ∧ Upto [] w w' ∧ RepN 1 w' v n0 ∧ ∀ b ∈ ([] : List Nat), w.heap.size ≤ b ∧ b < w'.heap.size) := fun w => (fromW_calls n0 hn0 w).mono fun e w' ⟨g, h1, h2, h3⟩ => ⟨_, h1, h3, ⟨_, _, rfl, h2, by omega⟩, fun b hb => by cases hb⟩
  have HR1 := Lib.hid (right_calls (k1, m1))
  have HO1 : Hid (∀ w, Calls Tryd.prog 18 #[.agg #[.bool k1, .int .i64 m1]] w fun e w' => e = .returned (.agg #[.bool k1, .int .i64 m1]) ∧ Upto [] w w') := fun w => (own_calls k1 m1 w).mono fun e w' ⟨h1, h2⟩ => ⟨h1, by rw [h2]; exact ((Upto.refl [] w).alloc _).alloc _⟩
  have HF1 : Hid (∀ w, Calls Tryd.prog 33 #[.int .u64 n1] w fun e w' => ∃ v, e = .returned v ∧ Upto [] w w' ∧ RepN 1 w' v n1 ∧ ∀ b ∈ ([] : List Nat), w.heap.size ≤ b ∧ b < w'.heap.size) := fun w => (fromW_calls n1 hn1 w).mono fun e w' ⟨g, h1, h2, h3⟩ => ⟨_, h1, h3, ⟨_, _, rfl, h2, by omega⟩, fun b hb => by cases hb⟩
  have HR2 := Lib.hid (right_calls (k2, m2))
  have HO2 : Hid (∀ w, Calls Tryd.prog 18 #[.agg #[.bool k2, .int .i64 m2]] w fun e w' => e = .returned (.agg #[.bool k2, .int .i64 m2]) ∧ Upto [] w w') := fun w => (own_calls k2 m2 w).mono fun e w' ⟨h1, h2⟩ => ⟨h1, by rw [h2]; exact ((Upto.refl [] w).alloc _).alloc _⟩
  have HF2 : Hid (∀ w, Calls Tryd.prog 33 #[.int .u64 n2] w fun e w' => ∃ v, e = .returned v ∧ Upto [] w w' ∧ RepN 1 w' v n2 ∧ ∀ b ∈ ([] : List Nat), w.heap.size ≤ b ∧ b < w'.heap.size) := fun w => (fromW_calls n2 hn2 w).mono fun e w' ⟨g, h1, h2, h3⟩ => ⟨_, h1, h3, ⟨_, _, rfl, h2, by omega⟩, fun b hb => by cases hb⟩
  simp only [cv] at HR0 HR1 HR2
  have x0 := new_at w (.cells #[.bool t0, .bool t1, .bool t2, .int .u64 n0, .int .u64 n1, .int .u64 n2, .bool k0, .int .i64 m0, .bool k1, .int .i64 m1, .bool k2, .int .i64 m2] 58)
  generalize hob : Obj.cells #[.bool t0, .bool t1, .bool t2, .int .u64 n0, .int .u64 n1, .int .u64 n2, .bool k0, .int .i64 m0, .bool k1, .int .i64 m1, .bool k2, .int .i64 m2] 58 = ob at x0
  have x1 := alloc_old (alloc_old x0 (.cells #[.slice none 0 0, .slice none 0 0, .slice none 0 0] 59)) (.cells #[.bool false, .int .i64 0, .bool false, .int .i64 0, .bool false, .int .i64 0] 60)
  have y1 := alloc_old (new_at1 w ob (.cells #[.slice none 0 0, .slice none 0 0, .slice none 0 0] 59)) (.cells #[.bool false, .int .i64 0, .bool false, .int .i64 0, .bool false, .int .i64 0] 60)
  have z1 := new_at1 (w.alloc ob) (.cells #[.slice none 0 0, .slice none 0 0, .slice none 0 0] 59) (.cells #[.bool false, .int .i64 0, .bool false, .int .i64 0, .bool false, .int .i64 0] 60)
  rw [World.size_alloc] at z1
  have hu0 : Upto [] w (((w.alloc ob).alloc (.cells #[.slice none 0 0, .slice none 0 0, .slice none 0 0] 59)).alloc (.cells #[.bool false, .int .i64 0, .bool false, .int .i64 0, .bool false, .int .i64 0] 60)) := (((Upto.refl [] w).alloc _).alloc _).alloc _
  subst hob
  clear x0
  have hsz : w.heap.size = w.heap.size := rfl
  go_enter Tryd.func7, Tryd.ntmps7
  go_wp2_with fail
  generalize hW : ((w.alloc _).alloc _).alloc _ = W0 at *
  clear hW hsz
  generalize hsz : w.heap.size = sz at x1 y1 z1 ⊢
  go_loopw [5] (fun i wr => ∃ k : Nat, k ≤ 3 ∧ i = .int .i64 k ∧ LawSt sz W0 n0 n1 n2 k0 m0 k1 m1 k2 m2 k wr) (fun i _ => 3 - (intOf i).toNat)
  case atStart =>
    exact ⟨0, by omega, rfl, Upto.refl _ _, _, _, _, _, _, _, _, _, _, _, _, _, _, _, _, y1, z1, (by omega), (by omega), (by omega)⟩
  case round =>
    obtain ⟨k, hk, rfl, hu, a0, a1, a2, l0, l1, l2, c0, c1, c2, q0, r0, q1, r1, q2, r2, hy, hz, f0, f1, f2⟩ := hrel
    have hx := hu.at x1 (by simp <;> omega)
    rcases (by omega : k = 0 ∨ k = 1 ∨ k = 2 ∨ k = 3) with rfl | rfl | rfl | rfl
    · clear hk
      simp only [show ((0 : Nat) : Int) = 0 from rfl]
      have d0 := cell_of hx 3
      have d1 := cell_of hx 6
      have d2 := cell_of hx 7
      simp only [List.getElem?_toArray, List.getElem?_cons_zero, List.getElem?_cons_succ] at d0 d1 d2
      generalize hr : rightF (k0, m0) = rr at HR0
      have HRR := Lib.hid hr
      clear hr
      cases rr
      · go_wp2_with fail
        refine (HR0.out _).mono ?_
        rintro e w1 ⟨rfl, hv⟩
        go_wp2_with fail
        refine (HK.out _).mono ?_
        rintro e w2 ⟨rfl, hv2⟩
        go_wp2
        go_ret
        exact ⟨rfl, ((lift_upto hu0 hu (by simp <;> omega)).trans_ext hv).trans_ext hv2⟩
      · go_wp2_with fail
        refine (HR0.out _).mono ?_
        rintro e w1 ⟨rfl, hv⟩
        replace hx := hv.at hx (by simp)
        replace hy := hv.at hy (by simp)
        replace hz := hv.at hz (by simp)
        replace f0 := fun h => (f0 h).imp_left fun g => ringN.stable _ _ _ _ _ g hv
        replace f1 := fun h => (f1 h).imp_left fun g => ringN.stable _ _ _ _ _ g hv
        replace f2 := fun h => (f2 h).imp_left fun g => ringN.stable _ _ _ _ _ g hv
        replace hu := hu.trans_ext hv
        clear d0 d1 d2 hv
        go_wp2_with fail
        generalize w1 = W at *
        have e0 : ∀ u : Ext W, u.w.cell? ⟨sz, 3, none⟩ = some (.int .u64 n0) := fun u => u.cell (cell_of hx 3)
        have e1 : ∀ u : Ext W, u.w.cell? ⟨sz, 6, none⟩ = some (.bool k0) := fun u => u.cell (cell_of hx 6)
        have e2 : ∀ u : Ext W, u.w.cell? ⟨sz, 7, none⟩ = some (.int .i64 m0) := fun u => u.cell (cell_of hx 7)
        refine wp_region_noPanic ?_
        refine wp_region_segP_at [6, 11] [] [1] [0, 2, 3, 4, 5, 6, 7, 8, 9, 10, 11, 12] [13, 14, 15] 13 (fun _ _ _ _ _ h => h) (by kernel_rfl) (by kernel_rfl) (by kernel_rfl) ?_
        refine pre_plain rfl rfl rfl ?_
        intro K' hK'
        go_big_quiet_op
        go_big_quiet_on
        refine seg_plain rfl rfl rfl rfl rfl ?_
        intro K' hK'
        go_big_quiet_op
        go_big_quiet_on
        refine seg_plain rfl rfl rfl rfl rfl ?_
        intro K' hK'
        go_big_quiet_op
        go_big_quiet_on
        refine seg_plain rfl rfl rfl rfl rfl ?_
        intro K' hK'
        go_big_quiet_op
        go_big_quiet_on
        refine seg_plain rfl rfl rfl rfl rfl ?_
        intro K' hK'
        go_big_quiet_op
        go_big_quiet_on
        refine seg_plain rfl rfl rfl rfl rfl ?_
        intro K' hK'
        go_big_quiet_op
        go_big_quiet_on
        refine seg_callO (fun v u => RepN 1 u v n0) (fun _ => []) rfl rfl rfl rfl (fun v u u' h hu => ringN.stable _ _ _ _ _ h hu) (fun _ => List.nodup_nil) (fun w => by go_simp) (fun w hu hd => HF0.out w) ?_
        intro v0
        simp only [Act.put, List.setIfInBounds_toArray, List.set_cons_zero, List.set_cons_succ]
        refine seg_plain rfl rfl rfl rfl rfl ?_
        intro K' hK'
        go_big_quiet_op
        go_big_quiet_on
        refine seg_plain rfl rfl rfl rfl rfl ?_
        intro K' hK'
        go_big_quiet_op
        go_big_quiet_on
        refine seg_plain rfl rfl rfl rfl rfl ?_
        intro K' hK'
        go_big_quiet_op
        go_big_quiet_on
        refine seg_plain rfl rfl rfl rfl rfl ?_
        intro K' hK'
        go_big_quiet_op
        go_big_quiet_on
        refine seg_call rfl rfl rfl rfl (fun w => by go_simp) (fun w _ _ => HO0.out w) ?_
        simp only [Act.put, List.setIfInBounds_toArray, List.set_cons_zero, List.set_cons_succ]
        refine seg_plain rfl rfl rfl rfl rfl ?_
        intro K' hK'
        go_big_quiet_op
        go_big_quiet_on
        intro w9 hg
        have hv := hg.up
        obtain ⟨g, cc, rfl, hnum, hlt⟩ := hg.hold.1
        clear hg e0 e1 e2
        simp only [List.drop_succ_cons, List.drop_zero]
        replace hy := hv.at hy (by simp)
        replace hz := hv.at hz (by simp)
        replace f0 := fun h => (f0 h).imp_left fun g => ringN.stable _ _ _ _ _ g hv
        replace f1 := fun h => (f1 h).imp_left fun g => ringN.stable _ _ _ _ _ g hv
        replace f2 := fun h => (f2 h).imp_left fun g => ringN.stable _ _ _ _ _ g hv
        replace hu := hu.trans_ext hv
        have s0 := cell_of hy 0
        have t0 := free_of hy 0
        have s1 := cell_of hz 0
        have s2 := cell_of hz 1
        have t1 := free_of hz 0
        have t2 := free_of hz 1
        simp only [List.getElem?_toArray, List.getElem?_cons_zero, List.getElem?_cons_succ] at s0 s1 s2
        go_wp2_with fail
        refine NoPanic.normal ?_
        go_wp2_with fail
        go_roundw
        case rel => exact ⟨1, by omega, rfl, lawSt_step0 hu hy hz f0 f1 f2 ⟨g, cc, rfl, hnum, hlt⟩ HRR.out⟩
        case measure => simp [intOf]
    · clear hk
      simp only [show ((1 : Nat) : Int) = 1 from rfl]
      have d0 := cell_of hx 4
      have d1 := cell_of hx 8
      have d2 := cell_of hx 9
      simp only [List.getElem?_toArray, List.getElem?_cons_zero, List.getElem?_cons_succ] at d0 d1 d2
      generalize hr : rightF (k1, m1) = rr at HR1
      have HRR := Lib.hid hr
      clear hr
      cases rr
      · go_wp2_with fail
        refine (HR1.out _).mono ?_
        rintro e w1 ⟨rfl, hv⟩
        go_wp2_with fail
        refine (HK.out _).mono ?_
        rintro e w2 ⟨rfl, hv2⟩
        go_wp2
        go_ret
        exact ⟨rfl, ((lift_upto hu0 hu (by simp <;> omega)).trans_ext hv).trans_ext hv2⟩
      · go_wp2_with fail
        refine (HR1.out _).mono ?_
        rintro e w1 ⟨rfl, hv⟩
        replace hx := hv.at hx (by simp)
        replace hy := hv.at hy (by simp)
        replace hz := hv.at hz (by simp)
        replace f0 := fun h => (f0 h).imp_left fun g => ringN.stable _ _ _ _ _ g hv
        replace f1 := fun h => (f1 h).imp_left fun g => ringN.stable _ _ _ _ _ g hv
        replace f2 := fun h => (f2 h).imp_left fun g => ringN.stable _ _ _ _ _ g hv
        replace hu := hu.trans_ext hv
        clear d0 d1 d2 hv
        go_wp2_with fail
        generalize w1 = W at *
        have e0 : ∀ u : Ext W, u.w.cell? ⟨sz, 4, none⟩ = some (.int .u64 n1) := fun u => u.cell (cell_of hx 4)
        have e1 : ∀ u : Ext W, u.w.cell? ⟨sz, 8, none⟩ = some (.bool k1) := fun u => u.cell (cell_of hx 8)
        have e2 : ∀ u : Ext W, u.w.cell? ⟨sz, 9, none⟩ = some (.int .i64 m1) := fun u => u.cell (cell_of hx 9)
        refine wp_region_noPanic ?_
        refine wp_region_segP_at [6, 11] [] [1] [0, 2, 3, 4, 5, 6, 7, 8, 9, 10, 11, 12] [13, 14, 15] 13 (fun _ _ _ _ _ h => h) (by kernel_rfl) (by kernel_rfl) (by kernel_rfl) ?_
        refine pre_plain rfl rfl rfl ?_
        intro K' hK'
        go_big_quiet_op
        go_big_quiet_on
        refine seg_plain rfl rfl rfl rfl rfl ?_
        intro K' hK'
        go_big_quiet_op
        go_big_quiet_on
        refine seg_plain rfl rfl rfl rfl rfl ?_
        intro K' hK'
        go_big_quiet_op
        go_big_quiet_on
        refine seg_plain rfl rfl rfl rfl rfl ?_
        intro K' hK'
        go_big_quiet_op
        go_big_quiet_on
        refine seg_plain rfl rfl rfl rfl rfl ?_
        intro K' hK'
        go_big_quiet_op
        go_big_quiet_on
        refine seg_plain rfl rfl rfl rfl rfl ?_
        intro K' hK'
        go_big_quiet_op
        go_big_quiet_on
        refine seg_callO (fun v u => RepN 1 u v n1) (fun _ => []) rfl rfl rfl rfl (fun v u u' h hu => ringN.stable _ _ _ _ _ h hu) (fun _ => List.nodup_nil) (fun w => by go_simp) (fun w hu hd => HF1.out w) ?_
        intro v0
        simp only [Act.put, List.setIfInBounds_toArray, List.set_cons_zero, List.set_cons_succ]
        refine seg_plain rfl rfl rfl rfl rfl ?_
        intro K' hK'
        go_big_quiet_op
        go_big_quiet_on
        refine seg_plain rfl rfl rfl rfl rfl ?_
        intro K' hK'
        go_big_quiet_op
        go_big_quiet_on
        refine seg_plain rfl rfl rfl rfl rfl ?_
        intro K' hK'
        go_big_quiet_op
        go_big_quiet_on
        refine seg_plain rfl rfl rfl rfl rfl ?_
        intro K' hK'
        go_big_quiet_op
        go_big_quiet_on
        refine seg_call rfl rfl rfl rfl (fun w => by go_simp) (fun w _ _ => HO1.out w) ?_
        simp only [Act.put, List.setIfInBounds_toArray, List.set_cons_zero, List.set_cons_succ]
        refine seg_plain rfl rfl rfl rfl rfl ?_
        intro K' hK'
        go_big_quiet_op
        go_big_quiet_on
        intro w9 hg
        have hv := hg.up
        obtain ⟨g, cc, rfl, hnum, hlt⟩ := hg.hold.1
        clear hg e0 e1 e2
        simp only [List.drop_succ_cons, List.drop_zero]
        replace hy := hv.at hy (by simp)
        replace hz := hv.at hz (by simp)
        replace f0 := fun h => (f0 h).imp_left fun g => ringN.stable _ _ _ _ _ g hv
        replace f1 := fun h => (f1 h).imp_left fun g => ringN.stable _ _ _ _ _ g hv
        replace f2 := fun h => (f2 h).imp_left fun g => ringN.stable _ _ _ _ _ g hv
        replace hu := hu.trans_ext hv
        have s0 := cell_of hy 1
        have t0 := free_of hy 1
        have s1 := cell_of hz 2
        have s2 := cell_of hz 3
        have t1 := free_of hz 2
        have t2 := free_of hz 3
        simp only [List.getElem?_toArray, List.getElem?_cons_zero, List.getElem?_cons_succ] at s0 s1 s2
        go_wp2_with fail
        refine NoPanic.normal ?_
        go_wp2_with fail
        go_roundw
        case rel => exact ⟨2, by omega, rfl, lawSt_step1 hu hy hz f0 f1 f2 ⟨g, cc, rfl, hnum, hlt⟩ HRR.out⟩
        case measure => simp [intOf]
    · clear hk
      simp only [show ((2 : Nat) : Int) = 2 from rfl]
      have d0 := cell_of hx 5
      have d1 := cell_of hx 10
      have d2 := cell_of hx 11
      simp only [List.getElem?_toArray, List.getElem?_cons_zero, List.getElem?_cons_succ] at d0 d1 d2
      generalize hr : rightF (k2, m2) = rr at HR2
      have HRR := Lib.hid hr
      clear hr
      cases rr
      · go_wp2_with fail
        refine (HR2.out _).mono ?_
        rintro e w1 ⟨rfl, hv⟩
        go_wp2_with fail
        refine (HK.out _).mono ?_
        rintro e w2 ⟨rfl, hv2⟩
        go_wp2
        go_ret
        exact ⟨rfl, ((lift_upto hu0 hu (by simp <;> omega)).trans_ext hv).trans_ext hv2⟩
      · go_wp2_with fail
        refine (HR2.out _).mono ?_
        rintro e w1 ⟨rfl, hv⟩
        replace hx := hv.at hx (by simp)
        replace hy := hv.at hy (by simp)
        replace hz := hv.at hz (by simp)
        replace f0 := fun h => (f0 h).imp_left fun g => ringN.stable _ _ _ _ _ g hv
        replace f1 := fun h => (f1 h).imp_left fun g => ringN.stable _ _ _ _ _ g hv
        replace f2 := fun h => (f2 h).imp_left fun g => ringN.stable _ _ _ _ _ g hv
        replace hu := hu.trans_ext hv
        clear d0 d1 d2 hv
        go_wp2_with fail
        generalize w1 = W at *
        have e0 : ∀ u : Ext W, u.w.cell? ⟨sz, 5, none⟩ = some (.int .u64 n2) := fun u => u.cell (cell_of hx 5)
        have e1 : ∀ u : Ext W, u.w.cell? ⟨sz, 10, none⟩ = some (.bool k2) := fun u => u.cell (cell_of hx 10)
        have e2 : ∀ u : Ext W, u.w.cell? ⟨sz, 11, none⟩ = some (.int .i64 m2) := fun u => u.cell (cell_of hx 11)
        refine wp_region_noPanic ?_
        refine wp_region_segP_at [6, 11] [] [1] [0, 2, 3, 4, 5, 6, 7, 8, 9, 10, 11, 12] [13, 14, 15] 13 (fun _ _ _ _ _ h => h) (by kernel_rfl) (by kernel_rfl) (by kernel_rfl) ?_
        refine pre_plain rfl rfl rfl ?_
        intro K' hK'
        go_big_quiet_op
        go_big_quiet_on
        refine seg_plain rfl rfl rfl rfl rfl ?_
        intro K' hK'
        go_big_quiet_op
        go_big_quiet_on
        refine seg_plain rfl rfl rfl rfl rfl ?_
        intro K' hK'
        go_big_quiet_op
        go_big_quiet_on
        refine seg_plain rfl rfl rfl rfl rfl ?_
        intro K' hK'
        go_big_quiet_op
        go_big_quiet_on
        refine seg_plain rfl rfl rfl rfl rfl ?_
        intro K' hK'
        go_big_quiet_op
        go_big_quiet_on
        refine seg_plain rfl rfl rfl rfl rfl ?_
        intro K' hK'
        go_big_quiet_op
        go_big_quiet_on
        refine seg_callO (fun v u => RepN 1 u v n2) (fun _ => []) rfl rfl rfl rfl (fun v u u' h hu => ringN.stable _ _ _ _ _ h hu) (fun _ => List.nodup_nil) (fun w => by go_simp) (fun w hu hd => HF2.out w) ?_
        intro v0
        simp only [Act.put, List.setIfInBounds_toArray, List.set_cons_zero, List.set_cons_succ]
        refine seg_plain rfl rfl rfl rfl rfl ?_
        intro K' hK'
        go_big_quiet_op
        go_big_quiet_on
        refine seg_plain rfl rfl rfl rfl rfl ?_
        intro K' hK'
        go_big_quiet_op
        go_big_quiet_on
        refine seg_plain rfl rfl rfl rfl rfl ?_
        intro K' hK'
        go_big_quiet_op
        go_big_quiet_on
        refine seg_plain rfl rfl rfl rfl rfl ?_
        intro K' hK'
        go_big_quiet_op
        go_big_quiet_on
        refine seg_call rfl rfl rfl rfl (fun w => by go_simp) (fun w _ _ => HO2.out w) ?_
        simp only [Act.put, List.setIfInBounds_toArray, List.set_cons_zero, List.set_cons_succ]
        refine seg_plain rfl rfl rfl rfl rfl ?_
        intro K' hK'
        go_big_quiet_op
        go_big_quiet_on
        intro w9 hg
        have hv := hg.up
        obtain ⟨g, cc, rfl, hnum, hlt⟩ := hg.hold.1
        clear hg e0 e1 e2
        simp only [List.drop_succ_cons, List.drop_zero]
        replace hy := hv.at hy (by simp)
        replace hz := hv.at hz (by simp)
        replace f0 := fun h => (f0 h).imp_left fun g => ringN.stable _ _ _ _ _ g hv
        replace f1 := fun h => (f1 h).imp_left fun g => ringN.stable _ _ _ _ _ g hv
        replace f2 := fun h => (f2 h).imp_left fun g => ringN.stable _ _ _ _ _ g hv
        replace hu := hu.trans_ext hv
        have s0 := cell_of hy 2
        have t0 := free_of hy 2
        have s1 := cell_of hz 4
        have s2 := cell_of hz 5
        have t1 := free_of hz 4
        have t2 := free_of hz 5
        simp only [List.getElem?_toArray, List.getElem?_cons_zero, List.getElem?_cons_succ] at s0 s1 s2
        go_wp2_with fail
        refine NoPanic.normal ?_
        go_wp2_with fail
        go_roundw
        case rel => exact ⟨3, by omega, rfl, lawSt_step2 hu hy hz f0 f1 f2 ⟨g, cc, rfl, hnum, hlt⟩ HRR.out⟩
        case measure => simp [intOf]
    · clear hk
      simp only [show ((3 : Nat) : Int) = 3 from rfl]
      obtain ⟨g0, ⟨rfl, rfl⟩, h0⟩ := f0 (by omega)
      obtain ⟨g1, ⟨rfl, rfl⟩, h1⟩ := f1 (by omega)
      obtain ⟨g2, ⟨rfl, rfl⟩, h2⟩ := f2 (by omega)
      clear f0 f1 f2 HR0 HR1 HR2 HO0 HO1 HO2 HF0 HF1 HF2
      have d0 := cell_of hx 0
      have d1 := cell_of hx 1
      have d2 := cell_of hx 2
      simp only [List.getElem?_toArray, List.getElem?_cons_zero, List.getElem?_cons_succ] at d0 d1 d2
      go_wp2_with fail
      refine (lawfulB ringB repB_shape t0 t1 t2 _ rfl rfl rfl).mono ?_
      rintro e w1 ⟨rfl, hv⟩
      clear d0 d1 d2
      replace hy := hv.at hy (by simp)
      replace hz := hv.at hz (by simp)
      replace g0 := ringN.stable _ _ _ _ _ g0 hv
      replace g1 := ringN.stable _ _ _ _ _ g1 hv
      replace g2 := ringN.stable _ _ _ _ _ g2 hv
      replace hu := hu.trans_ext hv
      clear hv
      have s0 := cell_of hy 0
      have s1 := cell_of hy 1
      have s2 := cell_of hy 2
      have p0 := cell_of hz 0
      have p1 := cell_of hz 1
      have p2 := cell_of hz 2
      have p3 := cell_of hz 3
      have p4 := cell_of hz 4
      have p5 := cell_of hz 5
      simp only [List.getElem?_toArray, List.getElem?_cons_zero, List.getElem?_cons_succ] at s0 s1 s2 p0 p1 p2 p3 p4 p5
      go_wp2_with fail
      refine (lawfulN ringN repN_shape a0 l0 c0 a1 l1 c1 a2 l2 c2 _ g0 g1 g2).mono ?_
      rintro e w2 ⟨rfl, hv⟩
      clear s0 s1 s2 p0 p1 p2 p3 p4 p5
      replace hy := hv.at hy (by simp)
      replace hz := hv.at hz (by simp)
      replace g0 := ringN.stable _ _ _ _ _ g0 hv
      replace g1 := ringN.stable _ _ _ _ _ g1 hv
      replace g2 := ringN.stable _ _ _ _ _ g2 hv
      replace hu := hu.trans_ext hv
      clear hv
      have s0 := cell_of hy 0
      have s1 := cell_of hy 1
      have s2 := cell_of hy 2
      have p0 := cell_of hz 0
      have p1 := cell_of hz 1
      have p2 := cell_of hz 2
      have p3 := cell_of hz 3
      have p4 := cell_of hz 4
      have p5 := cell_of hz 5
      simp only [List.getElem?_toArray, List.getElem?_cons_zero, List.getElem?_cons_succ] at s0 s1 s2 p0 p1 p2 p3 p4 p5
      go_wp2_with fail
      refine (lawfulMi ringMi repC_shape q0 r0 q1 r1 q2 r2 _ (repC_right h0) (repC_right h1) (repC_right h2)).mono ?_
      rintro e w3 ⟨rfl, hv⟩
      clear s0 s1 s2 p0 p1 p2 p3 p4 p5
      replace hy := hv.at hy (by simp)
      replace hz := hv.at hz (by simp)
      replace g0 := ringN.stable _ _ _ _ _ g0 hv
      replace g1 := ringN.stable _ _ _ _ _ g1 hv
      replace g2 := ringN.stable _ _ _ _ _ g2 hv
      replace hu := hu.trans_ext hv
      clear hv
      have s0 := cell_of hy 0
      have s1 := cell_of hy 1
      have s2 := cell_of hy 2
      have p0 := cell_of hz 0
      have p1 := cell_of hz 1
      have p2 := cell_of hz 2
      have p3 := cell_of hz 3
      have p4 := cell_of hz 4
      have p5 := cell_of hz 5
      simp only [List.getElem?_toArray, List.getElem?_cons_zero, List.getElem?_cons_succ] at s0 s1 s2 p0 p1 p2 p3 p4 p5
      go_wp2_with fail
      refine (lawfulMa ringMa repC_shape q0 r0 q1 r1 q2 r2 _ (repC_right h0) (repC_right h1) (repC_right h2)).mono ?_
      rintro e w4 ⟨rfl, hv⟩
      clear s0 s1 s2 p0 p1 p2 p3 p4 p5
      replace hy := hv.at hy (by simp)
      replace hz := hv.at hz (by simp)
      replace g0 := ringN.stable _ _ _ _ _ g0 hv
      replace g1 := ringN.stable _ _ _ _ _ g1 hv
      replace g2 := ringN.stable _ _ _ _ _ g2 hv
      replace hu := hu.trans_ext hv
      clear hv
      have s0 := cell_of hy 0
      have s1 := cell_of hy 1
      have s2 := cell_of hy 2
      have p0 := cell_of hz 0
      have p1 := cell_of hz 1
      have p2 := cell_of hz 2
      have p3 := cell_of hz 3
      have p4 := cell_of hz 4
      have p5 := cell_of hz 5
      simp only [List.getElem?_toArray, List.getElem?_cons_zero, List.getElem?_cons_succ] at s0 s1 s2 p0 p1 p2 p3 p4 p5
      go_wp2_with fail
      refine (HK.out _).mono ?_
      rintro e w5 ⟨rfl, hv⟩
      go_wp2
      go_ret
      exact ⟨rfl, (lift_upto hu0 hu (by simp <;> omega)).trans_ext hv⟩
end Go.Proofs.YtifellalnojomaaDoor
