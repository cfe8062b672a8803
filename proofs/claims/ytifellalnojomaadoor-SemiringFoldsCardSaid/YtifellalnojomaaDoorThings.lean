/- The argument of three arrays, opened. -/
import Derived.Test.YtifellalnojomaaDoorOpen
import Derived.Test.YtifellalnojomaaDoorCost
import Derived.ChangeMaps5
import Derived.Deep.Strs
namespace Go.Proofs.YtifellalnojomaaDoor
open Go.ChangeShapes Go.WideShapes Go.ChangeAt Go.RowKit Go.PL Go.Deep

theorem mapM_all {α β : Type} {f : α → Option β} : ∀ {l : List α} {ys : List β}, l.mapM f = some ys → ∀ x ∈ l, ∃ y, f x = some y
  | [], _, _ => by simp
  | a :: l, ys, h => by
    rw [List.mapM_cons] at h
    cases ha : f a with
    | none => rw [ha] at h; simp at h
    | some b =>
      rw [ha] at h
      cases hl : l.mapM f with
      | none => rw [hl] at h; simp at h
      | some bs =>
        intro x hx
        rcases List.mem_cons.1 hx with rfl | hx
        · exact ⟨b, ha⟩
        · exact mapM_all hl x hx

theorem trod_array {H : Type} {enc : TypeId × Value → H} {P : Program} {w : World} {base : Nat} {spare : Nat → Bool} {held : Bool} {fuel : Nat} {t e : TypeId} {n : Nat} {cs : List Value} {x : DataW H × List MemPlace} (ht : P.underlying t = some (.array n e)) (h : DataW.trod enc P w base spare held fuel t cs = some x) :
    ∃ m, cs.length = P.cellsOf t ∧ ∀ i < n, ∃ y, DataW.trod enc P w base spare held m e ((cs.drop (i * P.cellsOf e)).take (P.cellsOf e)) = some y := by
  cases fuel with
  | zero => simp [DataW.trod] at h
  | succ m =>
    rw [DataW.trod_step] at h
    simp only [DataW.trodStep, ht] at h
    split at h
    · rename_i hl
      rw [Option.map_eq_some_iff] at h
      obtain ⟨ys, h, _⟩ := h
      exact ⟨m, hl, fun i hi => mapM_all h i (List.mem_range.2 hi)⟩
    · cases h

theorem three_bools {H : Type} {enc : TypeId × Value → H} {W : World} {fuel : Nat} {a b c : Value} {x : DataW H × List MemPlace} (h : DataW.trod enc Tryd.prog W 0 (fun _ => true) true fuel 54 [a, b, c] = some x) : ∃ t0 t1 t2, a = .bool t0 ∧ b = .bool t1 ∧ c = .bool t2 := by
  obtain ⟨m, _, h⟩ := trod_array Tryd.underlying54 h
  simp only [show Tryd.prog.cellsOf 4 = 1 by kernel_rfl] at h
  obtain ⟨_, h0⟩ := h 0 (by omega)
  obtain ⟨_, h1⟩ := h 1 (by omega)
  obtain ⟨_, h2⟩ := h 2 (by omega)
  simp at h0 h1 h2
  obtain ⟨t0, e0, -⟩ := DataW.trod_bool Tryd.underlying4 h0
  obtain ⟨t1, e1, -⟩ := DataW.trod_bool Tryd.underlying4 h1
  obtain ⟨t2, e2, -⟩ := DataW.trod_bool Tryd.underlying4 h2
  simp at e0 e1 e2
  exact ⟨t0, t1, t2, e0, e1, e2⟩
theorem u64_nat' {z : Int} (h : (Lit.int IntKind.u64 z).wf = true) : ∃ n : Nat, z = n ∧ n < 18446744073709551616 := by
  have h2 : 0 ≤ z ∧ z ≤ 18446744073709551615 := by simpa [Lit.wf, IntKind.min, IntKind.max, IntKind.signed, IntKind.bits] using h
  exact ⟨z.toNat, by omega, by omega⟩
theorem three_u64 {H : Type} {enc : TypeId × Value → H} {W : World} {fuel : Nat} {a b c : Value} {x : DataW H × List MemPlace} (h : DataW.trod enc Tryd.prog W 0 (fun _ => true) true fuel 55 [a, b, c] = some x) :
    ∃ n0 n1 n2 : Nat, (a = .int .u64 n0 ∧ b = .int .u64 n1 ∧ c = .int .u64 n2) ∧ n0 < 18446744073709551616 ∧ n1 < 18446744073709551616 ∧ n2 < 18446744073709551616 := by
  obtain ⟨m, _, h⟩ := trod_array Tryd.underlying55 h
  simp only [show Tryd.prog.cellsOf 41 = 1 by kernel_rfl] at h
  obtain ⟨_, h0⟩ := h 0 (by omega)
  obtain ⟨_, h1⟩ := h 1 (by omega)
  obtain ⟨_, h2⟩ := h 2 (by omega)
  simp at h0 h1 h2
  obtain ⟨t0, e0, -, w0⟩ := DataW.trod_int Tryd.underlying41 h0
  obtain ⟨t1, e1, -, w1⟩ := DataW.trod_int Tryd.underlying41 h1
  obtain ⟨t2, e2, -, w2⟩ := DataW.trod_int Tryd.underlying41 h2
  simp at e0 e1 e2
  obtain ⟨n0, rfl, l0⟩ := u64_nat' w0
  obtain ⟨n1, rfl, l1⟩ := u64_nat' w1
  obtain ⟨n2, rfl, l2⟩ := u64_nat' w2
  exact ⟨n0, n1, n2, ⟨e0, e1, e2⟩, l0, l1, l2⟩
theorem cost_cells {H : Type} {enc : TypeId × Value → H} {W : World} {fuel : Nat} {a b : Value} {x : DataW H × List MemPlace} (h : DataW.trod enc Tryd.prog W 0 (fun _ => true) true fuel 27 [a, b] = some x) : ∃ k m, a = .bool k ∧ b = .int .i64 m := by
  obtain ⟨y0, y1, m', -, hl, e0, e1⟩ := trod_struct2 Tryd.underlying27 h
  simp only [show Tryd.prog.cellsOf 4 = 1 by kernel_rfl, show Tryd.prog.cellsOf 3 = 1 by kernel_rfl] at e0 e1
  simp at e0 e1
  obtain ⟨b, hb, -⟩ := DataW.trod_bool Tryd.underlying4 e0
  obtain ⟨z, hz, -⟩ := DataW.trod_int Tryd.underlying3 e1
  simp at hb hz
  exact ⟨b, z, hb, hz⟩
theorem three_costs {H : Type} {enc : TypeId × Value → H} {W : World} {fuel : Nat} {a b c d e f : Value} {x : DataW H × List MemPlace} (h : DataW.trod enc Tryd.prog W 0 (fun _ => true) true fuel 56 [a, b, c, d, e, f] = some x) :
    ∃ k0 m0 k1 m1 k2 m2, (a = .bool k0 ∧ b = .int .i64 m0) ∧ (c = .bool k1 ∧ d = .int .i64 m1) ∧ e = .bool k2 ∧ f = .int .i64 m2 := by
  obtain ⟨m, _, h⟩ := trod_array Tryd.underlying56 h
  simp only [show Tryd.prog.cellsOf 27 = 2 by kernel_rfl] at h
  obtain ⟨_, h0⟩ := h 0 (by omega)
  obtain ⟨_, h1⟩ := h 1 (by omega)
  obtain ⟨_, h2⟩ := h 2 (by omega)
  simp at h0 h1 h2
  obtain ⟨k0, m0, p0⟩ := cost_cells h0
  obtain ⟨k1, m1, p1⟩ := cost_cells h1
  obtain ⟨k2, m2, p2⟩ := cost_cells h2
  exact ⟨k0, m0, k1, m1, k2, m2, p0, p1, p2⟩

set_option maxRecDepth 100000 in
/-- the argument: three bools, three numbers, three costs -/
theorem open_things {H : Type} {enc : TypeId × Value → H} {W : World} {r : Reach} {b0 : Nat} {v : Value} {d : DataW H} {ps : List MemPlace} (hv : Value.okWide Tryd.prog W r b0 58 v) (h : DataW.Trod enc Tryd.prog W 0 (fun _ => true) true 58 v d ps) :
    ∃ (t0 t1 t2 : Bool) (n0 n1 n2 : Nat) (k0 : Bool) (m0 : Int) (k1 : Bool) (m1 : Int) (k2 : Bool) (m2 : Int), (n0 < 18446744073709551616 ∧ n1 < 18446744073709551616 ∧ n2 < 18446744073709551616) ∧
      v = .agg #[.bool t0, .bool t1, .bool t2, .int .u64 n0, .int .u64 n1, .int .u64 n2, .bool k0, .int .i64 m0, .bool k1, .int .i64 m1, .bool k2, .int .i64 m2] := by
  obtain ⟨cs, rfl, hsz⟩ := okWide_struct Tryd.underlying58 hv
  obtain ⟨m, hf⟩ := h
  rw [show Tryd.prog.cellsOf 58 = 12 by kernel_rfl] at hsz
  simp only [Value.cells] at hf
  obtain ⟨y0, y1, y2, m', -, hl, e0, e1, e2⟩ := trod_struct3 Tryd.underlying58 hf
  simp only [show Tryd.prog.cellsOf 54 = 3 by kernel_rfl, show Tryd.prog.cellsOf 55 = 3 by kernel_rfl, show Tryd.prog.cellsOf 56 = 6 by kernel_rfl] at e0 e1 e2
  obtain ⟨l⟩ := cs
  match l, hsz with
  | [c0, c1, c2, c3, c4, c5, c6, c7, c8, c9, c10, c11], _ =>
    simp at e0 e1 e2
    obtain ⟨t0, t1, t2, rfl, rfl, rfl⟩ := three_bools e0
    obtain ⟨n0, n1, n2, ⟨rfl, rfl, rfl⟩, hn⟩ := three_u64 e1
    obtain ⟨k0, m0, k1, m1, k2, m2, ⟨rfl, rfl⟩, ⟨rfl, rfl⟩, rfl, rfl⟩ := three_costs e2
    exact ⟨t0, t1, t2, n0, n1, n2, k0, m0, k1, m1, k2, m2, hn, rfl⟩
end Go.Proofs.YtifellalnojomaaDoor
