/- bignat's Mul: the plain law of its two loops. -/
import Derived.Test.YtifellalnojomaaDoorNat32
namespace Go.Proofs.YtifellalnojomaaDoor

theorem valL_set : ∀ (l : List Nat) (k v : Nat), k < l.length → valL (l.set k v) + 4294967296 ^ k * l.getD k 0 = valL l + 4294967296 ^ k * v
  | [], k, v, h => by simp at h
  | x :: xs, 0, v, _ => by simp [valL]; omega
  | x :: xs, k + 1, v, h => by
    have ih := valL_set xs k v (by simpa using h)
    have e1 : (x :: xs).getD (k + 1) 0 = xs.getD k 0 := by simp
    rw [e1, List.set_cons_succ]
    simp only [valL]
    have p1 : 4294967296 ^ (k + 1) * xs.getD k 0 = 4294967296 * (4294967296 ^ k * xs.getD k 0) := by rw [Nat.pow_succ, Nat.mul_comm (4294967296 ^ k), Nat.mul_assoc]
    have p2 : 4294967296 ^ (k + 1) * v = 4294967296 * (4294967296 ^ k * v) := by rw [Nat.pow_succ, Nat.mul_comm (4294967296 ^ k), Nat.mul_assoc]
    rw [p1, p2]
    omega
theorem getD_set_other (l : List Nat) {k m : Nat} (h : k ≠ m) (v : Nat) : (l.set k v).getD m 0 = l.getD m 0 := by
  rw [List.getD_eq_getElem?_getD, List.getD_eq_getElem?_getD, List.getElem?_set_ne h]
theorem lt_set {l : List Nat} {k v : Nat} (h : ∀ x ∈ l, x < 4294967296) (hv : v < 4294967296) : ∀ x ∈ l.set k v, x < 4294967296 := by
  intro x hx
  rcases List.mem_or_eq_of_mem_set hx with h1 | rfl
  · exact h x h1
  · exact hv

/-- what holds at the head of an inner round -/
structure MulJ (V0 x : Nat) (b : List Nat) (i j : Nat) (out : List Nat) (c : Nat) : Prop where
  lt : ∀ w ∈ out, w < 4294967296
  cy : c < 4294967296
  val : valL out + 4294967296 ^ (i + j) * c = V0 + 4294967296 ^ i * (x * valL (b.take j))
  high : ∀ k, i + b.length ≤ k → out.getD k 0 = 0

theorem MulJ.bound {x y o c : Nat} (hx : x < 4294967296) (hy : y < 4294967296) (ho : o < 4294967296) (hc : c < 4294967296) : x * y ≤ 18446744065119617025 ∧ (x * y + o + c) / 4294967296 < 4294967296 := by
  have h : x * y ≤ 4294967295 * 4294967295 := Nat.mul_le_mul (by omega) (by omega)
  constructor
  · omega
  · omega

theorem MulJ.step {V0 x : Nat} {b : List Nat} {i j : Nat} {out : List Nat} {c : Nat} (h : MulJ V0 x b i j out c) (hj : j < b.length) (hx : x < 4294967296) (hb : ∀ y ∈ b, y < 4294967296) (hlen : i + j < out.length) :
    MulJ V0 x b i (j + 1) (out.set (i + j) ((x * b.getD j 0 + out.getD (i + j) 0 + c) % 4294967296)) ((x * b.getD j 0 + out.getD (i + j) 0 + c) / 4294967296) := by
  have h1 := MulJ.bound hx (getD_lt hb j) (getD_lt h.lt (i + j)) h.cy
  refine ⟨lt_set h.lt (by omega), h1.2, ?_, fun k hk => ?_⟩
  · have hs := valL_set out (i + j) ((x * b.getD j 0 + out.getD (i + j) 0 + c) % 4294967296) hlen
    have hv := h.val
    rw [valL_take_succ]
    generalize out.getD (i + j) 0 = o at *
    generalize b.getD j 0 = y at *
    generalize hsum : x * y + o + c = s at *
    have e : 4294967296 ^ (i + (j + 1)) * (s / 4294967296) + 4294967296 ^ (i + j) * (s % 4294967296) = 4294967296 ^ (i + j) * s := by
      rw [← Nat.add_assoc, Nat.pow_succ, Nat.mul_assoc, ← Nat.mul_add]
      congr 1
      omega
    have e2 : 4294967296 ^ (i + j) * s = 4294967296 ^ (i + j) * (x * y) + 4294967296 ^ (i + j) * o + 4294967296 ^ (i + j) * c := by
      rw [← hsum, Nat.mul_add, Nat.mul_add]
    have e3 : 4294967296 ^ i * (x * (valL (b.take j) + 4294967296 ^ j * y)) = 4294967296 ^ i * (x * valL (b.take j)) + 4294967296 ^ (i + j) * (x * y) := by
      rw [Nat.mul_add, Nat.mul_add, Nat.pow_add]
      congr 1
      rw [Nat.mul_assoc, Nat.mul_left_comm x]
    rw [e3]
    omega
  · rw [getD_set_other _ (by omega)]
    exact h.high k hk

theorem MulJ.fresh {V : Nat} {b : List Nat} {i : Nat} {out : List Nat} (h1 : ∀ w ∈ out, w < 4294967296) (h2 : valL out = V) (h3 : ∀ k, i + b.length ≤ k → out.getD k 0 = 0) : MulJ V 0 b i 0 out 0 where
  lt := h1
  cy := Nat.zero_lt_succ _
  val := by rw [h2, Nat.zero_mul, Nat.mul_zero, Nat.mul_zero]
  high := h3

theorem MulJ.last {V0 x : Nat} {b : List Nat} {i : Nat} {out : List Nat} {c : Nat} (h : MulJ V0 x b i b.length out c) (hlen : i + b.length < out.length) :
    MulJ (V0 + 4294967296 ^ i * (x * valL b)) 0 b (i + 1) 0 (out.set (i + b.length) c) 0 := by
  have e : valL (out.set (i + b.length) c) = V0 + 4294967296 ^ i * (x * valL b) := by
    have hs := valL_set out (i + b.length) c hlen
    have hv := h.val
    rw [List.take_of_length_le (Nat.le_refl _)] at hv
    rw [h.high (i + b.length) (Nat.le_refl _), Nat.mul_zero, Nat.add_zero] at hs
    rw [hs, hv]
  exact MulJ.fresh (lt_set h.lt h.cy) e (fun k hk => by
    rw [getD_set_other _ (by omega)]
    exact h.high k (by omega))

/-- between two outer rounds: x is of no account -/
theorem MulJ.next {V0 x y : Nat} {b : List Nat} {i : Nat} {out : List Nat} (h : MulJ V0 x b i 0 out 0) : MulJ V0 y b i 0 out 0 :=
  ⟨h.lt, h.cy, by have := h.val; simpa [valL] using this, h.high⟩
theorem MulJ.start (b : List Nat) (n : Nat) : MulJ 0 0 b 0 0 (List.replicate n 0) 0 := by
  have hv : valL (List.replicate n 0) = 0 := by
    induction n with
    | zero => rfl
    | succ n ih => rw [List.replicate_succ, valL, ih]
  refine ⟨fun w hw => by rw [(List.mem_replicate.1 hw).2]; omega, by omega, by simp [hv, valL], fun k _ => ?_⟩
  rw [List.getD_eq_getElem?_getD]
  cases h : (List.replicate n 0)[k]? with
  | none => rfl
  | some u => exact (List.mem_replicate.1 (List.mem_of_getElem? h)).2
theorem MulJ.fin {V : Nat} {b : List Nat} {i : Nat} {out : List Nat} (h : MulJ V 0 b i 0 out 0) : valL out = V := by
  have := h.val
  rwa [Nat.zero_mul, Nat.mul_zero, Nat.mul_zero, Nat.add_zero, Nat.add_zero] at this
theorem cast_mod (x y o c : Nat) : ((x : Int) * y + o + c) % 4294967296 = (((x * y + o + c) % 4294967296 : Nat) : Int) := by
  have := Int.natCast_mul x y
  omega
theorem cast_div (x y o c : Nat) : ((x : Int) * y + o + c) / 4294967296 = (((x * y + o + c) / 4294967296 : Nat) : Int) := by
  have := Int.natCast_mul x y
  omega
theorem mul_take (a b : List Nat) (i : Nat) : valL (a.take i) * valL b + 4294967296 ^ i * (a.getD i 0 * valL b) = valL (a.take (i + 1)) * valL b := by
  rw [valL_take_succ, Nat.add_mul, Nat.mul_assoc]
end Go.Proofs.YtifellalnojomaaDoor
