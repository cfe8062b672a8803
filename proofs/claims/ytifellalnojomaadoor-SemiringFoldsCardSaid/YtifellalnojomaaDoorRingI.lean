/- The four semirings meet what the law asks. -/
import Derived.Test.YtifellalnojomaaDoorRing
import Derived.Test.YtifellalnojomaaDoorNatW
import Derived.Test.YtifellalnojomaaDoorRefs
import Derived.Test.YtifellalnojomaaDoorBoolM
namespace Go.Proofs.YtifellalnojomaaDoor
open Go.RowKit Go.PL Go.Maps

theorem num_upto {S : List Nat} {w w' : World} {va : Option Addr} {vc n : Nat} (h : NumS w va vc n) (hu : Upto S w w') (hn : ∀ B ∈ S, ∀ (i : Nat) (k : Nat), w.cell? ⟨B, i, none⟩ ≠ some (uv k)) : NumS w' va vc n := by
  rcases h with h0 | ⟨g, o, c, hs, hc⟩
  · exact Or.inl h0
  · refine Or.inr ⟨g, o, c, hs, fun j u hj => ?_⟩
    have h1 := hc j u hj
    have hu' : ∃ k : Nat, u = uv k := by
      rw [List.getElem?_map] at hj
      cases hw : (W32 n)[j]? with
      | none => rw [hw] at hj; cases hj
      | some k => rw [hw] at hj; simp at hj; exact ⟨k, hj.symm⟩
    obtain ⟨k, rfl⟩ := hu'
    exact (hu.cell (p := ⟨g, o + j, none⟩) (World.block_lt_of_cell? w _ h1) (fun hm => hn g hm _ _ h1)).trans h1

def RepB (_ : Nat) (_ : World) (v : Value) (x : Bool) : Prop := v = .bool x
theorem ringB : Ring Bool (.agg #[]) 11 12 13 14 15 RepB false true (fun a b => a || b) (fun a b => a && b) where
  stable := fun _ _ _ _ _ h _ => h
  stab2 := fun _ _ _ _ _ _ h _ _ => h
  hz := fun w => (bzero_is w).mono fun e w' ⟨h1, h2⟩ => ⟨_, h1, h2, rfl⟩
  ho := fun w => (bone_is w).mono fun e w' ⟨h1, h2⟩ => ⟨_, h1, h2, rfl⟩
  ha := fun i j w a b x y _ ha hb => by
    cases ha; cases hb
    exact (badd_is x y w).mono fun e w' ⟨h1, h2⟩ => ⟨_, h1, h2, rfl⟩
  hm := fun i j w a b x y _ ha hb => by
    cases ha; cases hb
    exact (bmul_is x y w).mono fun e w' ⟨h1, h2⟩ => ⟨_, h1, h2, rfl⟩
  hs := fun i j w a b x y _ ha hb he => by
    cases ha; cases hb; subst he
    exact (bsame_is x x w).mono fun e w' ⟨h1, h2⟩ => ⟨by rw [h1]; simp, h2⟩
  hd := fun i j w a b x y d _ ha hb he => by
    cases ha; cases hb
    exact (bsame_is x y w).mono fun e w' ⟨h1, h2⟩ => ⟨by rw [h1, show (x == y) = d by rw [Bool.eq_iff_iff, he]; simp], h2⟩
  addc := by intro x y; cases x <;> cases y <;> rfl
  adda := by intro x y t; cases x <;> cases y <;> cases t <;> rfl
  addz := by intro x; cases x <;> rfl
  mulc := by intro x y; cases x <;> cases y <;> rfl
  mula := by intro x y t; cases x <;> cases y <;> cases t <;> rfl
  mulo := by intro x; cases x <;> rfl
  mulz := by intro x; cases x <;> rfl
  dist := by intro x y t; cases x <;> cases y <;> cases t <;> rfl

theorem W32_pow : ∀ (k n : Nat), n < 4294967296 ^ k → (W32 n).length ≤ k
  | 0, n, h => by
    obtain rfl : n = 0 := by simpa using h
    rw [W32_zero]; simp
  | k + 1, n, h => by
    by_cases h0 : n = 0
    · rw [h0, W32_zero]; simp
    · rw [W32_pos h0, List.length_cons]
      have := W32_pow k (n / 4294967296) (by
        rw [Nat.pow_succ] at h
        exact Nat.div_lt_of_lt_mul (by rw [Nat.mul_comm]; exact h))
      omega

def RepN (i : Nat) (w : World) (v : Value) (n : Nat) : Prop := ∃ g c, v = .agg #[.slice g (W32 n).length c] ∧ NumS w g c n ∧ n < 4294967296 ^ (2 * i)
theorem repN_len {i : Nat} {w : World} {v : Value} {n : Nat} (hi : i ≤ 20) (h : n < 4294967296 ^ (2 * i)) : (W32 n).length ≤ 100000000000 := by
  have := W32_pow _ _ h
  omega
theorem pow_add_lt {x y i j : Nat} (hx : x < 4294967296 ^ (2 * i)) (hy : y < 4294967296 ^ (2 * j)) : x + y < 4294967296 ^ (2 * (i + j)) := by
  rw [Nat.mul_add, Nat.pow_add]
  generalize 4294967296 ^ (2 * i) = a at *
  generalize 4294967296 ^ (2 * j) = b at *
  have h1 : (x + 1) * (y + 1) ≤ a * b := Nat.mul_le_mul hx hy
  rw [Nat.mul_add, Nat.add_mul] at h1
  have := Nat.zero_le (x * y)
  omega
theorem pow_mul_lt {x y i j : Nat} (hx : x < 4294967296 ^ (2 * i)) (hy : y < 4294967296 ^ (2 * j)) : x * y < 4294967296 ^ (2 * (i + j)) := by
  rw [Nat.mul_add, Nat.pow_add]
  exact Nat.mul_lt_mul'' hx hy
theorem repN_upto {S : List Nat} {i : Nat} {w w' : World} {v : Value} {n : Nat} (h : RepN i w v n) (hu : Upto S w w') (hn : ∀ B ∈ S, ∀ (i : Nat) (k : Nat), w.cell? ⟨B, i, none⟩ ≠ some (uv k)) : RepN i w' v n := by
  obtain ⟨g, c, h1, h2, h3⟩ := h
  exact ⟨g, c, h1, num_upto h2 hu hn, h3⟩
theorem repN_shape (i : Nat) (w : World) (v : Value) (x : Nat) (h : RepN i w v x) : ∃ g n c, v = .agg #[.slice g n c] := by
  obtain ⟨g, c, h, _⟩ := h
  exact ⟨g, _, c, h⟩
theorem ringN : Ring Nat (.agg #[]) 37 38 34 36 40 RepN 0 1 (fun a b => a + b) (fun a b => a * b) where
  stable := fun i v x w w' ⟨g, c, h1, h2, h3⟩ hu => ⟨g, c, h1, h2.ext hu, h3⟩
  stab2 := fun i v x w w' B h hu hn => repN_upto h hu (by intro B' hB; rw [List.mem_singleton.1 hB]; exact hn)
  hz := fun w => (nzero_calls w).mono fun e w' ⟨b, h1, h2, h3⟩ => ⟨_, h1, h3, _, _, rfl, h2, by decide⟩
  ho := fun w => (none_calls w).mono fun e w' ⟨b, h1, h2, h3⟩ => ⟨_, h1, h3, _, _, rfl, h2, by decide⟩
  ha := fun i j w a b x y hij ⟨g, c, h1, h2, h3⟩ ⟨g', c', k1, k2, k3⟩ => by
    subst h1 k1
    exact (nadd_calls x y _ _ _ _ w h2 k2 (repN_len (w := w) (v := undef) (by omega) h3) (repN_len (w := w) (v := undef) (by omega) k3)).mono fun e w' ⟨b, d, m1, m2, m3⟩ => ⟨_, m1, m3, _, _, rfl, m2, pow_add_lt h3 k3⟩
  hm := fun i j w a b x y hij ⟨g, c, h1, h2, h3⟩ ⟨g', c', k1, k2, k3⟩ => by
    subst h1 k1
    exact (nmul_calls x y _ _ _ _ w h2 k2 (repN_len (w := w) (v := undef) (by omega) h3) (repN_len (w := w) (v := undef) (by omega) k3)).mono fun e w' ⟨b, d, m1, m2, m3⟩ => ⟨_, m1, m3, _, _, rfl, m2, pow_mul_lt h3 k3⟩
  hs := fun i j w a b x y hij ⟨g, c, h1, h2, h3⟩ ⟨g', c', k1, k2, k3⟩ he => by
    subst h1 k1 he
    exact (nsame_calls x x _ _ _ _ w h2 k2 (repN_len (w := w) (v := undef) (by omega) h3) (repN_len (w := w) (v := undef) (by omega) k3)).mono fun e w' ⟨m1, m2⟩ => ⟨by rw [m1]; simp, m2⟩
  hd := fun i j w a b x y d hij ⟨g, c, h1, h2, h3⟩ ⟨g', c', k1, k2, k3⟩ he => by
    subst h1 k1
    exact (nsame_calls x y _ _ _ _ w h2 k2 (repN_len (w := w) (v := undef) (by omega) h3) (repN_len (w := w) (v := undef) (by omega) k3)).mono fun e w' ⟨m1, m2⟩ => ⟨by rw [m1, show decide (x = y) = d by rw [Bool.eq_iff_iff, he]; simp], m2⟩
  addc := Nat.add_comm
  adda := Nat.add_assoc
  addz := Nat.add_zero
  mulc := Nat.mul_comm
  mula := Nat.mul_assoc
  mulo := Nat.mul_one
  mulz := Nat.mul_zero
  dist := Nat.mul_add

def minO : Option Int → Option Int → Option Int
  | none, y => y
  | some a, none => some a
  | some a, some b => some (min a b)
def maxO : Option Int → Option Int → Option Int
  | none, y => y
  | some a, none => some a
  | some a, some b => some (max a b)
def mulO : Option Int → Option Int → Option Int
  | some a, some b => some (a + b)
  | _, _ => none
def costO (a : Bool × Int) : Option Int := if a.1 then some a.2 else none
def RepC (i : Nat) (_ : World) (v : Value) (x : Option Int) : Prop := ∃ a, v = cv a ∧ x = costO a ∧ (a.1 = true → -(1099511627776 * (i : Int)) ≤ a.2 ∧ a.2 ≤ 1099511627776 * (i : Int))

theorem orF_min (a b : Bool × Int) : costO (orF a b (decide (a.2 < b.2))) = minO (costO a) (costO b) := by
  obtain ⟨k, n⟩ := a
  obtain ⟨k', n'⟩ := b
  cases k <;> cases k' <;> simp [orF, plainF, costO, minO]
  by_cases h : n < n' <;> simp [h] <;> omega
theorem orF_max (a b : Bool × Int) : costO (orF a b (decide (a.2 > b.2))) = maxO (costO a) (costO b) := by
  obtain ⟨k, n⟩ := a
  obtain ⟨k', n'⟩ := b
  cases k <;> cases k' <;> simp [orF, plainF, costO, maxO]
  by_cases h : n' < n <;> simp [h] <;> omega
theorem orF_le (a b : Bool × Int) (c : Bool) (m : Int) (h : a.1 = true → -m ≤ a.2 ∧ a.2 ≤ m) (h' : b.1 = true → -m ≤ b.2 ∧ b.2 ≤ m) : (orF a b c).1 = true → -m ≤ (orF a b c).2 ∧ (orF a b c).2 ≤ m := by
  obtain ⟨k, n⟩ := a
  obtain ⟨k', n'⟩ := b
  cases k <;> cases k' <;> cases c <;> simp [orF, plainF] at * <;> assumption
theorem andF_mul (a b : Bool × Int) (h : a.1 = true → -(1099511627776 * 20) ≤ a.2 ∧ a.2 ≤ 1099511627776 * 20) (h' : b.1 = true → -(1099511627776 * 20) ≤ b.2 ∧ b.2 ≤ 1099511627776 * 20) : costO (andF a b) = mulO (costO a) (costO b) := by
  obtain ⟨k, n⟩ := a
  obtain ⟨k', n'⟩ := b
  cases k <;> cases k' <;> simp [andF, costO, mulO]
  simp at h h'
  exact IntWalk.wrap64_in _ (by omega)
theorem same_eq {a b : Bool × Int} (h : costO a = costO b) : sameR a b = true := by
  obtain ⟨k, n⟩ := a
  obtain ⟨k', n'⟩ := b
  cases k <;> cases k' <;> simp [costO, sameR] at h ⊢
  exact h

theorem same_iff {a b : Bool × Int} {d : Bool} (h : d = true ↔ costO a = costO b) : sameR a b = d := by
  rw [Bool.eq_iff_iff, h]
  constructor
  · obtain ⟨k, n⟩ := a
    obtain ⟨k', n'⟩ := b
    cases k <;> cases k' <;> simp [costO, sameR]
  · exact same_eq

theorem repC_add {i j : Nat} {a b : Bool × Int} (h : a.1 = true → -(1099511627776 * (i : Int)) ≤ a.2 ∧ a.2 ≤ 1099511627776 * (i : Int)) (h' : b.1 = true → -(1099511627776 * (j : Int)) ≤ b.2 ∧ b.2 ≤ 1099511627776 * (j : Int)) (c : Bool) :
    (orF a b c).1 = true → -(1099511627776 * ((i + j : Nat) : Int)) ≤ (orF a b c).2 ∧ (orF a b c).2 ≤ 1099511627776 * ((i + j : Nat) : Int) :=
  orF_le a b c _ (fun hk => by have := h hk; omega) (fun hk => by have := h' hk; omega)
theorem repC_mul {i j : Nat} {a b : Bool × Int} (hij : i + j ≤ 20) (h : a.1 = true → -(1099511627776 * (i : Int)) ≤ a.2 ∧ a.2 ≤ 1099511627776 * (i : Int)) (h' : b.1 = true → -(1099511627776 * (j : Int)) ≤ b.2 ∧ b.2 ≤ 1099511627776 * (j : Int)) :
    (andF a b).1 = true → -(1099511627776 * ((i + j : Nat) : Int)) ≤ (andF a b).2 ∧ (andF a b).2 ≤ 1099511627776 * ((i + j : Nat) : Int) := by
  obtain ⟨k, n⟩ := a
  obtain ⟨k', n'⟩ := b
  cases k <;> cases k' <;> simp [andF]
  simp at h h'
  rw [IntWalk.wrap64_in _ (by omega)]
  omega
theorem repC_20 {i : Nat} {a : Bool × Int} (hi : i ≤ 20) (h : a.1 = true → -(1099511627776 * (i : Int)) ≤ a.2 ∧ a.2 ≤ 1099511627776 * (i : Int)) : a.1 = true → -(1099511627776 * 20) ≤ a.2 ∧ a.2 ≤ 1099511627776 * 20 := fun hk => by have := h hk; omega

theorem repC_shape (i : Nat) (w : World) (v : Value) (x : Option Int) (h : RepC i w v x) : ∃ k m, v = .agg #[.bool k, .int .i64 m] := by
  obtain ⟨a, h, _⟩ := h
  exact ⟨a.1, a.2, h⟩
theorem repB_shape (i : Nat) (w : World) (v : Value) (x : Bool) (h : RepB i w v x) : ∃ k, v = .bool k := ⟨x, h⟩
theorem ringMi : Ring (Option Int) (.agg #[]) 29 31 21 24 27 RepC none (some 0) minO mulO where
  stable := fun i v x w w' h _ => h
  stab2 := fun _ _ _ _ _ _ h _ _ => h
  hz := fun w => (minZero_calls w).mono fun e w' ⟨h1, h2⟩ => ⟨_, h1, h2, _, rfl, rfl, by simp⟩
  ho := fun w => (minOne_calls w).mono fun e w' ⟨h1, h2⟩ => ⟨_, h1, h2, _, rfl, rfl, by simp⟩
  ha := fun i j w a b x y hij ⟨p, h1, h2, h3⟩ ⟨q, k1, k2, k3⟩ => by
    subst h1 k1 h2 k2
    exact (minAdd_calls p.1 p.2 q.1 q.2 w).mono fun e w' ⟨m1, m2⟩ => ⟨_, m1, m2, _, rfl, (orF_min p q).symm, repC_add h3 k3 _⟩
  hm := fun i j w a b x y hij ⟨p, h1, h2, h3⟩ ⟨q, k1, k2, k3⟩ => by
    subst h1 k1 h2 k2
    exact (minMul_calls p.1 p.2 q.1 q.2 w).mono fun e w' ⟨m1, m2⟩ => ⟨_, m1, m2, _, rfl, (andF_mul p q (repC_20 (by omega) h3) (repC_20 (by omega) k3)).symm, repC_mul hij h3 k3⟩
  hs := fun i j w a b x y hij ⟨p, h1, h2, h3⟩ ⟨q, k1, k2, k3⟩ he => by
    subst h1 k1 h2 k2
    exact (minSame_calls p q w).mono fun e w' ⟨m1, m2⟩ => ⟨by rw [m1, same_eq he], m2⟩
  hd := fun i j w a b x y d hij ⟨p, h1, h2, h3⟩ ⟨q, k1, k2, k3⟩ he => by
    subst h1 k1 h2 k2
    exact (minSame_calls p q w).mono fun e w' ⟨m1, m2⟩ => ⟨by rw [m1, same_iff he], m2⟩
  addc := by rintro (_ | x) (_ | y) <;> simp [minO] <;> omega
  adda := by rintro (_ | x) (_ | y) (_ | t) <;> simp [minO] <;> omega
  addz := by rintro (_ | x) <;> simp [minO]
  mulc := by rintro (_ | x) (_ | y) <;> simp [mulO] <;> omega
  mula := by rintro (_ | x) (_ | y) (_ | t) <;> simp [mulO] <;> omega
  mulo := by rintro (_ | x) <;> simp [mulO]
  mulz := by rintro (_ | x) <;> simp [mulO]
  dist := by rintro (_ | x) (_ | y) (_ | t) <;> simp [minO, mulO] <;> omega
theorem ringMa : Ring (Option Int) (.agg #[]) 30 32 23 26 28 RepC none (some 0) maxO mulO where
  stable := fun i v x w w' h _ => h
  stab2 := fun _ _ _ _ _ _ h _ _ => h
  hz := fun w => (maxZero_calls w).mono fun e w' ⟨h1, h2⟩ => ⟨_, h1, h2, _, rfl, rfl, by simp⟩
  ho := fun w => (maxOne_calls w).mono fun e w' ⟨h1, h2⟩ => ⟨_, h1, h2, _, rfl, rfl, by simp⟩
  ha := fun i j w a b x y hij ⟨p, h1, h2, h3⟩ ⟨q, k1, k2, k3⟩ => by
    subst h1 k1 h2 k2
    exact (maxAdd_calls p.1 p.2 q.1 q.2 w).mono fun e w' ⟨m1, m2⟩ => ⟨_, m1, m2, _, rfl, (orF_max p q).symm, repC_add h3 k3 _⟩
  hm := fun i j w a b x y hij ⟨p, h1, h2, h3⟩ ⟨q, k1, k2, k3⟩ => by
    subst h1 k1 h2 k2
    exact (maxMul_calls p.1 p.2 q.1 q.2 w).mono fun e w' ⟨m1, m2⟩ => ⟨_, m1, m2, _, rfl, (andF_mul p q (repC_20 (by omega) h3) (repC_20 (by omega) k3)).symm, repC_mul hij h3 k3⟩
  hs := fun i j w a b x y hij ⟨p, h1, h2, h3⟩ ⟨q, k1, k2, k3⟩ he => by
    subst h1 k1 h2 k2
    exact (maxSame_calls p q w).mono fun e w' ⟨m1, m2⟩ => ⟨by rw [m1, same_eq he], m2⟩
  hd := fun i j w a b x y d hij ⟨p, h1, h2, h3⟩ ⟨q, k1, k2, k3⟩ he => by
    subst h1 k1 h2 k2
    exact (maxSame_calls p q w).mono fun e w' ⟨m1, m2⟩ => ⟨by rw [m1, same_iff he], m2⟩
  addc := by rintro (_ | x) (_ | y) <;> simp [maxO] <;> omega
  adda := by rintro (_ | x) (_ | y) (_ | t) <;> simp [maxO] <;> omega
  addz := by rintro (_ | x) <;> simp [maxO]
  mulc := by rintro (_ | x) (_ | y) <;> simp [mulO] <;> omega
  mula := by rintro (_ | x) (_ | y) (_ | t) <;> simp [mulO] <;> omega
  mulo := by rintro (_ | x) <;> simp [mulO]
  mulz := by rintro (_ | x) <;> simp [mulO]
  dist := by rintro (_ | x) (_ | y) (_ | t) <;> simp [maxO, mulO] <;> omega
end Go.Proofs.YtifellalnojomaaDoor
