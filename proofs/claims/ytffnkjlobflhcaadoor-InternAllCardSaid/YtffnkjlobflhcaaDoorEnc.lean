/- Base-36 texts of numbers: plain mathematics. -/
import Derived.Test.YtffnkjlobflhcaaDoorRows
namespace Go.Proofs.YtffnkjlobflhcaaDoor

def digs : List UInt8 := [48, 49, 50, 51, 52, 53, 54, 55, 56, 57, 97, 98, 99, 100, 101, 102, 103, 104, 105, 106, 107, 108, 109, 110, 111, 112, 113, 114, 115, 116, 117, 118, 119, 120, 121, 122]
def dg (d : Nat) : UInt8 := digs.getD d 0

def enc36 (u : Nat) : List UInt8 := if u < 36 then [dg u] else enc36 (u / 36) ++ [dg (u % 36)]
termination_by u
decreasing_by omega

theorem enc36_small {u : Nat} (h : u < 36) : enc36 u = [dg u] := by rw [enc36, if_pos h]
theorem enc36_big {u : Nat} (h : 36 ≤ u) : enc36 u = enc36 (u / 36) ++ [dg (u % 36)] := by rw [enc36, if_neg (by omega)]

theorem dg_inj {a b : Nat} (ha : a < 36) (hb : b < 36) (h : dg a = dg b) : a = b := by
  have key : ∀ a : Fin 36, ∀ b : Fin 36, dg a = dg b → a = b := by decide +kernel
  have := key ⟨a, ha⟩ ⟨b, hb⟩ h
  exact congrArg Fin.val this
theorem dg_ne (a : Nat) (ha : a < 36) : dg a ≠ 44 ∧ dg a ≠ 45 := by
  have key : ∀ a : Fin 36, dg a ≠ 44 ∧ dg a ≠ 45 := by decide +kernel
  exact key ⟨a, ha⟩

theorem enc36_mem (u : Nat) : ∀ b ∈ enc36 u, b ≠ 44 ∧ b ≠ 45 := by
  induction u using Nat.strongRecOn with
  | _ u ih =>
    intro b hb
    by_cases h : u < 36
    · rw [enc36_small h] at hb
      simp at hb
      subst hb
      exact dg_ne u h
    · rw [enc36_big (by omega)] at hb
      simp at hb
      rcases hb with hb | rfl
      · exact ih _ (by omega) b hb
      · exact dg_ne _ (by omega)

theorem enc36_ne (u : Nat) : enc36 u ≠ [] := by
  by_cases h : u < 36
  · rw [enc36_small h]; simp
  · rw [enc36_big (by omega)]; simp

theorem enc36_inj (u : Nat) : ∀ v, enc36 u = enc36 v → u = v := by
  induction u using Nat.strongRecOn with
  | _ u ih =>
    intro v he
    by_cases hu : u < 36 <;> by_cases hv : v < 36
    · rw [enc36_small hu, enc36_small hv] at he
      exact dg_inj hu hv (by simpa using he)
    · rw [enc36_small hu, enc36_big (by omega)] at he
      have := congrArg List.length he
      have h1 := enc36_ne (v / 36)
      simp at this
      exact absurd this h1
    · rw [enc36_small hv, enc36_big (by omega)] at he
      have := congrArg List.length he
      have h1 := enc36_ne (u / 36)
      simp at this
      exact absurd this h1
    · rw [enc36_big (by omega), enc36_big (u := v) (by omega)] at he
      have h2 := List.append_inj' he rfl
      have h3 := ih _ (by omega) _ h2.1
      have h4 := dg_inj (a := u % 36) (b := v % 36) (by omega) (by omega) (by simpa using h2.2)
      omega

theorem enc36_len (u : Nat) : ∀ k, u < 36 ^ (k + 1) → (enc36 u).length ≤ k + 1 := by
  induction u using Nat.strongRecOn with
  | _ u ih =>
    intro k hk
    by_cases h : u < 36
    · rw [enc36_small h]; simp
    · rw [enc36_big (by omega)]
      cases k with
      | zero => omega
      | succ k =>
        have := ih (u / 36) (by omega) k (by rw [Nat.pow_succ] at hk; omega)
        simp; omega

/-- the text of a number at base 36 -/
def encI (n : Int) : List UInt8 := if n < 0 then 45 :: enc36 n.natAbs else enc36 n.toNat

theorem encI_mem (n : Int) : ∀ b ∈ encI n, b ≠ 44 := by
  intro b hb
  unfold encI at hb
  split at hb
  · simp at hb
    rcases hb with rfl | hb
    · decide
    · exact (enc36_mem _ b hb).1
  · exact (enc36_mem _ b hb).1

theorem encI_inj {a b : Int} (h : encI a = encI b) : a = b := by
  unfold encI at h
  split at h <;> split at h
  · have := enc36_inj _ _ (List.cons.inj h).2
    omega
  · exact absurd rfl (enc36_mem b.toNat 45 (by rw [← h]; simp)).2
  · exact absurd rfl (enc36_mem a.toNat 45 (by rw [h]; simp)).2
  · have := enc36_inj _ _ h
    omega

theorem encI_len {n : Int} (h1 : -9223372036854775808 ≤ n) (h2 : n ≤ 9223372036854775807) : (encI n).length ≤ 14 := by
  unfold encI
  split
  · have := enc36_len n.natAbs 12 (by have : (36 : Nat) ^ (12 + 1) = 170581728179578208256 := by decide
                                      omega)
    simp; omega
  · have := enc36_len n.toNat 12 (by have : (36 : Nat) ^ (12 + 1) = 170581728179578208256 := by decide
                                     omega)
    omega

/-- the key of a slice of numbers -/
def keyL : List Int → List UInt8
  | [] => []
  | n :: r => encI n ++ 44 :: keyL r

theorem cut44 : ∀ {a b c d : List UInt8}, (∀ x ∈ a, x ≠ 44) → (∀ x ∈ c, x ≠ 44) → a ++ 44 :: b = c ++ 44 :: d → a = c ∧ b = d
  | [], b, [], d, _, _, h => ⟨rfl, by simpa using h⟩
  | [], b, y :: c, d, _, hc, h => by simp at h; exact absurd h.1.symm (hc y (by simp))
  | x :: a, b, [], d, ha, _, h => by simp at h; exact absurd h.1 (ha x (by simp))
  | x :: a, b, y :: c, d, ha, hc, h => by
    simp at h
    obtain ⟨rfl, h⟩ := h
    have := cut44 (fun z hz => ha z (by simp [hz])) (fun z hz => hc z (by simp [hz])) h
    exact ⟨by rw [this.1], this.2⟩

theorem keyL_inj : ∀ {a b : List Int}, keyL a = keyL b → a = b
  | [], [], _ => rfl
  | [], n :: r, h => by simp [keyL] at h
  | n :: r, [], h => by simp [keyL] at h
  | n :: r, m :: s, h => by
    simp only [keyL] at h
    have h1 := cut44 (encI_mem n) (encI_mem m) h
    rw [encI_inj h1.1, keyL_inj h1.2]

theorem keyL_app (a : List Int) (n : Int) : keyL (a ++ [n]) = keyL a ++ (encI n ++ [44]) := by
  induction a with
  | nil => simp [keyL]
  | cons x r ih => simp [keyL, ih]

theorem keyL_len (a : List Int) (h : ∀ n ∈ a, -9223372036854775808 ≤ n ∧ n ≤ 9223372036854775807) : (keyL a).length ≤ 15 * a.length := by
  induction a with
  | nil => simp [keyL]
  | cons x r ih =>
    have h1 := ih (fun n hn => h n (by simp [hn]))
    have h2 := encI_len (h x (by simp)).1 (h x (by simp)).2
    simp [keyL]; omega
end Go.Proofs.YtffnkjlobflhcaaDoor
