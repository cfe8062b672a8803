/- The reference's Word: eight bytes for each integer. -/
import Derived.Test.YtffnkjlobflhcaaDoorLib
import Derived.Test.YtffnkjlobflhcaaDoorPool
import Derived.Deep.LoopGhost
namespace Go.Proofs.YtffnkjlobflhcaaDoor
open Go.RowKit Go.PL Go.Maps

/-- k bytes of a number, the least first -/
def leL : Nat → Nat → List UInt8
  | 0, _ => []
  | k + 1, n => UInt8.ofNat n :: leL k (n / 256)
def u64 (x : Int) : Nat := (IntKind.u64.wrap x).toNat
def wordL (xs : List Int) : List UInt8 := xs.flatMap fun x => leL 8 (u64 x)

theorem leL_length : ∀ (k n : Nat), (leL k n).length = k
  | 0, _ => rfl
  | k + 1, n => by simp [leL, leL_length k]
theorem leL_inj : ∀ (k : Nat) {a b : Nat}, a < 256 ^ k → b < 256 ^ k → leL k a = leL k b → a = b
  | 0, a, b, ha, hb, _ => by simp at ha hb; omega
  | k + 1, a, b, ha, hb, h => by
    simp only [leL, List.cons.injEq] at h
    have h1 := leL_inj k (a := a / 256) (b := b / 256) (by rw [Nat.pow_succ] at ha; omega) (by rw [Nat.pow_succ] at hb; omega) h.2
    have h2 : a % 256 = b % 256 := by
      have := congrArg UInt8.toNat h.1
      simpa using this
    omega
theorem u64_lt (x : Int) : u64 x < 256 ^ 8 := by
  unfold u64
  have : 0 ≤ IntKind.u64.wrap x ∧ IntKind.u64.wrap x < 18446744073709551616 := by simp [IntKind.wrap, IntKind.signed, IntKind.bits]; omega
  omega
theorem u64_inj {a b : Int} (ha : I64 a) (hb : I64 b) (h : u64 a = u64 b) : a = b := by
  unfold u64 at h
  have h1 : 0 ≤ IntKind.u64.wrap a := by simp [IntKind.wrap, IntKind.signed, IntKind.bits]; omega
  have h2 : 0 ≤ IntKind.u64.wrap b := by simp [IntKind.wrap, IntKind.signed, IntKind.bits]; omega
  have h3 : IntKind.u64.wrap a = IntKind.u64.wrap b := by omega
  unfold I64 at ha hb
  simp [IntKind.wrap, IntKind.signed, IntKind.bits] at h3
  omega
theorem wordL_inj : ∀ {xs ys : List Int}, (∀ x ∈ xs, I64 x) → (∀ y ∈ ys, I64 y) → wordL xs = wordL ys → xs = ys
  | [], [], _, _, _ => rfl
  | [], y :: ys, _, _, h => by
    have := congrArg List.length h
    simp [wordL, leL_length] at this
    omega
  | x :: xs, [], _, _, h => by
    have := congrArg List.length h
    simp [wordL, leL_length] at this
  | x :: xs, y :: ys, hx, hy, h => by
    have h' : leL 8 (u64 x) ++ wordL xs = leL 8 (u64 y) ++ wordL ys := h
    obtain ⟨h1, h2⟩ := List.append_inj h' (by rw [leL_length, leL_length])
    have := u64_inj (hx x (by simp)) (hy y (by simp)) (leL_inj 8 (u64_lt x) (u64_lt y) h1)
    subst this
    rw [wordL_inj (fun z hz => hx z (by simp [hz])) (fun z hz => hy z (by simp [hz])) h2]
theorem wordL_length (xs : List Int) : (wordL xs).length = 8 * xs.length := by
  induction xs with
  | nil => rfl
  | cons x xs ih => 
    have : wordL (x :: xs) = leL 8 (u64 x) ++ wordL xs := rfl
    rw [this, List.length_append, leL_length, ih, List.length_cons]
    omega
end Go.Proofs.YtffnkjlobflhcaaDoor
