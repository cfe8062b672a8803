/- What the law 'lawful' asks of a semiring. -/
import Derived.Test.YtifellalnojomaaDoorSeg
import Derived.Test.YtifellalnojomaaDoorSum
namespace Go.Proofs.YtifellalnojomaaDoor
open Go.RowKit Go.PL Go.Maps

structure Ring (X : Type) (rv : Value) (f0 f1 fa fm fs : FuncId) (Rep : Nat → World → Value → X → Prop) (z o : X) (add mul : X → X → X) : Prop where
  stable : ∀ i v x w w', Rep i w v x → Upto [] w w' → Rep i w' v x
  stab2 : ∀ i v x w w' B, Rep i w v x → Upto [B] w w' → (∀ k n : Nat, w.cell? ⟨B, k, none⟩ ≠ some (uv n)) → Rep i w' v x
  hz : ∀ w, Calls Tryd.prog f0 #[rv] w fun e w' => ∃ v, e = .returned v ∧ Upto [] w w' ∧ Rep 1 w' v z
  ho : ∀ w, Calls Tryd.prog f1 #[rv] w fun e w' => ∃ v, e = .returned v ∧ Upto [] w w' ∧ Rep 1 w' v o
  ha : ∀ i j w a b x y, i + j ≤ 20 → Rep i w a x → Rep j w b y → Calls Tryd.prog fa #[rv, a, b] w fun e w' => ∃ v, e = .returned v ∧ Upto [] w w' ∧ Rep (i + j) w' v (add x y)
  hm : ∀ i j w a b x y, i + j ≤ 20 → Rep i w a x → Rep j w b y → Calls Tryd.prog fm #[rv, a, b] w fun e w' => ∃ v, e = .returned v ∧ Upto [] w w' ∧ Rep (i + j) w' v (mul x y)
  hs : ∀ i j w a b x y, i + j ≤ 20 → Rep i w a x → Rep j w b y → x = y → Calls Tryd.prog fs #[rv, a, b] w fun e w' => e = .returned (.bool true) ∧ Upto [] w w'
  hd : ∀ i j w a b x y (d : Bool), i + j ≤ 20 → Rep i w a x → Rep j w b y → (d = true ↔ x = y) → Calls Tryd.prog fs #[rv, a, b] w fun e w' => e = .returned (.bool d) ∧ Upto [] w w'
  addc : ∀ x y, add x y = add y x
  adda : ∀ x y t, add (add x y) t = add x (add y t)
  addz : ∀ x, add x z = x
  mulc : ∀ x y, mul x y = mul y x
  mula : ∀ x y t, mul (mul x y) t = mul x (mul y t)
  mulo : ∀ x, mul x o = x
  mulz : ∀ x, mul x z = z
  dist : ∀ x y t, mul x (add y t) = add (mul x y) (mul x t)
end Go.Proofs.YtifellalnojomaaDoor
