/- Regions that draw their order and whose operations only read, or call what only makes new memory: one walk. -/
import Derived.Test.YtkhbpebpljdifaaDoorLib
import Derived.Deep.QuietTactic
import Derived.BigQuiet
namespace Go.PL
open Go.RowKit

/-- the worlds in which all blocks of w read as in w -/
def Ext (w : World) : Type := { u : World // Upto [] w u }
instance (w : World) : Nonempty (Ext w) := ⟨⟨w, Upto.refl _ _⟩⟩
def Ext.w {v : World} (u : Ext v) : World := u.1
theorem Ext.up {v : World} (u : Ext v) : Upto [] v u.w := u.2
def Ext.mk {v u : World} (h : Upto [] v u) : Ext v := ⟨u, h⟩
theorem Ext.cell {w : World} (u : Ext w) {p : Addr} {x : Value} (h : w.cell? p = some x) : u.w.cell? p = some x := (u.up.cell (World.block_lt_of_cell? w p h) (by simp)).trans h

theorem wp_region_ext {P : Program} {id : Nat} {Q : Exit → Act → World → Prop} {a : Act} {w : World} {l : List Oper} (hm : P.follows .mixedOrders = true) (hB : Region.lexB .any l.toArray = true)
    (h : wpQuiet P l.toArray (fun w' => ∃ u : Ext w, w' = u.w) (fun a' => ∀ w', (∃ u : Ext w, w' = u.w) → Q .normal a' w') l a) : (Code.region id l.toArray true).wp P Q a w :=
  wp_region_quiet (C := fun w' => ∃ u : Ext w, w' = u.w) hm hB ⟨⟨_, (Upto.refl [] w).drew⟩, rfl⟩ (by simpa using h)

theorem calls_ext {P : Program} {f : FuncId} {args : Array Value} {w : World} {v : Value} (u : Ext w) (h : Calls P f args u.w fun e w' => e = .returned v ∧ Upto [] u.w w') :
    Calls P f args u.w fun e w'' => e = .returned v ∧ ∃ m : Ext w, w'' = m.w :=
  h.mono fun _ w' ⟨he, hu⟩ => ⟨he, ⟨w', u.up.trans_ext hu⟩, rfl⟩
theorem calls_ext_same {P : Program} {f : FuncId} {args : Array Value} {w : World} {v : Value} (u : Ext w) (h : Calls P f args u.w fun e w' => e = .returned v ∧ u.w = w') :
    Calls P f args u.w fun e w'' => e = .returned v ∧ ∃ m : Ext w, w'' = m.w :=
  h.mono fun _ w' ⟨he, hu⟩ => ⟨he, u, hu.symm⟩
end Go.PL
