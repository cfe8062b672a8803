/- Writing to a cell what it holds changes nothing. -/
import Derived.Test.YtkhbpebpljdifaaDoorOne
namespace Go.Proofs.YtkhbpebpljdifaaDoor
open Go.RowKit Go.PL Go.Maps
theorem set_zero {w : World} {b : Nat} {cs : Array Value} {t : TypeId} {z : Nat × Nat} (h : w.heap[b]? = some (.cells cs t z)) (i : Nat) (v : Value) (hv : cs[i]? = some v) : w.setCell ⟨b, i, none⟩ v = w := by
  have hc : cs.setIfInBounds i v = cs := by
    apply Array.ext_getElem?
    intro j
    rw [Array.getElem?_setIfInBounds]
    split
    · rename_i hij
      subst hij
      rw [hv]
      split
      · rfl
      · rename_i hn
        exact absurd (Array.getElem?_eq_some_iff.1 hv).1 hn
    · rfl
  have hh : (w.setCell ⟨b, i, none⟩ v).heap = w.heap := by
    apply Array.ext_getElem?
    intro j
    simp only [World.setCell]
    rw [Array.getElem?_modify]
    split
    · rename_i hj
      subst hj
      rw [h]
      simp [hc]
    · rfl
  simp only [World.setCell] at hh ⊢
  rw [hh]
end Go.Proofs.YtkhbpebpljdifaaDoor
