/- Opening slices of integers, and slices of them, with their capacities. -/
import Derived.Test.YtffnkjlobflhcaaDoorArgs
namespace Go.Proofs.YtffnkjlobflhcaaDoor
open Go.ChangeShapes Go.WideShapes Go.ChangeAt Go.RowKit Go.PL Go.Deep
set_option maxRecDepth 100000
/-- an argument: a slice of numbers -/
def ArgI (w : World) (v : Value) (ns : List Int) : Prop := ∃ a c, v = .slice a ns.length c ∧ SlC w (.slice a ns.length c) (ns.map iv) ∧ ns.length ≤ maxLen ∧ ns.length ≤ c ∧ c ≤ maxLen ∧ ∀ n ∈ ns, I64 n
section
variable {H : Type} {enc : TypeId × Value → H} {W : World}

theorem cap_of {t e : TypeId} {a : Option Addr} {n c m : Nat} {y : DataW H × List MemPlace} (ht : Tryd.prog.underlying t = some (.slice e)) (hc : Tryd.prog.cellsOf e = 1) (h : DataW.trod enc Tryd.prog W 0 (fun _ => true) true m t [.slice a n c] = some y) :
    n ≤ c ∧ c ≤ maxLen := by
  rcases open_slice1 ht hc h with ⟨hcs, _⟩ | ⟨ad, len, cap, m, n', V, D, Pl, hcs, _, hl, hm, _⟩
  · simp at hcs
    omega
  · simp at hcs
    obtain ⟨rfl, rfl, rfl⟩ := hcs
    exact ⟨by omega, by omega⟩
theorem argI_of {v : Value} {m : Nat} {y : DataW H × List MemPlace} (h : DataW.trod enc Tryd.prog W 0 (fun _ => true) true m 30 [v] = some y) : ∃ ns, ArgI W v ns := by
  obtain ⟨va, vc, ns, rfl, h2, h3, h4⟩ := ints_of h
  obtain ⟨h5, h6⟩ := cap_of Tryd.underlying30 (by kernel_rfl) h
  exact ⟨ns, va, vc, rfl, h2, h3, h5, h6, h4⟩
theorem open_argI {v : Value} {d : DataW H} {ps : List MemPlace} {r : Reach} {b0 : Nat} (hv : Value.okWide Tryd.prog W r b0 30 v) (h : DataW.Trod enc Tryd.prog W 0 (fun _ => true) true 30 v d ps) : ∃ ns, ArgI W v ns := by
  obtain ⟨a, n, c, rfl⟩ := okWide_slice Tryd.underlying30 hv
  obtain ⟨m, hf⟩ := h
  simp only [Value.cells, List.toList_toArray] at hf
  exact argI_of (v := .slice a n c) hf
theorem open_argIs {v : Value} {d : DataW H} {ps : List MemPlace} {r : Reach} {b0 : Nat} (hv : Value.okWide Tryd.prog W r b0 56 v) (h : DataW.Trod enc Tryd.prog W 0 (fun _ => true) true 56 v d ps) :
    ∃ va vc, ∃ xs : List Value, v = .slice va xs.length vc ∧ SlC W (.slice va xs.length vc) xs ∧ xs.length ≤ maxLen ∧ ∀ x ∈ xs, ∃ ns, ArgI W x ns := by
  obtain ⟨a, n, c, rfl⟩ := okWide_slice Tryd.underlying56 hv
  obtain ⟨m, hf⟩ := h
  simp only [Value.cells, List.toList_toArray] at hf
  obtain ⟨va, vc, xs, h1, h2, h3, h4⟩ := slc_of (v := .slice a n c) Tryd.underlying56 (by kernel_rfl) hf
  exact ⟨va, vc, xs, h1, h2, h3, fun x hx => by
    obtain ⟨n, y, h⟩ := h4 x hx
    exact argI_of h⟩
end
end Go.Proofs.YtffnkjlobflhcaaDoor
