/- Opening the arguments: slices of strings, of integers, of slices of integers. -/
import Derived.Test.YtffnkjlobflhcaaDoorOpen
namespace Go.Proofs.YtffnkjlobflhcaaDoor
open Go.ChangeShapes Go.WideShapes Go.ChangeAt Go.RowKit Go.PL Go.Deep
set_option maxRecDepth 100000
section
variable {H : Type} {enc : TypeId × Value → H} {W : World}

theorem slc_of {t e : TypeId} {v : Value} {m : Nat} {y : DataW H × List MemPlace} (ht : Tryd.prog.underlying t = some (.slice e)) (hc : Tryd.prog.cellsOf e = 1) (h : DataW.trod enc Tryd.prog W 0 (fun _ => true) true m t [v] = some y) :
    ∃ va vc xs, v = .slice va xs.length vc ∧ SlC W (.slice va xs.length vc) xs ∧ xs.length ≤ maxLen ∧ ∀ x ∈ xs, ∃ n y, DataW.trod enc Tryd.prog W 0 (fun _ => true) true n e [x] = some y := by
  have hv : ∃ a n c, v = .slice a n c := by
    rcases open_slice1 ht hc h with ⟨hcs, _⟩ | ⟨ad, len, cap, m, n', V, D, Pl, hcs, _⟩
    · simp at hcs; exact ⟨_, _, _, hcs⟩
    · simp at hcs; exact ⟨_, _, _, hcs⟩
  obtain ⟨a, n, c, rfl⟩ := hv
  obtain ⟨va, vc, xs, h1, h2, h3, h4⟩ := open_slc (d := y.1) (ps := y.2) (v := .slice a n c) ht hc ⟨a, n, c, rfl⟩ ⟨m, by simpa [Value.cells] using h⟩
  exact ⟨va, vc, xs, h1, h2, h3, fun x hx => by obtain ⟨n, y, h, _⟩ := h4 x hx; exact ⟨n, y, h⟩⟩

def getS : Value → ByteArray
  | .string s => s
  | _ => ⟨#[]⟩
def getI : Value → Int
  | .int _ n => n
  | _ => 0
theorem map_back {α : Type} {f : α → Value} {g : Value → α} : ∀ {xs : List Value}, (∀ x ∈ xs, x = f (g x)) → xs = (xs.map g).map f
  | [], _ => rfl
  | x :: xs, h => by
    simp only [List.map_cons]
    rw [← h x (by simp), ← map_back (fun y hy => h y (by simp [hy]))]

theorem open_strs {v : Value} {d : DataW H} {ps : List MemPlace} {r : Reach} {b0 : Nat} (hv : Value.okWide Tryd.prog W r b0 35 v) (h : DataW.Trod enc Tryd.prog W 0 (fun _ => true) true 35 v d ps) :
    ∃ va vc, ∃ ks : List ByteArray, v = .slice va ks.length vc ∧ SlC W (.slice va ks.length vc) (ks.map .string) ∧ ks.length ≤ maxLen ∧ ∀ k ∈ ks, k.size ≤ maxLen := by
  obtain ⟨a, n, c, rfl⟩ := okWide_slice Tryd.underlying35 hv
  obtain ⟨m, hf⟩ := h
  simp only [Value.cells, List.toList_toArray] at hf
  obtain ⟨va, vc, xs, h1, h2, h3, h4⟩ := slc_of (v := .slice a n c) Tryd.underlying35 (by kernel_rfl) hf
  have each : ∀ x ∈ xs, x = .string (getS x) ∧ (getS x).size ≤ maxLen := fun x hx => by
    obtain ⟨n, y, h⟩ := h4 x hx
    obtain ⟨s, hs, _, hl⟩ := DataW.trod_string Tryd.underlying9 h
    simp at hs
    subst hs
    exact ⟨rfl, hl⟩
  have hm := map_back (f := .string) (g := getS) (fun x hx => (each x hx).1)
  refine ⟨va, vc, xs.map getS, by simpa using h1, ?_, by simpa using h3, ?_⟩
  · rw [← hm]; simpa using h2
  · intro k hk
    obtain ⟨x, hx, rfl⟩ := List.mem_map.1 hk
    exact (each x hx).2

theorem wf_i64 {z : Int} (h : (Lit.int IntKind.i64 z).wf = true) : I64 z := by
  simpa [Lit.wf, IntKind.min, IntKind.max, I64, IntKind.signed, IntKind.bits] using h

theorem ints_of {v : Value} {m : Nat} {y : DataW H × List MemPlace} (h : DataW.trod enc Tryd.prog W 0 (fun _ => true) true m 30 [v] = some y) :
    ∃ va vc, ∃ ns : List Int, v = .slice va ns.length vc ∧ SlC W (.slice va ns.length vc) (ns.map iv) ∧ ns.length ≤ maxLen ∧ ∀ n ∈ ns, I64 n := by
  obtain ⟨va, vc, xs, h1, h2, h3, h4⟩ := slc_of Tryd.underlying30 (by kernel_rfl) h
  have each : ∀ x ∈ xs, x = iv (getI x) ∧ I64 (getI x) := fun x hx => by
    obtain ⟨n, y, h⟩ := h4 x hx
    obtain ⟨s, hs, _, hl⟩ := DataW.trod_int Tryd.underlying3 h
    simp at hs
    subst hs
    exact ⟨rfl, wf_i64 hl⟩
  have hm := map_back (f := iv) (g := getI) (fun x hx => (each x hx).1)
  refine ⟨va, vc, xs.map getI, by simpa using h1, ?_, by simpa using h3, ?_⟩
  · rw [← hm]; simpa using h2
  · intro k hk
    obtain ⟨x, hx, rfl⟩ := List.mem_map.1 hk
    exact (each x hx).2

theorem open_ints30 {v : Value} {d : DataW H} {ps : List MemPlace} {r : Reach} {b0 : Nat} (hv : Value.okWide Tryd.prog W r b0 30 v) (h : DataW.Trod enc Tryd.prog W 0 (fun _ => true) true 30 v d ps) :
    ∃ va vc, ∃ ns : List Int, v = .slice va ns.length vc ∧ SlC W (.slice va ns.length vc) (ns.map iv) ∧ ns.length ≤ maxLen ∧ ∀ n ∈ ns, I64 n := by
  obtain ⟨a, n, c, rfl⟩ := okWide_slice Tryd.underlying30 hv
  obtain ⟨m, hf⟩ := h
  simp only [Value.cells, List.toList_toArray] at hf
  exact ints_of (v := .slice a n c) hf

/-- a slice of slices of integers -/
theorem open_lists {v : Value} {d : DataW H} {ps : List MemPlace} {r : Reach} {b0 : Nat} (hv : Value.okWide Tryd.prog W r b0 56 v) (h : DataW.Trod enc Tryd.prog W 0 (fun _ => true) true 56 v d ps) :
    ∃ va vc, ∃ xs : List Value, v = .slice va xs.length vc ∧ SlC W (.slice va xs.length vc) xs ∧ xs.length ≤ maxLen ∧
      ∀ x ∈ xs, ∃ a c, ∃ ns : List Int, x = .slice a ns.length c ∧ SlC W (.slice a ns.length c) (ns.map iv) ∧ ns.length ≤ maxLen ∧ ∀ n ∈ ns, I64 n := by
  obtain ⟨a, n, c, rfl⟩ := okWide_slice Tryd.underlying56 hv
  obtain ⟨m, hf⟩ := h
  simp only [Value.cells, List.toList_toArray] at hf
  obtain ⟨va, vc, xs, h1, h2, h3, h4⟩ := slc_of (v := .slice a n c) Tryd.underlying56 (by kernel_rfl) hf
  exact ⟨va, vc, xs, h1, h2, h3, fun x hx => by
    obtain ⟨n, y, h⟩ := h4 x hx
    exact ints_of h⟩
end
end Go.Proofs.YtffnkjlobflhcaaDoor
