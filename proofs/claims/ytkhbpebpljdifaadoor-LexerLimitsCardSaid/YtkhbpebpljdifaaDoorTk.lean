/- Slices of tokens in memory. No program is named. -/
import Derived.Test.YtkhbpebpljdifaaDoorLib
import Derived.Test.YtkhbpebpljdifaaDoorLexQ
namespace Go.PL
open Go.RowKit

/-- a string of these bytes -/
def bs (l : List UInt8) : ByteArray := ⟨l.toArray⟩
theorem bs_data (s : ByteArray) : bs s.data.toList = s := rfl

/-- the cells of a token -/
def tkC (t : Tok) : List Value := [.int .i64 t.kind, .string (bs t.text), .int .i64 t.val, .int .i64 t.line, .int .i64 t.col]

/-- a slice of n elements, z cells each, that is only read -/
def SlN (w : World) (z : Nat) (v : Value) (n : Nat) (xs : List Value) : Prop :=
  xs.length = n * z ∧ ((n = 0 ∧ ∃ a c, v = .slice a 0 c) ∨ ∃ g o c, v = .slice (some ⟨g, o, none⟩) n c ∧ ∀ j u, xs[j]? = some u → w.cell? ⟨g, o + j, none⟩ = some u)

theorem SlN.len {w : World} {z : Nat} {v : Value} {n : Nat} {xs : List Value} (h : SlN w z v n xs) : ∃ a c, v = .slice a n c := by
  rcases h.2 with ⟨rfl, a, c, rfl⟩ | ⟨g, o, c, rfl, _⟩
  · exact ⟨a, c, rfl⟩
  · exact ⟨_, c, rfl⟩
theorem SlN.of_row {w : World} {B : Nat} {e : TypeId} {z : Nat} {v : Value} {n : Nat} {xs : List Value} (h : w.ownsRow B e z v n xs) : SlN w z v n xs := by
  refine ⟨h.1, ?_⟩
  rcases h.2 with ⟨rfl, rfl⟩ | ⟨g, cap, cur, rfl, _, hh, _, _, _, ht⟩
  · exact Or.inl ⟨rfl, none, 0, rfl⟩
  · refine Or.inr ⟨g, 0, cap, rfl, fun j u hj => ?_⟩
    rw [cell_of hh, Nat.zero_add]
    rw [← ht, List.getElem?_take] at hj
    split at hj
    · simpa using hj
    · cases hj
theorem SlN.upto {S : List Nat} {w w' : World} {z : Nat} {v : Value} {n : Nat} {xs : List Value} (h : SlN w z v n xs) (hu : Upto S w w') (hs : ∀ g o n c, v = .slice (some ⟨g, o, none⟩) n c → g ∉ S) : SlN w' z v n xs := by
  refine ⟨h.1, ?_⟩
  rcases h.2 with h | ⟨g, o, c, rfl, hc⟩
  · exact Or.inl h
  · refine Or.inr ⟨g, o, c, rfl, fun j u hj => ?_⟩
    have h1 := hc j u hj
    rw [← h1]
    exact hu.cell (World.block_lt_of_cell? w _ h1) (hs g o _ c rfl)
theorem SlN.ext {w w' : World} {z : Nat} {v : Value} {n : Nat} {xs : List Value} (h : SlN w z v n xs) (hu : Upto [] w w') : SlN w' z v n xs := h.upto hu (by simp)

theorem flatMap_at {α : Type} (f : α → List Value) (z : Nat) (hz : ∀ a, (f a).length = z) : ∀ (l : List α) (i j : Nat) (a : α), l[i]? = some a → j < z → (l.flatMap f)[i * z + j]? = (f a)[j]?
  | [], i, j, a, h, _ => by simp at h
  | b :: l, 0, j, a, h, hj => by
    simp at h
    subst h
    rw [List.flatMap_cons, Nat.zero_mul, Nat.zero_add, List.getElem?_append_left (by rw [hz]; exact hj)]
  | b :: l, i + 1, j, a, h, hj => by
    have := flatMap_at f z hz l i j a (by simpa using h) hj
    rw [List.flatMap_cons, List.getElem?_append_right (by rw [hz, Nat.add_mul]; omega), hz, ← this]
    congr 1
    rw [Nat.add_mul]
    omega
theorem flatMap_len {α : Type} (f : α → List Value) (z : Nat) (hz : ∀ a, (f a).length = z) (l : List α) : (l.flatMap f).length = l.length * z := by
  induction l with
  | nil => simp
  | cons a l ih => rw [List.flatMap_cons, List.length_append, ih, hz, List.length_cons, Nat.add_mul]; omega

/-- a slice of tokens -/
def Toks (w : World) (v : Value) (ts : List Tok) : Prop := SlN w 5 v ts.length (ts.flatMap tkC)
theorem Toks.len {w : World} {v : Value} {ts : List Tok} (h : Toks w v ts) : ∃ a c, v = .slice a ts.length c := SlN.len h
theorem Toks.ext {w w' : World} {v : Value} {ts : List Tok} (h : Toks w v ts) (hu : Upto [] w w') : Toks w' v ts := SlN.ext h hu
theorem Toks.upto {S : List Nat} {w w' : World} {v : Value} {ts : List Tok} (h : Toks w v ts) (hu : Upto S w w') (hs : ∀ g o n c, v = .slice (some ⟨g, o, none⟩) n c → g ∉ S) : Toks w' v ts := SlN.upto h hu hs
/-- where a slice of tokens lies -/
def TokAt (w : World) (g o : Nat) (ts : List Tok) : Prop := ∀ i t, ts[i]? = some t → w.cell? ⟨g, o + i * 5, none⟩ = some (.int .i64 t.kind) ∧ w.cell? ⟨g, o + i * 5 + 1, none⟩ = some (.string (bs t.text)) ∧ w.cell? ⟨g, o + i * 5 + 2, none⟩ = some (.int .i64 t.val) ∧ w.cell? ⟨g, o + i * 5 + 3, none⟩ = some (.int .i64 t.line) ∧ w.cell? ⟨g, o + i * 5 + 4, none⟩ = some (.int .i64 t.col)
theorem Toks.at {w : World} {v : Value} {ts : List Tok} (h : Toks w v ts) : (ts = [] ∧ ∃ a c, v = .slice a 0 c) ∨ ∃ g o c, v = .slice (some ⟨g, o, none⟩) ts.length c ∧ TokAt w g o ts := by
  rcases h.2 with ⟨h0, h1⟩ | ⟨g, o, c, h1, hc⟩
  · exact Or.inl ⟨List.eq_nil_of_length_eq_zero h0, h1⟩
  · refine Or.inr ⟨g, o, c, h1, fun i t ht => ?_⟩
    have key : ∀ j u, j < 5 → (tkC t)[j]? = some u → w.cell? ⟨g, o + (i * 5 + j), none⟩ = some u := fun j u hj hu => hc _ _ ((flatMap_at tkC 5 (fun _ => rfl) ts i j t ht hj).trans hu)
    exact ⟨key 0 _ (by decide) rfl, key 1 _ (by decide) rfl, key 2 _ (by decide) rfl, key 3 _ (by decide) rfl, key 4 _ (by decide) rfl⟩
theorem Toks.of_row {w : World} {B : Nat} {e : TypeId} {v : Value} {ts : List Tok} (h : w.ownsRow B e 5 v ts.length (ts.flatMap tkC)) : Toks w v ts := SlN.of_row h
theorem TokAt.ext {w w' : World} {g o : Nat} {ts : List Tok} (h : TokAt w g o ts) (hu : Upto [] w w') : TokAt w' g o ts := by
  intro i t ht
  obtain ⟨h0, h1, h2, h3, h4⟩ := h i t ht
  have k : ∀ {p : Addr} {u : Value}, w.cell? p = some u → w'.cell? p = some u := fun hp => (hu.cell (World.block_lt_of_cell? w _ hp) (by simp)).trans hp
  exact ⟨k h0, k h1, k h2, k h3, k h4⟩
theorem toks_snoc (ts : List Tok) (t : Tok) : (ts ++ [t]).flatMap tkC = ts.flatMap tkC ++ tkC t := by simp

/-- a new block of tokens -/
theorem toks_one_cell' {ts : List Tok} : ∀ u ∈ ts.flatMap tkC, u.oneCell' = true := by
  intro u hu
  obtain ⟨t, _, h⟩ := List.mem_flatMap.1 hu
  simp only [tkC, List.mem_cons, List.not_mem_nil, or_false] at h
  rcases h with rfl | rfl | rfl | rfl | rfl <;> rfl
end Go.PL
