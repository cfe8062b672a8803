/- Tokenize in the two cases; what the laws' walks share. -/
import Derived.Test.YtkhbpebpljdifaaDoorLc
namespace Go.Proofs.YtkhbpebpljdifaaDoor
open Go.RowKit Go.PL Go.Maps

theorem tok_ok {s : List UInt8} {ts : List Tok} (h : lexT s = .ok ts) (hl : s.length ≤ 281474976710656) (u : World) (he : Env u) : Calls Tryd.prog 13 #[.string ⟨s.toArray⟩] u fun e w' => ∃ v, e = .returned (.tuple #[v, .agg #[.int .i64 0, .int .i64 0], .int .i64 0]) ∧ Toks w' v ts ∧ Upto [] u w' :=
  (tokenize_calls s u he hl).mono fun e w' hr => by
    obtain ⟨hr, hu⟩ := hr
    rcases hr with ⟨ts', v, hl', rfl, hT⟩ | ⟨l, c, n, hl', _⟩
    · rw [h] at hl'
      cases hl'
      exact ⟨v, rfl, hT, hu⟩
    · rw [h] at hl'
      cases hl'
theorem tok_err {s : List UInt8} {l c n : Nat} (h : lexT s = .error (l, c, n)) (hl : s.length ≤ 281474976710656) (li ci ni : Int) (h1 : li = l) (h2 : ci = c) (h3 : ni = n) (u : World) (he : Env u) : Calls Tryd.prog 13 #[.string ⟨s.toArray⟩] u fun e w' => e = .returned (.tuple #[.slice none 0 0, .agg #[.int .i64 li, .int .i64 ci], .int .i64 ni]) ∧ Upto [] u w' :=
  (tokenize_calls s u he hl).mono fun e w' hr => by
    obtain ⟨hr, hu⟩ := hr
    subst h1 h2 h3
    rcases hr with ⟨ts', v, hl', rfl, hT⟩ | ⟨l, c, n, hl', _, rfl⟩
    · rw [h] at hl'
      cases hl'
    · rw [h] at hl'
      cases hl'
      exact ⟨rfl, hu⟩
/-- an error is a range or a format -/
theorem classify_err {r : List UInt8} {n : Nat} (h : classify r = .error n) : n = 2 ∨ n = 3 := by
  cases r with
  | nil => cases h; simp
  | cons b t =>
    simp only [classify] at h
    split at h
    · split at h
      · cases h; simp
      · split at h
        · cases h; simp
        · cases h
    · split at h
      · cases h; simp
      · split at h
        · cases h
        · split at h
          · cases h; simp
          · cases h
theorem lexT_err {s : List UInt8} {l c n : Nat} (h : lexT s = .error (l, c, n)) : n = 2 ∨ n = 3 := by
  unfold lexT at h
  split at h
  · cases h; simp
  · refine lex_ind (M := fun s l c R => ∀ l' c' n', R = .error (l', c', n') → n' = 2 ∨ n' = 3) ?_ ?_ ?_ ?_ ?_ ?_ ?_ s.length s (Nat.le_refl _) 1 1 l c n h
    · intro l c l' c' n' h; cases h
    · intro b s l c _ _ ih; exact ih
    · intro b s l c _ _ ih; exact ih
    · intro b s l c _ ih l' c' n' h
      cases hR : lexS s l (c + 1) with
      | error e =>
        rw [hR] at h ih
        cases h
        exact ih _ _ _ rfl
      | ok ts => rw [hR] at h; cases h
    · intro r s l c k v _ _ _ _ ih l' c' n' h
      cases hR : lexS s l (c + r.length) with
      | error e =>
        rw [hR] at h ih
        cases h
        exact ih _ _ _ rfl
      | ok ts => rw [hR] at h; cases h
    · intro r s l c e _ _ _ hc l' c' n' h
      cases h
      exact classify_err hc
    · intro b s l c _ _ _ l' c' n' h
      cases h
      simp
theorem lexT_short {s : List UInt8} {ts : List Tok} (h : lexT s = .ok ts) : ts.length ≤ s.length + 1 := by
  have := outT_len s
  rw [h] at this
  exact this
end Go.Proofs.YtkhbpebpljdifaaDoor
