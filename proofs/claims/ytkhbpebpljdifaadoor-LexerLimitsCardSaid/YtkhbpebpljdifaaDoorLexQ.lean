/- Laws of the lexer as a function: numerals, places, two sources, the first token. No program is named. -/
import Derived.Test.YtkhbpebpljdifaaDoorLexP
namespace Go.PL

theorem lxNum_fold (s : List UInt8) : ∀ n : Nat, s.foldl (fun n b => 10 * n + (b.toNat - 48)) n = n * 10 ^ s.length + lxNum s := by
  induction s with
  | nil => intro n; simp [lxNum]
  | cons b s ih =>
    intro n
    have h1 := ih (10 * n + (b.toNat - 48))
    have h2 := ih (10 * 0 + (b.toNat - 48))
    rw [List.foldl_cons, h1]
    show _ = n * 10 ^ (s.length + 1) + s.foldl (fun n b => 10 * n + (b.toNat - 48)) (10 * 0 + (b.toNat - 48))
    rw [h2, Nat.pow_succ, Nat.add_mul, Nat.mul_zero, Nat.zero_add, Nat.add_assoc]
    congr 1
    rw [Nat.mul_comm 10 n, Nat.mul_assoc, Nat.mul_comm 10]
theorem lxNum_cons (b : UInt8) (s : List UInt8) : lxNum (b :: s) = (b.toNat - 48) * 10 ^ s.length + lxNum s := by
  show s.foldl (fun n b => 10 * n + (b.toNat - 48)) (10 * 0 + (b.toNat - 48)) = _
  rw [lxNum_fold]
  simp

/-- s holds the last digits of k, m the number that the others spell -/
structure NumI (k : Nat) (s : List UInt8) (m : Nat) : Prop where
  dig : ∀ x ∈ s, lxDigit x = true
  val : lxNum s + m * 10 ^ s.length = k
  lead : m = 0 → s ≠ [] → s.length = 1 ∨ ∃ x t, s = x :: t ∧ x.toNat ≠ 48
  few : s.length ≤ 1 ∨ 10 ^ (s.length - 1) ≤ k
theorem NumI.start (k : Nat) : NumI k [] k := ⟨by simp, by simp [lxNum], fun _ h => absurd rfl h, Or.inl (by simp)⟩
theorem digit_nat (m : Nat) : (UInt8.ofNat (48 + m % 10)).toNat = 48 + m % 10 := by
  rw [UInt8.toNat_ofNat']
  omega
theorem NumI.step {k m : Nat} {s : List UInt8} (h : NumI k s m) (hs : s = [] ∨ 0 < m) : NumI k (UInt8.ofNat (48 + m % 10) :: s) (m / 10) := by
  have hd := digit_nat m
  generalize UInt8.ofNat (48 + m % 10) = d at *
  have hv := h.val
  refine ⟨?_, ?_, ?_, ?_⟩
  · intro x hx
    rcases List.mem_cons.1 hx with rfl | hx
    · simp [lxDigit, hd]; omega
    · exact h.dig x hx
  · rw [lxNum_cons, hd, List.length_cons, Nat.pow_succ, ← hv]
    have h1 : m = 10 * (m / 10) + m % 10 := (Nat.div_add_mod m 10).symm
    generalize m / 10 = q at *
    generalize m % 10 = r at *
    subst h1
    rw [show 48 + r - 48 = r by omega, Nat.add_mul, show q * (10 ^ s.length * 10) = 10 * q * 10 ^ s.length by rw [Nat.mul_comm (10 ^ s.length) 10, ← Nat.mul_assoc, Nat.mul_comm q 10]]
    omega
  · intro h0 _
    rcases hs with rfl | hm
    · exact Or.inl rfl
    · refine Or.inr ⟨d, s, rfl, ?_⟩
      rw [hd]
      omega
  · rcases hs with rfl | hm
    · exact Or.inl (by simp)
    · refine Or.inr ?_
      rw [List.length_cons, Nat.add_sub_cancel, ← hv]
      have : 1 * 10 ^ s.length ≤ m * 10 ^ s.length := Nat.mul_le_mul_right _ hm
      omega
theorem NumI.short {k m : Nat} {s : List UInt8} (h : NumI k s m) (hk : k ≤ 2147483647) : s.length ≤ 10 := by
  rcases h.few with h | h
  · omega
  · refine Nat.le_of_not_lt fun hlt => ?_
    have h1 : 10 ^ 10 ≤ 10 ^ (s.length - 1) := Nat.pow_le_pow_right (by omega) (by omega)
    have : (10 : Nat) ^ 10 = 10000000000 := by decide
    omega

theorem digit_inner {x : UInt8} (h : lxDigit x = true) : lxInner x = true := by simp [lxInner, h]

theorem NumI.real {k : Nat} {s : List UInt8} (h : NumI k s 0) (hs : s ≠ []) (hk : k ≤ 2147483647) : Real 2 s k := by
  refine Or.inr ⟨hs, fun x hx => digit_inner (h.dig x hx), ?_⟩
  have hv : lxNum s = k := by simpa using h.val
  have hl := h.lead rfl hs
  cases s with
  | nil => exact absurd rfl hs
  | cons b t =>
    have hb := h.dig b (by simp)
    have ha : (b :: t).all lxDigit = true := List.all_eq_true.2 h.dig
    have h48 : (decide (t ≠ []) && decide (b.toNat = 48)) = false := by
      rcases hl with hl | ⟨x, t', he, hx⟩
      · have : t = [] := by simpa using hl
        simp [this]
      · cases he
        simp [hx]
    simp only [classify, hb, ha, h48, hv, if_true, Bool.not_true, Bool.or_self, Bool.false_eq_true, if_false]
    rw [if_neg (by omega)]

theorem lexT_num {k : Nat} {s : List UInt8} (h : NumI k s 0) (hs : s ≠ []) (hk : k ≤ 2147483647) : lexT s = .ok [⟨2, s, k, 1, 1⟩, ⟨0, [], 0, 1, 1 + s.length⟩] := by
  have := h.short hk
  have h1 := lexS_tok (h.real hs hk) Starts.nil 1 1
  rw [List.append_nil, lexS_nil] at h1
  rw [lexT, if_neg (by omega), h1]
  rfl
theorem lexT_zero {k : Nat} {s : List UInt8} (h : NumI k s 0) (hs : s ≠ []) (hk : k ≤ 2147483647) : lexT (48 :: s) = .error (1, 1, 3) := by
  have := h.short hk
  have h1 : lxDigit 48 = true := by decide
  have h2 := lexS_runs (r := 48 :: s) (by simp) (fun x hx => by
    rcases List.mem_cons.1 hx with rfl | hx
    · decide
    · exact digit_inner (h.dig x hx)) Starts.nil 1 1
  rw [List.append_nil] at h2
  have h3 : classify (48 :: s) = .error 3 := by
    simp [classify, h1, hs]
  rw [lexT, if_neg (by simp; omega), h2, h3]
theorem lexT_x {k : Nat} {s : List UInt8} (h : NumI k s 0) (hs : s ≠ []) (hk : k ≤ 2147483647) : lexT (s ++ [120]) = .error (1, 1, 3) := by
  have := h.short hk
  have h2 := lexS_runs (r := s ++ [120]) (by simp) (fun x hx => by
    rcases List.mem_append.1 hx with hx | hx
    · exact digit_inner (h.dig x hx)
    · have : x = 120 := by simpa using hx
      subst this; decide) Starts.nil 1 1
  rw [List.append_nil] at h2
  have h3 : classify (s ++ [120]) = .error 3 := by
    cases s with
    | nil => exact absurd rfl hs
    | cons b t =>
      have hb := h.dig b (by simp)
      have hx : lxDigit 120 = false := by decide
      simp [classify, hb, hx]
  rw [lexT, if_neg (by simp; omega), h2, h3]

/-- the first token of a text that begins with no white space -/
theorem lexS_head {s : List UInt8} {l c : Nat} {ts : List Tok} (hb : ∀ x t, s = x :: t → lxBlank x = false) (h : lexS s l c = .ok ts) :
    ∃ u us q, ts = u :: us ∧ u.line = l ∧ u.col = c ∧ s = u.text ++ q ∧ ((us = [] ∧ q = [] ∧ u.kind = 0) ∨ (us ≠ [] ∧ lexS q l (c + u.text.length) = .ok us)) := by
  have ne : ∀ q l c (us : List Tok), lexS q l c = .ok us → us ≠ [] := by
    intro q l c us h0 h1
    obtain ⟨ts', l', c', h2, _⟩ := lexS_real q l c us h0
    rw [h1] at h2
    simp at h2
  have key : ∀ (R : Except (Nat × Nat × Nat) (List Tok)) (t : Tok) (q : List UInt8), R.map (fun ts => t :: ts) = .ok ts → R = lexS q l (c + t.text.length) → t.line = l → t.col = c → s = t.text ++ q →
      ∃ u us q, ts = u :: us ∧ u.line = l ∧ u.col = c ∧ s = u.text ++ q ∧ ((us = [] ∧ q = [] ∧ u.kind = 0) ∨ (us ≠ [] ∧ lexS q l (c + u.text.length) = .ok us)) := by
    intro R t q hR hq h1 h2 h3
    cases R with
    | error e => cases hR
    | ok us =>
      cases hR
      exact ⟨t, us, q, rfl, h1, h2, h3, Or.inr ⟨ne _ _ _ us hq.symm, hq.symm⟩⟩
  cases s with
  | nil =>
    rw [lexS_nil] at h
    cases h
    exact ⟨_, [], [], rfl, rfl, rfl, rfl, Or.inl ⟨rfl, rfl, rfl⟩⟩
  | cons x t =>
    have hx := hb x t rfl
    cases hm : lxMark x with
    | true =>
      rw [lexS_mark hx hm] at h
      exact key _ ⟨4, [x], 0, l, c⟩ t h rfl rfl rfl rfl
    | false =>
      cases hi : lxInner x with
      | false => rw [lexS_bad hx hm hi] at h; cases h
      | true =>
        obtain ⟨r, q, e, hn, hr, hq, _⟩ := lex_split (x :: t) ⟨x, t, rfl, hi⟩
        rw [e, lexS_runs hn hr hq] at h
        cases hc : classify r with
        | error y => rw [hc] at h; cases h
        | ok kv =>
          obtain ⟨k, v⟩ := kv
          rw [hc] at h
          exact key _ ⟨k, r, v, l, c⟩ q h rfl rfl rfl e

/-- two sources, a line feed between them -/
theorem lexT_cat {a b : List UInt8} (ha : a.length ≤ 3000) (hb : b.length ≤ 3000) : (∀ e, lexT a = .error e → lexT (a ++ 10 :: b) = .error e) ∧
    ∀ x, lexT a = .ok x → ∃ x' l' c', x = x' ++ [⟨0, [], 0, l', c'⟩] ∧ (∀ l c e, lexT b = .error (l, c, e) → lexT (a ++ 10 :: b) = .error (l + l', c, e)) ∧ ∀ y, lexT b = .ok y → lexT (a ++ 10 :: b) = .ok (x' ++ y.map (shiftT l')) := by
  have h1 : lexT (a ++ 10 :: b) = lexS (a ++ 10 :: b) 1 1 := by rw [lexT, if_neg (by simp; omega)]
  have h2 : lexT a = lexS a 1 1 := by rw [lexT, if_neg (by omega)]
  have h3 : lexT b = lexS b 1 1 := by rw [lexT, if_neg (by omega)]
  rw [h1, h2, h3]
  obtain ⟨h4, h5⟩ := lexS_cat b a 1 1
  refine ⟨h4, fun x hx => ?_⟩
  obtain ⟨ts', l', c', e, h6⟩ := h5 x hx
  refine ⟨ts', l', c', e, ?_, ?_⟩
  · intro l c e he
    rw [h6, Nat.add_comm l' 1, lexS_shift, he]
    rfl
  · intro y hy
    rw [h6, Nat.add_comm l' 1, lexS_shift, hy]
    rfl
end Go.PL
