/- Laws of the lexer as a function: shifted lines, two sources, one token, tokens read again. No program is named. -/
import Derived.Test.YtkhbpebpljdifaaDoorLexF
namespace Go.PL

/-- no run goes on at the head of s -/
def Starts (s : List UInt8) : Prop := ∀ x t, s = x :: t → lxInner x = false
theorem Starts.nil : Starts [] := fun x t h => by cases h
theorem Starts.cons {b : UInt8} (h : lxInner b = false) (s : List UInt8) : Starts (b :: s) := fun x t e => by cases e; exact h

theorem run_split {r s : List UInt8} (hr : ∀ x ∈ r, lxInner x = true) (hs : Starts s) : (r ++ s).takeWhile lxInner = r ∧ (r ++ s).dropWhile lxInner = s := by
  induction r with
  | nil =>
    cases s with
    | nil => exact ⟨rfl, rfl⟩
    | cons x t => simp [hs x t rfl]
  | cons b r ih =>
    have h1 := hr b (by simp)
    have h2 := ih (fun x hx => hr x (by simp [hx]))
    simp [h1, h2]

theorem lexS_runs {r s : List UInt8} (hn : r ≠ []) (hr : ∀ x ∈ r, lxInner x = true) (hs : Starts s) (l c : Nat) : lexS (r ++ s) l c =
    match classify r with
    | .error e => .error (l, c, e)
    | .ok (k, v) => (lexS s l (c + r.length)).map fun ts => ⟨k, r, v, l, c⟩ :: ts := by
  cases r with
  | nil => exact absurd rfl hn
  | cons b r =>
    have h1 := hr b (by simp)
    obtain ⟨h2, h3⟩ := run_split hr hs
    have h4 := inner_not h1
    have h5 := lexS_run h4.1 h4.2 h1 (r ++ s) l c
    rw [← List.cons_append, h2, h3] at h5
    exact h5

theorem lex_split (s : List UInt8) (h : ∃ b t, s = b :: t ∧ lxInner b = true) : ∃ r q, s = r ++ q ∧ r ≠ [] ∧ (∀ x ∈ r, lxInner x = true) ∧ Starts q ∧ q.length < s.length := by
  obtain ⟨b, t, rfl, hb⟩ := h
  refine ⟨(b :: t).takeWhile lxInner, (b :: t).dropWhile lxInner, (List.takeWhile_append_dropWhile).symm, by simp [hb], fun x hx => ?_, ?_, ?_⟩
  · have := List.all_takeWhile (p := lxInner) (l := b :: t)
    exact List.all_eq_true.1 this x hx
  · intro x q hq
    have h1 := List.head?_dropWhile_not (p := lxInner) (b :: t)
    rw [hq] at h1
    simpa using h1
  · have := dropWhile_le lxInner t
    simp [hb]
    omega

theorem lex_ind {M : List UInt8 → Nat → Nat → Except (Nat × Nat × Nat) (List Tok) → Prop}
    (nil : ∀ l c, M [] l c (.ok [⟨0, [], 0, l, c⟩]))
    (line : ∀ b s l c, b.toNat = 10 → lxBlank b = true → M s (l + 1) 1 (lexS s (l + 1) 1) → M (b :: s) l c (lexS s (l + 1) 1))
    (blank : ∀ b s l c, lxBlank b = true → b.toNat ≠ 10 → M s l (c + 1) (lexS s l (c + 1)) → M (b :: s) l c (lexS s l (c + 1)))
    (mark : ∀ b s l c, lxMark b = true → M s l (c + 1) (lexS s l (c + 1)) → M (b :: s) l c ((lexS s l (c + 1)).map fun ts => ⟨4, [b], 0, l, c⟩ :: ts))
    (run : ∀ r s l c k v, r ≠ [] → (∀ x ∈ r, lxInner x = true) → Starts s → classify r = .ok (k, v) → M s l (c + r.length) (lexS s l (c + r.length)) → M (r ++ s) l c ((lexS s l (c + r.length)).map fun ts => ⟨k, r, v, l, c⟩ :: ts))
    (badrun : ∀ r s l c e, r ≠ [] → (∀ x ∈ r, lxInner x = true) → Starts s → classify r = .error e → M (r ++ s) l c (.error (l, c, e)))
    (bad : ∀ b s l c, lxBlank b = false → lxMark b = false → lxInner b = false → M (b :: s) l c (.error (l, c, 3))) :
    ∀ (n : Nat) (s : List UInt8), s.length ≤ n → ∀ l c, M s l c (lexS s l c)
  | _, [], _, l, c => nil l c
  | 0, b :: s, h, l, c => by simp at h
  | n + 1, b :: s, h, l, c => by
    have hl : s.length ≤ n := by simpa using h
    have ih := lex_ind nil line blank mark run badrun bad n
    cases hb : lxBlank b with
    | true =>
      by_cases h10 : b.toNat = 10
      · rw [lexS_line h10]
        exact line b s l c h10 hb (ih s hl _ _)
      · rw [lexS_blank hb h10]
        exact blank b s l c hb h10 (ih s hl _ _)
    | false =>
      cases hm : lxMark b with
      | true =>
        rw [lexS_mark hb hm]
        exact mark b s l c hm (ih s hl _ _)
      | false =>
        cases hi : lxInner b with
        | false =>
          rw [lexS_bad hb hm hi]
          exact bad b s l c hb hm hi
        | true =>
          obtain ⟨r, q, e, hn, hr, hq, hlt⟩ := lex_split (b :: s) ⟨b, s, rfl, hi⟩
          rw [e, lexS_runs hn hr hq]
          cases hc : classify r with
          | error x => exact badrun r q l c x hn hr hq hc
          | ok kv =>
            obtain ⟨k, v⟩ := kv
            exact run r q l c k v hn hr hq hc (ih q (by simp at hlt h; omega) _ _)

def shiftT (d : Nat) (t : Tok) : Tok := ⟨t.kind, t.text, t.val, t.line + d, t.col⟩
def shiftR (d : Nat) : Except (Nat × Nat × Nat) (List Tok) → Except (Nat × Nat × Nat) (List Tok)
  | .error (l, c, e) => .error (l + d, c, e)
  | .ok ts => .ok (ts.map (shiftT d))
theorem shiftR_map (d : Nat) (t : Tok) (r : Except (Nat × Nat × Nat) (List Tok)) : shiftR d (r.map fun ts => t :: ts) = (shiftR d r).map fun ts => shiftT d t :: ts := by
  cases r <;> rfl

/-- the lines shifted -/
theorem lexS_shift (d : Nat) (s : List UInt8) (l c : Nat) : lexS s (l + d) c = shiftR d (lexS s l c) := by
  refine lex_ind (M := fun s l c R => lexS s (l + d) c = shiftR d R) ?_ ?_ ?_ ?_ ?_ ?_ ?_ s.length s (Nat.le_refl _) l c
  · intro l c; rfl
  · intro b s l c h10 hb ih
    rw [lexS_line h10, ← ih]
    congr 1
    omega
  · intro b s l c hb h10 ih
    rw [lexS_blank hb h10, ← ih]
  · intro b s l c hm ih
    rw [lexS_mark (mark_not hm).2 hm, shiftR_map, ← ih]
    rfl
  · intro r s l c k v hn hr hs hc ih
    rw [lexS_runs hn hr hs, hc, shiftR_map, ← ih]
    rfl
  · intro r s l c e hn hr hs hc
    rw [lexS_runs hn hr hs, hc]
    rfl
  · intro b s l c hb hm hi
    rw [lexS_bad hb hm hi]
    rfl

/-- one source behind another: the first one's tokens, then the second one's -/
theorem lexS_cat (b : List UInt8) (s : List UInt8) (l c : Nat) : (∀ e, lexS s l c = .error e → lexS (s ++ 10 :: b) l c = .error e) ∧
    ∀ ts, lexS s l c = .ok ts → ∃ ts' l' c', ts = ts' ++ [⟨0, [], 0, l', c'⟩] ∧ lexS (s ++ 10 :: b) l c = ahead ts' (lexS b (l' + 1) 1) := by
  have h10 : lxInner 10 = false := by decide
  have st : ∀ {s : List UInt8}, Starts s → Starts (s ++ 10 :: b) := by
    intro s hs x t e
    cases s with
    | nil => cases e; exact h10
    | cons y s => cases e; exact hs _ _ rfl
  refine lex_ind (M := fun s l c R => (∀ e, R = .error e → lexS (s ++ 10 :: b) l c = .error e) ∧
    ∀ ts, R = .ok ts → ∃ ts' l' c', ts = ts' ++ [⟨0, [], 0, l', c'⟩] ∧ lexS (s ++ 10 :: b) l c = ahead ts' (lexS b (l' + 1) 1)) ?_ ?_ ?_ ?_ ?_ ?_ ?_ s.length s (Nat.le_refl _) l c
  · intro l c
    refine ⟨fun e h => (by cases h), fun ts h => ?_⟩
    cases h
    exact ⟨[], l, c, rfl, by rw [ahead_nil]; exact lexS_line (by decide) b l c⟩
  · intro x s l c h hb ih
    rw [List.cons_append, lexS_line h]
    exact ih
  · intro x s l c hb h ih
    rw [List.cons_append, lexS_blank hb h]
    exact ih
  · intro x s l c hm ih
    rw [List.cons_append, lexS_mark (mark_not hm).2 hm]
    generalize lexS s l (c + 1) = R at ih
    cases R with
    | error e =>
      refine ⟨fun e' h => ?_, fun ts h => (by cases h)⟩
      cases h
      rw [ih.1 _ rfl]; rfl
    | ok ts =>
      refine ⟨fun e' h => (by cases h), fun ts1 h => ?_⟩
      cases h
      obtain ⟨ts', l', c', rfl, h⟩ := ih.2 _ rfl
      refine ⟨⟨4, [x], 0, l, c⟩ :: ts', l', c', rfl, ?_⟩
      rw [h]
      cases lexS b (l' + 1) 1 <;> rfl
  · intro r s l c k v hn hr hs hc ih
    rw [List.append_assoc, lexS_runs hn hr (st hs), hc]
    generalize lexS s l (c + r.length) = R at ih
    cases R with
    | error e =>
      refine ⟨fun e' h => ?_, fun ts h => (by cases h)⟩
      cases h
      simp only [ih.1 _ rfl]; rfl
    | ok ts =>
      refine ⟨fun e' h => (by cases h), fun ts1 h => ?_⟩
      cases h
      obtain ⟨ts', l', c', rfl, h⟩ := ih.2 _ rfl
      refine ⟨⟨k, r, v, l, c⟩ :: ts', l', c', rfl, ?_⟩
      simp only [h]
      cases lexS b (l' + 1) 1 <;> rfl
  · intro r s l c e hn hr hs hc
    rw [List.append_assoc, lexS_runs hn hr (st hs), hc]
    exact ⟨fun e h => h, fun ts h => (by cases h)⟩
  · intro x s l c hb hm hi
    rw [List.cons_append, lexS_bad hb hm hi]
    exact ⟨fun e h => h, fun ts h => (by cases h)⟩

/-- a token that is no end of text: what it must be -/
def Real (k : Nat) (r : List UInt8) (v : Nat) : Prop := (∃ b, r = [b] ∧ lxMark b = true ∧ k = 4 ∧ v = 0) ∨ (r ≠ [] ∧ (∀ x ∈ r, lxInner x = true) ∧ classify r = .ok (k, v))
theorem Real.ne {k v : Nat} {r : List UInt8} (h : Real k r v) : r ≠ [] := by
  rcases h with ⟨b, rfl, _⟩ | ⟨h, _⟩
  · simp
  · exact h
theorem classify_kind {r : List UInt8} {k v : Nat} (h : classify r = .ok (k, v)) : k = 1 ∨ k = 2 ∨ k = 3 := by
  cases r with
  | nil => cases h
  | cons b t =>
    simp only [classify] at h
    split at h
    · split at h
      · cases h
      · split at h
        · cases h
        · cases h; simp
    · split at h
      · cases h
      · split at h
        · cases h; simp
        · split at h
          · cases h
          · cases h; simp
theorem Real.kind {k v : Nat} {r : List UInt8} (h : Real k r v) : k = 1 ∨ k = 2 ∨ k = 3 ∨ k = 4 := by
  rcases h with ⟨b, _, _, rfl, _⟩ | ⟨_, _, h⟩
  · simp
  · rcases classify_kind h with h | h | h <;> simp [h]

theorem lexS_tok {k v : Nat} {r s : List UInt8} (h : Real k r v) (hs : Starts s) (l c : Nat) : lexS (r ++ s) l c = (lexS s l (c + r.length)).map fun ts => ⟨k, r, v, l, c⟩ :: ts := by
  rcases h with ⟨b, rfl, hm, rfl, rfl⟩ | ⟨hn, hr, hc⟩
  · exact lexS_mark (mark_not hm).2 hm s l c
  · rw [lexS_runs hn hr hs, hc]

/-- the tokens of a text: what they are, and the last -/
theorem lexS_real (s : List UInt8) (l c : Nat) (ts : List Tok) (h : lexS s l c = .ok ts) : ∃ ts' l' c', ts = ts' ++ [⟨0, [], 0, l', c'⟩] ∧ (∀ t ∈ ts', Real t.kind t.text t.val) ∧ (ts'.map fun t => t.text.length).sum ≤ s.length ∧ ts'.length ≤ s.length := by
  refine lex_ind (M := fun s l c R => ∀ ts, R = .ok ts → ∃ ts' l' c', ts = ts' ++ [⟨0, [], 0, l', c'⟩] ∧ (∀ t ∈ ts', Real t.kind t.text t.val) ∧ (ts'.map fun t => t.text.length).sum ≤ s.length ∧ ts'.length ≤ s.length) ?_ ?_ ?_ ?_ ?_ ?_ ?_ s.length s (Nat.le_refl _) l c ts h
  · intro l c ts h
    cases h
    exact ⟨[], l, c, rfl, by simp, by simp, by simp⟩
  · intro x s l c h hb ih ts he
    obtain ⟨ts', l', c', h1, h2, h3, h4⟩ := ih ts he
    exact ⟨ts', l', c', h1, h2, by simp; omega, by simp; omega⟩
  · intro x s l c hb h ih ts he
    obtain ⟨ts', l', c', h1, h2, h3, h4⟩ := ih ts he
    exact ⟨ts', l', c', h1, h2, by simp; omega, by simp; omega⟩
  · intro x s l c hm ih ts he
    generalize lexS s l (c + 1) = R at ih he
    cases R with
    | error e => cases he
    | ok us =>
      cases he
      obtain ⟨ts', l', c', rfl, h2, h3, h4⟩ := ih _ rfl
      refine ⟨⟨4, [x], 0, l, c⟩ :: ts', l', c', rfl, ?_, ?_, ?_⟩
      · intro t ht
        rcases List.mem_cons.1 ht with rfl | ht
        · exact Or.inl ⟨x, rfl, hm, rfl, rfl⟩
        · exact h2 t ht
      · simp; omega
      · simp; omega
  · intro r s l c k v hn hr hs hc ih ts he
    generalize lexS s l (c + r.length) = R at ih he
    cases R with
    | error e => cases he
    | ok us =>
      cases he
      obtain ⟨ts', l', c', rfl, h2, h3, h4⟩ := ih _ rfl
      have hl : 0 < r.length := List.length_pos_iff.2 hn
      refine ⟨⟨k, r, v, l, c⟩ :: ts', l', c', rfl, ?_, ?_, ?_⟩
      · intro t ht
        rcases List.mem_cons.1 ht with rfl | ht
        · exact Or.inr ⟨hn, hr, hc⟩
        · exact h2 t ht
      · simp; omega
      · simp; omega
  · intro r s l c e hn hr hs hc ts he
    cases he
  · intro x s l c hb hm hi ts he
    cases he

/-- white space ahead -/
theorem lexS_ws : ∀ (ws s : List UInt8) (l c : Nat), (∀ x ∈ ws, lxBlank x = true) → ∃ l' c', lexS (ws ++ s) l c = lexS s l' c'
  | [], s, l, c, _ => ⟨l, c, rfl⟩
  | b :: ws, s, l, c, h => by
    have hb := h b (by simp)
    have hw : ∀ x ∈ ws, lxBlank x = true := fun x hx => h x (by simp [hx])
    rw [List.cons_append]
    by_cases h10 : b.toNat = 10
    · rw [lexS_line h10]; exact lexS_ws ws s _ _ hw
    · rw [lexS_blank hb h10]; exact lexS_ws ws s _ _ hw
theorem Starts.ws {ws s : List UInt8} (h : ∀ x ∈ ws, lxBlank x = true) (hs : ws = [] → Starts s) : Starts (ws ++ s) := by
  cases ws with
  | nil => exact hs rfl
  | cons b ws => exact .cons (blank_not (h b (by simp))).1 _

/-- what a token is, its place apart -/
def Tok.key (t : Tok) : Nat × List UInt8 × Nat := (t.kind, t.text, t.val)

/-- tokens, white space behind each -/
def spaced : List (List UInt8 × List UInt8) → List UInt8
  | [] => []
  | (r, ws) :: l => r ++ (ws ++ spaced l)
theorem lexS_spaced : ∀ (ts : List Tok) (ws : List (List UInt8)) (z : List UInt8) (l c : Nat), (∀ t ∈ ts, Real t.kind t.text t.val) → ws.length = ts.length → (∀ w ∈ ws, ∀ x ∈ w, lxBlank x = true) → (∀ j w, ws[j]? = some w → j + 1 < ts.length → w ≠ []) → (∀ x ∈ z, lxBlank x = true) →
    ∃ us l' c', lexS (spaced ((ts.map Tok.text).zip ws) ++ z) l c = .ok (us ++ [⟨0, [], 0, l', c'⟩]) ∧ us.map Tok.key = ts.map Tok.key
  | [], ws, z, l, c, _, _, _, _, hz => by
    obtain ⟨l', c', h⟩ := lexS_ws z [] l c hz
    rw [List.append_nil, lexS_nil] at h
    exact ⟨[], l', c', by simpa [spaced] using h, rfl⟩
  | t :: ts, [], z, l, c, _, h, _, _, _ => by simp at h
  | t :: ts, w :: ws, z, l, c, hr, hl, hw, hn, hz => by
    have hw0 := hw w (by simp)
    obtain ⟨l1, c1, h1⟩ := lexS_ws w (spaced ((ts.map Tok.text).zip ws) ++ z) l (c + t.text.length) hw0
    obtain ⟨us, l', c', h2, h3⟩ := lexS_spaced ts ws z l1 c1 (fun t ht => hr t (by simp [ht])) (by simpa using hl) (fun w hq => hw w (by simp [hq])) (fun j w hj hlt => hn (j + 1) w (by simpa using hj) (by simp; omega)) hz
    refine ⟨⟨t.kind, t.text, t.val, l, c⟩ :: us, l', c', ?_, ?_⟩
    · simp only [List.map_cons, List.zip_cons_cons, spaced, List.append_assoc]
      rw [lexS_tok (hr t (by simp)) ?_, h1, h2]
      · rfl
      · refine Starts.ws hw0 (fun h0 => ?_)
        cases ts with
        | nil =>
          simp only [List.map_nil, List.zip_nil_left, spaced, List.nil_append]
          have := Starts.ws (s := []) hz (fun _ => .nil)
          rwa [List.append_nil] at this
        | cons t1 ts => exact absurd h0 (hn 0 w rfl (by simp))
    · rw [List.map_cons, List.map_cons, h3]
      rfl

/-- the only token of a text that is this text itself -/
def oneF (s : List UInt8) : Option (Nat × Nat) :=
  match lexT s with
  | .ok [t, _] => if t.text = s then some (t.kind, t.val) else none
  | _ => none
theorem oneF_real {s : List UInt8} {k v : Nat} : oneF s = some (k, v) ↔ s.length ≤ 65536 ∧ Real k s v := by
  constructor
  · intro h
    unfold oneF lexT at h
    by_cases hl : 65536 < s.length
    · rw [if_pos hl] at h; cases h
    · rw [if_neg hl] at h
      refine ⟨by omega, ?_⟩
      split at h
      · rename_i t t2 he
        obtain ⟨ts', l', c', h1, h2, h3, h4⟩ := lexS_real s 1 1 _ he
        split at h
        · rename_i hts
          cases h
          have h5 : ts' = [t] := by
            cases ts' with
            | nil => simp at h1
            | cons a ts' =>
              simp at h1
              obtain ⟨rfl, h1⟩ := h1
              cases ts' with
              | nil => rfl
              | cons b ts' => simp at h1
          subst h5
          have := h2 t (by simp)
          rwa [hts] at this
        · cases h
      · cases h
  · rintro ⟨hl, hr⟩
    unfold oneF lexT
    rw [if_neg (by omega)]
    have h1 := lexS_tok hr Starts.nil 1 1
    rw [List.append_nil, lexS_nil] at h1
    rw [h1]
    simp [Except.map]
end Go.PL
