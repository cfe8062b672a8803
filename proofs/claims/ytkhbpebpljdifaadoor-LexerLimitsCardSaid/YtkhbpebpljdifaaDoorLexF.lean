/- The lexer as a function on lists of bytes, and its equations. No program is named. -/
namespace Go.PL

/-- a token: its kind, its bytes, its number, its place -/
structure Tok where
  kind : Nat
  text : List UInt8
  val : Nat
  line : Nat
  col : Nat

def lxLetter (b : UInt8) : Bool := (decide (97 ≤ b.toNat) && decide (b.toNat ≤ 122)) || (decide (65 ≤ b.toNat) && decide (b.toNat ≤ 90))
def lxDigit (b : UInt8) : Bool := decide (48 ≤ b.toNat) && decide (b.toNat ≤ 57)
def lxInner (b : UInt8) : Bool := lxLetter b || lxDigit b || decide (b.toNat = 39)
def lxBlank (b : UInt8) : Bool := decide (b.toNat = 9) || decide (b.toNat = 10) || decide (b.toNat = 13) || decide (b.toNat = 32)
def lxMark (b : UInt8) : Bool := decide (b.toNat = 61) || decide (b.toNat = 40) || decide (b.toNat = 41) || decide (b.toNat = 44) || decide (b.toNat = 58) || decide (b.toNat = 59)

/-- the keywords -/
def lxWords : List (List UInt8) := [[102, 105, 110, 100], [115, 111, 109, 101], [101, 118, 101, 114, 121], [118, 101, 114, 116, 101, 120], [101, 100, 103, 101], [115, 101, 116], [101, 100, 103, 101, 115], [116, 114, 117, 101], [102, 97, 108, 115, 101], [110, 111, 116], [97, 110, 100], [111, 114], [105, 109, 112, 108, 105, 101, 115], [105, 102, 102], [105, 110], [115, 117, 98], [97, 100, 106], [111, 110], [105, 115], [111, 110, 101], [115, 105, 122, 101], [109, 111, 100], [108, 101, 97, 115, 116], [103, 114, 101, 97, 116, 101, 115, 116], [97, 115, 107], [108, 101, 116]]

/-- the number that a run of digits spells -/
def lxNum (r : List UInt8) : Nat := r.foldl (fun n b => 10 * n + (b.toNat - 48)) 0

/-- kind and number of a run, or its error -/
def classify : List UInt8 → Except Nat (Nat × Nat)
  | [] => .error 3
  | b :: t =>
    if lxDigit b then
      if !((b :: t).all lxDigit) || (decide (t ≠ []) && decide (b.toNat = 48)) then .error 3
      else if 2147483647 < lxNum (b :: t) then .error 2 else .ok (2, lxNum (b :: t))
    else if !lxLetter b then .error 3
    else if lxWords.contains (b :: t) then .ok (3, 0)
    else if 16 < (b :: t).length then .error 2
    else .ok (1, 0)

def lexN : Nat → List UInt8 → Nat → Nat → Except (Nat × Nat × Nat) (List Tok)
  | _, [], l, c => .ok [⟨0, [], 0, l, c⟩]
  | 0, _ :: _, l, c => .error (l, c, 3)
  | n + 1, b :: s, l, c =>
    if lxBlank b then (if b.toNat = 10 then lexN n s (l + 1) 1 else lexN n s l (c + 1))
    else if lxMark b then (lexN n s l (c + 1)).map fun ts => ⟨4, [b], 0, l, c⟩ :: ts
    else if lxInner b then
      match classify ((b :: s).takeWhile lxInner) with
      | .error e => .error (l, c, e)
      | .ok (k, v) => (lexN n ((b :: s).dropWhile lxInner) l (c + ((b :: s).takeWhile lxInner).length)).map fun ts => ⟨k, (b :: s).takeWhile lxInner, v, l, c⟩ :: ts
    else .error (l, c, 3)

theorem dropWhile_le {α : Type} (p : α → Bool) (s : List α) : (s.dropWhile p).length ≤ s.length := by
  induction s with
  | nil => simp
  | cons b s ih =>
    simp only [List.dropWhile_cons]
    split
    · simp; omega
    · simp
theorem lexN_more : ∀ (n m : Nat) (s : List UInt8) (l c : Nat), s.length ≤ n → s.length ≤ m → lexN n s l c = lexN m s l c
  | n, m, [], l, c, _, _ => by cases n <;> cases m <;> rfl
  | 0, m, b :: s, l, c, h, _ => by simp at h
  | n + 1, 0, b :: s, l, c, _, h => by simp at h
  | n + 1, m + 1, b :: s, l, c, h, h' => by
    have h1 : s.length ≤ n := by simpa using h
    have h2 : s.length ≤ m := by simpa using h'
    simp only [lexN]
    rw [lexN_more n m s (l + 1) 1 h1 h2, lexN_more n m s l (c + 1) h1 h2]
    split
    · rfl
    · split
      · rfl
      · split
        · rename_i hi
          have h3 : ((b :: s).dropWhile lxInner) = s.dropWhile lxInner := by simp [List.dropWhile_cons, hi]
          have h4 := dropWhile_le lxInner s
          rw [h3, lexN_more n m (s.dropWhile lxInner) l _ (by omega) (by omega)]
        · rfl

/-- the tokens of s, its first byte in line l and column c -/
def lexS (s : List UInt8) (l c : Nat) : Except (Nat × Nat × Nat) (List Tok) := lexN s.length s l c
/-- what Tokenize answers -/
def lexT (s : List UInt8) : Except (Nat × Nat × Nat) (List Tok) := if 65536 < s.length then .error (0, 0, 2) else lexS s 1 1

theorem lexN_eq {n : Nat} {s : List UInt8} (h : s.length ≤ n) (l c : Nat) : lexN n s l c = lexS s l c := lexN_more n s.length s l c h (Nat.le_refl _)

theorem lexS_nil (l c : Nat) : lexS [] l c = .ok [⟨0, [], 0, l, c⟩] := rfl
theorem lexS_line {b : UInt8} (h : b.toNat = 10) (s : List UInt8) (l c : Nat) : lexS (b :: s) l c = lexS s (l + 1) 1 := by
  have hb : lxBlank b = true := by simp [lxBlank, h]
  show lexN (s.length + 1) (b :: s) l c = _
  simp only [lexN, hb, h, if_true]
  rfl
theorem lexS_blank {b : UInt8} (hb : lxBlank b = true) (h : b.toNat ≠ 10) (s : List UInt8) (l c : Nat) : lexS (b :: s) l c = lexS s l (c + 1) := by
  show lexN (s.length + 1) (b :: s) l c = _
  simp only [lexN, hb, h, if_true, if_false]
  rfl
theorem lexS_mark {b : UInt8} (hb : lxBlank b = false) (h : lxMark b = true) (s : List UInt8) (l c : Nat) : lexS (b :: s) l c = (lexS s l (c + 1)).map fun ts => ⟨4, [b], 0, l, c⟩ :: ts := by
  show lexN (s.length + 1) (b :: s) l c = _
  simp only [lexN, hb, h, if_true, Bool.false_eq_true, if_false]
  rfl
theorem lexS_run {b : UInt8} (hb : lxBlank b = false) (hm : lxMark b = false) (h : lxInner b = true) (s : List UInt8) (l c : Nat) : lexS (b :: s) l c =
    match classify ((b :: s).takeWhile lxInner) with
    | .error e => .error (l, c, e)
    | .ok (k, v) => (lexS ((b :: s).dropWhile lxInner) l (c + ((b :: s).takeWhile lxInner).length)).map fun ts => ⟨k, (b :: s).takeWhile lxInner, v, l, c⟩ :: ts := by
  show lexN (s.length + 1) (b :: s) l c = _
  have h3 : ((b :: s).dropWhile lxInner) = s.dropWhile lxInner := by simp [List.dropWhile_cons, h]
  have h4 := dropWhile_le lxInner s
  simp only [lexN, hb, hm, h, if_true, Bool.false_eq_true, if_false]
  rw [h3, lexN_eq h4]
theorem lexS_bad {b : UInt8} (hb : lxBlank b = false) (hm : lxMark b = false) (h : lxInner b = false) (s : List UInt8) (l c : Nat) : lexS (b :: s) l c = .error (l, c, 3) := by
  show lexN (s.length + 1) (b :: s) l c = _
  simp only [lexN, hb, hm, h, Bool.false_eq_true, if_false]

theorem inner_not {b : UInt8} (h : lxInner b = true) : lxBlank b = false ∧ lxMark b = false := by
  simp only [lxInner, lxLetter, lxDigit, lxBlank, lxMark, Bool.or_eq_true, Bool.and_eq_true, decide_eq_true_eq] at *
  constructor <;> simp <;> omega
theorem blank_not {b : UInt8} (h : lxBlank b = true) : lxInner b = false ∧ lxMark b = false := by
  simp only [lxInner, lxLetter, lxDigit, lxBlank, lxMark, Bool.or_eq_true, Bool.and_eq_true, decide_eq_true_eq] at *
  constructor <;> simp <;> omega
theorem mark_not {b : UInt8} (h : lxMark b = true) : lxInner b = false ∧ lxBlank b = false := by
  simp only [lxInner, lxLetter, lxDigit, lxBlank, lxMark, Bool.or_eq_true, Bool.and_eq_true, decide_eq_true_eq] at *
  constructor <;> simp <;> omega

theorem takeWhile_ne {b : UInt8} (h : lxInner b = true) (s : List UInt8) : (b :: s).takeWhile lxInner = b :: s.takeWhile lxInner := by simp [List.takeWhile_cons, h]

/-- the tokens that came ahead, put ahead -/
def ahead (acc : List Tok) (r : Except (Nat × Nat × Nat) (List Tok)) : Except (Nat × Nat × Nat) (List Tok) := r.map fun ts => acc ++ ts
theorem ahead_nil (r : Except (Nat × Nat × Nat) (List Tok)) : ahead [] r = r := by cases r <;> rfl
theorem ahead_snoc (acc : List Tok) (t : Tok) (r : Except (Nat × Nat × Nat) (List Tok)) : ahead acc (r.map fun ts => t :: ts) = ahead (acc ++ [t]) r := by
  cases r with
  | error e => rfl
  | ok ts => simp [ahead, Except.map]
theorem ahead_ok (acc ts : List Tok) : ahead acc (.ok ts) = .ok (acc ++ ts) := rfl
theorem ahead_error (acc : List Tok) (e : Nat × Nat × Nat) : ahead acc (.error e) = .error e := rfl
end Go.PL
