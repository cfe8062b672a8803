/- Numbers as lists of words of 32 bits: the plain laws. -/
import Derived.Test.YtifellalnojomaaDoorTrim
namespace Go.Proofs.YtifellalnojomaaDoor

/-- the words of n, least first, no leading zero -/
def W32 (n : Nat) : List Nat := if h : n = 0 then [] else n % 4294967296 :: W32 (n / 4294967296)
  termination_by n
  decreasing_by omega
def valL : List Nat → Nat
  | [] => 0
  | x :: xs => x + 4294967296 * valL xs

theorem W32_zero : W32 0 = [] := by rw [W32]; simp
theorem W32_pos {n : Nat} (h : n ≠ 0) : W32 n = n % 4294967296 :: W32 (n / 4294967296) := by rw [W32]; simp [h]
theorem val_W32 (n : Nat) : valL (W32 n) = n := by
  induction n using Nat.strongRecOn with
  | _ n ih =>
    by_cases h : n = 0
    · subst h; rw [W32_zero]; rfl
    · rw [W32_pos h, valL, ih _ (by omega)]
      omega
theorem W32_lt (n : Nat) : ∀ x ∈ W32 n, x < 4294967296 := by
  induction n using Nat.strongRecOn with
  | _ n ih =>
    by_cases h : n = 0
    · subst h; rw [W32_zero]; simp
    · rw [W32_pos h]
      intro x hx
      rcases List.mem_cons.1 hx with rfl | hx
      · omega
      · exact ih _ (by omega) x hx
theorem W32_inj {a b : Nat} (h : W32 a = W32 b) : a = b := by rw [← val_W32 a, h, val_W32]
theorem W32_nil {a : Nat} : W32 a = [] ↔ a = 0 := ⟨fun h => by have := val_W32 a; rw [h] at this; exact this.symm, fun h => by rw [h, W32_zero]⟩

theorem valL_append (a b : List Nat) : valL (a ++ b) = valL a + 4294967296 ^ a.length * valL b := by
  induction a with
  | nil => simp [valL]
  | cons x xs ih =>
    simp only [List.cons_append, valL, ih, List.length_cons, Nat.pow_succ]
    rw [Nat.mul_add, Nat.add_assoc]
    congr 2
    rw [← Nat.mul_assoc, Nat.mul_comm 4294967296]

/-- a list of words that ends in no zero is the words of its value -/
theorem W32_val : ∀ {l : List Nat}, (∀ x ∈ l, x < 4294967296) → (∀ h : l ≠ [], l.getLast h ≠ 0) → W32 (valL l) = l
  | [], _, _ => W32_zero
  | x :: xs, hl, hz => by
    have hx := hl x (by simp)
    have hv : valL xs = 0 → xs = [] := fun h => by
      cases xs with
      | nil => rfl
      | cons y ys =>
        have h1 := W32_val (l := y :: ys) (fun z hz' => hl z (List.mem_cons_of_mem _ hz')) (fun hne => by simpa using hz (by simp))
        rw [h, W32_zero] at h1
        cases h1
    have ih : W32 (valL xs) = xs := W32_val (fun z hz' => hl z (List.mem_cons_of_mem _ hz')) (fun hne => by
      have := hz (by simp)
      rwa [List.getLast_cons hne] at this)
    have hne : valL (x :: xs) ≠ 0 := by
      simp only [valL]
      intro h0
      have h1 : x = 0 := by omega
      have h2 : valL xs = 0 := by omega
      have h3 := hv h2
      subst h3
      exact hz (by simp) h1
    rw [W32_pos hne]
    simp only [valL]
    have e1 : (x + 4294967296 * valL xs) % 4294967296 = x := by omega
    have e2 : (x + 4294967296 * valL xs) / 4294967296 = valL xs := by omega
    rw [e1, e2, ih]

/-- what trim leaves of a list of words -/
theorem trim_W32 (zs : List Nat) (h : ∀ x ∈ zs, x < 4294967296) : zs.take (trimN (zs.map fun x : Nat => (x : Int))) = W32 (valL zs) := by
  suffices hs : ∀ l : List Nat, (∀ x ∈ l, x < 4294967296) → (l.reverse).take (trimN (l.reverse.map fun x : Nat => (x : Int))) = W32 (valL l.reverse) by
    have := hs zs.reverse (fun x hx => h x (by simpa using hx))
    simpa using this
  intro l hl
  induction l with
  | nil => simp [valL, W32_zero]
  | cons z zs ih =>
    rw [List.reverse_cons, List.map_append, List.map_cons, List.map_nil]
    by_cases hz : z = 0
    · subst hz
      rw [show (((0 : Nat) : Int)) = 0 from rfl, trimN_snoc0, valL_append]
      have h1 := trimN_le (zs.reverse.map fun x : Nat => (x : Int))
      rw [List.length_map] at h1
      rw [List.take_append_of_le_length h1, ih (fun x hx => hl x (List.mem_cons_of_mem _ hx))]
      simp [valL]
    · rw [trimN_snoc (by omega), List.length_map, List.take_of_length_le (by simp)]
      refine (W32_val (fun x hx => hl x (by simpa [or_comm] using hx)) (fun _ => ?_)).symm
      simpa using hz
theorem trim_len (zs : List Nat) (h : ∀ x ∈ zs, x < 4294967296) : trimN (zs.map fun x : Nat => (x : Int)) = (W32 (valL zs)).length := by
  have h1 := trimN_le (zs.map fun x : Nat => (x : Int))
  rw [List.length_map] at h1
  have := congrArg List.length (trim_W32 zs h)
  rw [List.length_take] at this
  omega

/-- the sum's words, as the code makes them: i words and the carry -/
def addL (a b : List Nat) : Nat → List Nat × Nat
  | 0 => ([], 0)
  | i + 1 => ((addL a b i).1 ++ [(a.getD i 0 + b.getD i 0 + (addL a b i).2) % 4294967296], (a.getD i 0 + b.getD i 0 + (addL a b i).2) / 4294967296)
theorem addL_len (a b : List Nat) (i : Nat) : (addL a b i).1.length = i := by
  induction i with
  | zero => rfl
  | succ i ih => simp [addL, ih]
theorem addL_lt (a b : List Nat) (i : Nat) : ∀ x ∈ (addL a b i).1, x < 4294967296 := by
  induction i with
  | zero => simp [addL]
  | succ i ih =>
    intro x hx
    simp only [addL, List.mem_append, List.mem_singleton] at hx
    rcases hx with hx | rfl
    · exact ih x hx
    · omega
theorem getD_lt {a : List Nat} (ha : ∀ x ∈ a, x < 4294967296) (i : Nat) : a.getD i 0 < 4294967296 := by
  rw [List.getD_eq_getElem?_getD]
  cases h : a[i]? with
  | none => simp
  | some x => simpa using ha x (List.mem_of_getElem? h)
theorem addL_carry {a b : List Nat} (ha : ∀ x ∈ a, x < 4294967296) (hb : ∀ x ∈ b, x < 4294967296) (i : Nat) : (addL a b i).2 ≤ 1 := by
  induction i with
  | zero => simp [addL]
  | succ i ih =>
    have h1 := getD_lt ha i
    have h2 := getD_lt hb i
    simp only [addL]
    omega
theorem valL_take_succ (a : List Nat) (i : Nat) : valL (a.take (i + 1)) = valL (a.take i) + 4294967296 ^ i * a.getD i 0 := by
  by_cases h : i < a.length
  · rw [List.take_add_one, List.getElem?_eq_getElem h]
    simp only [Option.toList_some, valL_append, valL, List.length_take, Nat.min_eq_left (Nat.le_of_lt h)]
    rw [List.getD_eq_getElem?_getD, List.getElem?_eq_getElem h]
    simp
  · rw [List.take_of_length_le (by omega), List.take_of_length_le (by omega), List.getD_eq_getElem?_getD, List.getElem?_eq_none (by omega)]
    simp
theorem addL_val (a b : List Nat) (i : Nat) : valL (addL a b i).1 + 4294967296 ^ i * (addL a b i).2 = valL (a.take i) + valL (b.take i) := by
  induction i with
  | zero => simp [addL, valL]
  | succ i ih =>
    rw [valL_take_succ, valL_take_succ]
    simp only [addL, valL_append, addL_len, valL]
    generalize hs : a.getD i 0 + b.getD i 0 + (addL a b i).2 = s
    have e : 4294967296 ^ (i + 1) * (s / 4294967296) + 4294967296 ^ i * (s % 4294967296 + 4294967296 * 0) = 4294967296 ^ i * s := by
      rw [Nat.pow_succ, Nat.mul_assoc, ← Nat.mul_add]
      congr 1
      omega
    have e2 : 4294967296 ^ i * s = 4294967296 ^ i * a.getD i 0 + 4294967296 ^ i * b.getD i 0 + 4294967296 ^ i * (addL a b i).2 := by
      rw [← hs, Nat.mul_add, Nat.mul_add]
    omega
/-- the words with the carry behind them -/
def sumL (a b : List Nat) (n : Nat) : List Nat := if 0 < (addL a b n).2 then (addL a b n).1 ++ [(addL a b n).2] else (addL a b n).1
theorem sumL_val {a b : List Nat} {n : Nat} (ha : a.length ≤ n) (hb : b.length ≤ n) : valL (sumL a b n) = valL a + valL b := by
  have h := addL_val a b n
  rw [List.take_of_length_le ha, List.take_of_length_le hb] at h
  unfold sumL
  split
  · rw [valL_append, addL_len]
    simpa [valL] using h
  · have : (addL a b n).2 = 0 := by omega
    rw [this] at h
    simpa using h
theorem sumL_lt {a b : List Nat} (ha : ∀ x ∈ a, x < 4294967296) (hb : ∀ x ∈ b, x < 4294967296) (n : Nat) : ∀ x ∈ sumL a b n, x < 4294967296 := by
  intro x hx
  have hc := addL_carry ha hb n
  unfold sumL at hx
  split at hx
  · rcases List.mem_append.1 hx with hx | hx
    · exact addL_lt a b n x hx
    · simp at hx; omega
  · exact addL_lt a b n x hx
end Go.Proofs.YtifellalnojomaaDoor
