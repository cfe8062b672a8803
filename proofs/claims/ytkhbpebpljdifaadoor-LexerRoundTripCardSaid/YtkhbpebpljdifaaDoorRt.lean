/- Round trips in plain words: what Join puts together, and what stands between blanks. -/
import Derived.Test.YtkhbpebpljdifaaDoorJoinA
import Derived.Test.YtkhbpebpljdifaaDoorPos
namespace Go.Proofs.YtkhbpebpljdifaaDoor
open Go.RowKit Go.PL Go.Maps

theorem len_le_sum {l : List Tok} {t : Tok} (h : t ∈ l) : t.text.length ≤ (l.map fun t => t.text.length).sum := by
  induction l with
  | nil => cases h
  | cons a l ih =>
    rw [List.map_cons, List.sum_cons]
    rcases List.mem_cons.1 h with rfl | h
    · omega
    · have := ih h; omega
/-- Join of what Tokenize answers -/
theorem joinF_real (l' c' : Nat) : ∀ ts : List Tok, (∀ t ∈ ts, Real t.kind t.text t.val) → (∀ t ∈ ts, t.text.length ≤ 65536) → joinF ((ts ++ [(⟨0, [], 0, l', c'⟩ : Tok)]).map ofTok) = some (ts.map Tok.text)
  | [], _, _ => joinF_eof ⟨rfl, rfl, rfl⟩
  | t :: ts, h, hl => by
    have hr := h t (by simp)
    have h1 : goodI (ofTok t) := ⟨t.kind, t.val, oneF_real.2 ⟨hl t (by simp), hr⟩, rfl, rfl⟩
    have h2 : ¬ eofI (ofTok t) := fun he => hr.ne he.2.1
    rw [List.cons_append, List.map_cons, joinF_good (fun h => h2 h.2) h1, joinF_real l' c' ts (fun t h' => h t (by simp [h'])) (fun t h' => hl t (by simp [h']))]
    rfl
theorem join_spaced : ∀ ts : List (List UInt8), ∃ ws : List (List UInt8), ws.length = ts.length ∧ (∀ w ∈ ws, ∀ x ∈ w, lxBlank x = true) ∧ (∀ j w, ws[j]? = some w → j + 1 < ts.length → w ≠ []) ∧ spaced (ts.zip ws) = Lib.join ts [32]
  | [] => ⟨[], rfl, fun _ h => (by cases h), fun _ _ h => (by simp at h), rfl⟩
  | [t] => ⟨[[]], rfl, fun w h x hx => (by simp at h; subst h; cases hx), fun j w _ h => (by simp at h), by simp [spaced, Lib.join_cons, Lib.joinTail]⟩
  | t :: t2 :: ts => by
    obtain ⟨ws, h1, h2, h3, h4⟩ := join_spaced (t2 :: ts)
    refine ⟨[32] :: ws, by simpa using h1, ?_, ?_, ?_⟩
    · intro w hw x hx
      rcases List.mem_cons.1 hw with rfl | hw
      · simp at hx; subst hx; decide
      · exact h2 w hw x hx
    · intro j w hj hlt
      cases j with
      | zero => simp at hj; subst hj; simp
      | succ j => exact h3 j w (by simpa using hj) (by simpa using hlt)
    · rw [List.zip_cons_cons, spaced, h4, Lib.join_cons, Lib.join_cons]
      simp [Lib.joinTail]
theorem join_lex (ts : List Tok) (h : ∀ t ∈ ts, Real t.kind t.text t.val) : ∃ us l' c', lexS (Lib.join (ts.map Tok.text) [32]) 1 1 = .ok (us ++ [⟨0, [], 0, l', c'⟩]) ∧ us.map Tok.key = ts.map Tok.key := by
  obtain ⟨ws, h1, h2, h3, h4⟩ := join_spaced (ts.map Tok.text)
  obtain ⟨us, l', c', h5, h6⟩ := lexS_spaced ts ws [] 1 1 h (by simpa using h1) h2 (by simpa using h3) (by simp)
  rw [List.append_nil, h4] at h5
  exact ⟨us, l', c', h5, h6⟩
theorem join_sum : ∀ ts : List (List UInt8), (Lib.join ts [32]).length ≤ (ts.map List.length).sum + ts.length
  | [] => by simp [Lib.join_nil]
  | [t] => by simp [Lib.join_cons, Lib.joinTail]
  | t :: t2 :: ts => by
    have h := join_sum (t2 :: ts)
    rw [Lib.join_cons] at h ⊢
    simp [Lib.joinTail] at h ⊢
    omega

/-- the law's blanks -/
def blk5 : Nat → List UInt8
  | 0 => [32]
  | 1 => [10]
  | 2 => [9]
  | 3 => [13, 10, 32]
  | _ => [32, 9, 32]
theorem blk5_ne (j : Nat) : blk5 j ≠ [] := by unfold blk5; split <;> simp
theorem blk5_len (j : Nat) : (blk5 j).length ≤ 3 := by unfold blk5; split <;> simp
theorem blk5_blank (j : Nat) : ∀ x ∈ blk5 j, lxBlank x = true := by unfold blk5; split <;> (intro x hx; simp at hx; first | (subst hx; decide) | (rcases hx with rfl | rfl | rfl <;> decide))
/-- tokens, blanks behind each -/
def blks (n : Nat) : List Tok → Nat → List UInt8
  | [], _ => []
  | t :: ts, i => t.text ++ (blk5 ((n + i) % 5) ++ blks n ts (i + 1))
theorem blks_snoc (n : Nat) (t : Tok) : ∀ (ts : List Tok) (i : Nat), blks n (ts ++ [t]) i = blks n ts i ++ (t.text ++ blk5 ((n + (i + ts.length)) % 5))
  | [], i => by simp [blks]
  | u :: ts, i => by
    rw [List.cons_append, blks, blks_snoc n t ts (i + 1), blks, List.length_cons]
    have : i + 1 + ts.length = i + (ts.length + 1) := by omega
    rw [this]
    simp
theorem blks_len (n : Nat) : ∀ (ts : List Tok) (i : Nat), (blks n ts i).length ≤ (ts.map fun t => t.text.length).sum + 3 * ts.length
  | [], i => by simp [blks]
  | t :: ts, i => by
    have h1 := blks_len n ts (i + 1)
    have h2 := blk5_len ((n + i) % 5)
    simp only [blks, List.length_append, List.map_cons, List.sum_cons, List.length_cons]
    omega
theorem blks_spaced (n : Nat) : ∀ (ts : List Tok) (i : Nat), ∃ ws : List (List UInt8), ws.length = ts.length ∧ (∀ w ∈ ws, (∀ x ∈ w, lxBlank x = true) ∧ w ≠ []) ∧ spaced ((ts.map Tok.text).zip ws) = blks n ts i
  | [], i => ⟨[], rfl, fun _ h => (by cases h), rfl⟩
  | t :: ts, i => by
    obtain ⟨ws, h1, h2, h3⟩ := blks_spaced n ts (i + 1)
    refine ⟨blk5 ((n + i) % 5) :: ws, by simpa using h1, ?_, ?_⟩
    · intro w hw
      rcases List.mem_cons.1 hw with rfl | hw
      · exact ⟨blk5_blank _, blk5_ne _⟩
      · exact h2 w hw
    · rw [List.map_cons, List.zip_cons_cons, spaced, h3, blks]
theorem blks_lex (n : Nat) (ts : List Tok) (h : ∀ t ∈ ts, Real t.kind t.text t.val) (l c : Nat) : ∃ us l' c', lexS (blk5 (n % 5) ++ blks n (ts ++ [⟨0, [], 0, l, c⟩]) 0) 1 1 = .ok (us ++ [⟨0, [], 0, l', c'⟩]) ∧ us.map Tok.key = ts.map Tok.key := by
  obtain ⟨ws, h1, h2, h3⟩ := blks_spaced n ts 0
  rw [blks_snoc, ← h3]
  obtain ⟨l1, c1, h4⟩ := lexS_ws (blk5 (n % 5)) (spaced ((ts.map Tok.text).zip ws) ++ ([] ++ blk5 ((n + (0 + ts.length)) % 5))) 1 1 (blk5_blank _)
  rw [h4]
  exact lexS_spaced ts ws _ l1 c1 h h1 (fun w hw => (h2 w hw).1) (fun j w hj _ => (h2 w (List.mem_of_getElem? hj)).2) (blk5_blank _)

/-- all that the law needs to know of a text that reads -/
theorem rt_plain {q : List UInt8} {ts : List Tok} (hq : q.length ≤ 3000) (h : lexT q = .ok ts) (n : Nat) :
    0 < ts.length ∧ ts.length ≤ 3001 ∧ (∀ t ∈ ts, t.text.length ≤ 3000) ∧ ∃ xs, joinF (ts.map ofTok) = some xs ∧ (Lib.join xs [32]).length ≤ 6000 ∧
      (∃ us, lexT (Lib.join xs [32]) = .ok us ∧ us.map Tok.key = ts.map Tok.key) ∧
      (∀ k, k ≤ ts.length → (blks n (ts.take k) 0).length ≤ 20000) ∧ (∃ us, lexT (blk5 (n % 5) ++ blks n ts 0) = .ok us ∧ us.map Tok.key = ts.map Tok.key) := by
  rw [lexT_S hq] at h
  obtain ⟨ts', l', c', rfl, h1, h2, h3⟩ := lexS_real q 1 1 ts h
  have hsum : ((ts' ++ [(⟨0, [], 0, l', c'⟩ : Tok)]).map fun t => t.text.length).sum = (ts'.map fun t => t.text.length).sum := by simp
  have hlen : ∀ t ∈ ts', t.text.length ≤ 3000 := fun t ht => by have := len_le_sum ht; omega
  refine ⟨by simp, by simp; omega, ?_, ts'.map Tok.text, joinF_real l' c' ts' h1 (fun t ht => by have := hlen t ht; omega), ?_, ?_, ?_, ?_⟩
  · intro t ht
    rcases List.mem_append.1 ht with ht | ht
    · exact hlen t ht
    · simp at ht; subst ht; simp
  · have := join_sum (ts'.map Tok.text)
    rw [List.map_map, List.length_map] at this
    have e : (ts'.map (List.length ∘ Tok.text)).sum = (ts'.map fun t => t.text.length).sum := rfl
    omega
  · obtain ⟨us, l2, c2, h4, h5⟩ := join_lex ts' h1
    have := join_sum (ts'.map Tok.text)
    rw [List.map_map, List.length_map] at this
    have e : (ts'.map (List.length ∘ Tok.text)).sum = (ts'.map fun t => t.text.length).sum := rfl
    refine ⟨_, by rw [lexT, if_neg (by omega)]; exact h4, by rw [List.map_append, List.map_append, h5]; rfl⟩
  · intro k hk
    have h4 := blks_len n ((ts' ++ [(⟨0, [], 0, l', c'⟩ : Tok)]).take k) 0
    have h5 : (((ts' ++ [(⟨0, [], 0, l', c'⟩ : Tok)]).take k).map fun t => t.text.length).sum ≤ ((ts' ++ [(⟨0, [], 0, l', c'⟩ : Tok)]).map fun t => t.text.length).sum := by
      generalize (ts' ++ [(⟨0, [], 0, l', c'⟩ : Tok)]) = z
      conv => rhs; rw [← List.take_append_drop k z]
      rw [List.map_append, List.sum_append]
      omega
    rw [List.length_take] at h4
    simp only [List.length_append, List.length_singleton] at h4 hk
    omega
  · obtain ⟨us, l2, c2, h4, h5⟩ := blks_lex n ts' h1 l' c'
    have h6 := blks_len n (ts' ++ [(⟨0, [], 0, l', c'⟩ : Tok)]) 0
    have h7 := blk5_len (n % 5)
    rw [hsum] at h6
    simp only [List.length_append, List.length_singleton] at h6
    refine ⟨_, by rw [lexT, if_neg (by rw [List.length_append]; omega)]; exact h4, by rw [List.map_append, List.map_append, h5]; rfl⟩
end Go.Proofs.YtkhbpebpljdifaaDoor
