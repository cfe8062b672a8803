/- Texts merged, in build order: FmP3, FmB, FmP4, FmP5, FmQ, FmP6, Z1, Z2, Fm33, Lx, One, Fm32, Nu, Fm41, Fm43, Fm44. -/
import Derived.Test.YtkhbpebpljdifaaGreatDoorMFod
namespace Go.Proofs.YtkhbpebpljdifaaGreatDoor
open Go.PL
def argB : Bool → List (List UInt8) → List (Bool × Tok)
  | _, [] => []
  | b, [x] => [(b, idT x)]
  | b, x :: y :: r => (b, idT x) :: (false, puT 44) :: argB true (y :: r)
theorem argB_snd : ∀ (ys : List (List UInt8)) (b : Bool), (argB b ys).map Prod.snd = argT ys
  | [], _ => rfl
  | [x], _ => rfl
  | x :: y :: r, b => by simp [argB, argT, argB_snd (y :: r) true]
def conW (op : Int) : List UInt8 := opWd (op - 12).toNat
def quW (op : Int) : List UInt8 := if op = 16 then [115, 111, 109, 101] else [101, 118, 101, 114, 121]
mutual
def fullB : Bool → Nd → List (Bool × Tok)
  | b, .mk op names so n m l =>
    if op = 0 then [(b, kyT [116, 114, 117, 101])]
    else if op = 1 then [(b, kyT [102, 97, 108, 115, 101])]
    else if op < 7 then [(b, idT (names.getD 0 [])), (true, relT (op - 2).toNat), (true, idT (names.getD 1 []))]
    else if op = 7 then [(b, idT (names.getD 0 [])), (true, kyT [105, 115]), (true, nmT n)]
    else if op = 8 then [(b, kyT [115, 105, 122, 101]), (true, idT (names.getD 0 [])), (true, kyT [109, 111, 100]), (true, nmT m), (true, kyT [105, 115]), (true, nmT n)]
    else if op = 9 then [(b, kyT [111, 110, 101]), (true, idT (names.getD 0 []))]
    else if op = 10 then (b, idT (names.getD 0 [])) :: (false, puT 40) :: (argB false names.tail ++ [(false, puT 41)])
    else if op = 11 then (b, kyT [110, 111, 116]) :: (true, puT 40) :: ((fullsB false l).getD 0 [] ++ [(false, puT 41)])
    else if op < 16 then (b, puT 40) :: ((fullsB false l).getD 0 [] ++ (false, puT 41) :: (true, kyT (conW op)) :: (true, puT 40) :: ((fullsB false l).getD 1 [] ++ [(false, puT 41)]))
    else (b, kyT (quW op)) :: (true, kyT (sortWords.getD so.toNat [])) :: (true, idT (names.getD 0 [])) :: (false, puT 58) :: (fullsB true l).getD 0 []
def fullsB : Bool → List Nd → List (List (Bool × Tok))
  | _, [] => []
  | b, x :: xs => fullB b x :: fullsB b xs
end
def spB (L : List (Bool × Tok)) : List UInt8 := L.flatMap fun p => (if p.1 then [32] else []) ++ p.2.text
theorem spB_append (a b : List (Bool × Tok)) : spB (a ++ b) = spB a ++ spB b := by simp [spB]
theorem spB_cons (b : Bool) (t : Tok) (r : List (Bool × Tok)) : spB ((b, t) :: r) = (if b then [32] else []) ++ (t.text ++ spB r) := by simp [spB]
def fullG (n : Nd) : List UInt8 := spB (fullB false n)
mutual
def okF : Nd → Prop
  | .mk op names so n m l => (∀ x ∈ names, Real 1 x 0) ∧ (
     ((op = 0 ∨ op = 1) ∧ names = [] ∧ l = [] ∧ so = 0 ∧ n = 0 ∧ m = 0) ∨
     (2 ≤ op ∧ op < 7 ∧ names.length = 2 ∧ l = [] ∧ so = 0 ∧ n = 0 ∧ m = 0) ∨
     (op = 7 ∧ names.length = 1 ∧ l = [] ∧ so = 0 ∧ 0 ≤ n ∧ n ≤ 7 ∧ m = 0) ∨
     (op = 8 ∧ names.length = 1 ∧ l = [] ∧ so = 0 ∧ 0 ≤ n ∧ n < m ∧ m ≤ 64) ∨
     (op = 9 ∧ names.length = 1 ∧ l = [] ∧ so = 0 ∧ n = 0 ∧ m = 0) ∨
     (op = 10 ∧ 1 ≤ names.length ∧ names.length ≤ 17 ∧ l = [] ∧ so = 0 ∧ n = 0 ∧ m = 0) ∨
     (op = 11 ∧ names = [] ∧ l.length = 1 ∧ so = 0 ∧ n = 0 ∧ m = 0) ∨
     (12 ≤ op ∧ op < 16 ∧ names = [] ∧ l.length = 2 ∧ so = 0 ∧ n = 0 ∧ m = 0) ∨
     (16 ≤ op ∧ op < 18 ∧ names.length = 1 ∧ l.length = 1 ∧ 0 ≤ so ∧ so < 4 ∧ n = 0 ∧ m = 0)) ∧ oksF l
def oksF : List Nd → Prop
  | [] => True
  | x :: xs => okF x ∧ oksF xs
end
def EndK (t : Tok) : Prop := t.key = (0, [], 0) ∨ t.key = (puT 41).key
theorem sizeF_ne (n : Nd) : 0 < sizeF n := by cases n; simp [sizeF]; omega
set_option maxRecDepth 10000 in
theorem reads_full : ∀ (k : Nat) (nd : Nd), sizeF nd ≤ k → okF nd → ∀ (l : List Tok) (b : Bool) (D d i : Nat) (t : Tok) (rest : List Tok), d + D = 257 → D + 2 * depthF nd ≤ 258 → l.drop i = (fullB b nd).map Prod.snd ++ t :: rest → EndK t →
    ∃ j, ReadsD (formulaP l (operandP l d)) D i j nd ∧ l.drop j = t :: rest
  | 0, nd, hn, _, _, _, _, _, _, _, _, _, _, _, _ => by have := sizeF_ne nd; omega
  | k + 1, .mk op names so n m ls, hn, hok, l, b, D, d, i, t, rest, hd, hD, h, ht => by
    have hl1 : 1 ≤ l.length := by
      rcases Nat.eq_zero_or_pos l.length with h0 | h0
      · rw [List.length_eq_zero_iff.1 h0] at h; simp at h
      · exact h0
    have hfin : ∀ {j : Nat}, l.drop j = t :: rest → SepD l j 4 := fun hj => sep_end (dropT_at hj).1 ht
    unfold okF at hok
    obtain ⟨hnm, hc, hs⟩ := hok
    unfold fullB at h
    unfold sizeF at hn
    unfold depthF at hD
    obtain ⟨d, rfl⟩ : ∃ d', d = d' + 1 := ⟨d - 1, by omega⟩
    rcases hc with ⟨h1 | h1, rfl, rfl, rfl, rfl, rfl⟩ | ⟨h1, h2, h3, rfl, rfl, rfl, rfl⟩ | ⟨rfl, h3, rfl, rfl, h4, h5, rfl⟩ | ⟨rfl, h3, rfl, rfl, h4, h5, h6⟩ | ⟨rfl, h3, rfl, rfl, rfl, rfl⟩ | ⟨rfl, h3, h4, rfl, rfl, rfl, rfl⟩ | ⟨rfl, rfl, h3, rfl, rfl, rfl⟩ | ⟨h1, h2, rfl, h3, rfl, rfl, rfl⟩ | ⟨h1, h2, h3, h4, h5, h6, rfl, rfl⟩
    · subst h1
      rw [if_pos rfl] at h
      obtain ⟨a0, h⟩ := dropT_at h
      exact ⟨_, formula_none (operand_true a0) (hfin h), h⟩
    · subst h1
      rw [if_neg (by decide), if_pos rfl] at h
      obtain ⟨a0, h⟩ := dropT_at h
      exact ⟨_, formula_none (operand_false a0) (hfin h), h⟩
    · match names, h3 with
      | [x, y], _ =>
        obtain ⟨k, rfl⟩ : ∃ k : Nat, op = 2 + k := ⟨(op - 2).toNat, by omega⟩
        rw [if_neg (by omega), if_neg (by omega), if_pos h2, show ((2 : Int) + k - 2).toNat = k by omega] at h
        obtain ⟨a0, h⟩ := dropT_at h
        obtain ⟨a1, h⟩ := dropT_at h
        obtain ⟨a2, h⟩ := dropT_at h
        exact ⟨_, formula_none (operand_two (by omega) a0 a1 a2) (hfin h), h⟩
    · match names, h3 with
      | [x], _ =>
        rw [if_neg (by decide), if_neg (by decide), if_neg (by decide), if_pos rfl] at h
        obtain ⟨a0, h⟩ := dropT_at h
        obtain ⟨a1, h⟩ := dropT_at h
        obtain ⟨a2, h⟩ := dropT_at h
        exact ⟨_, formula_none (operand_is h4 h5 a0 a1 a2) (hfin h), h⟩
    · match names, h3 with
      | [x], _ =>
        rw [if_neg (by decide), if_neg (by decide), if_neg (by decide), if_neg (by decide), if_pos rfl] at h
        obtain ⟨a0, h⟩ := dropT_at h
        obtain ⟨a1, h⟩ := dropT_at h
        obtain ⟨a2, h⟩ := dropT_at h
        obtain ⟨a3, h⟩ := dropT_at h
        obtain ⟨a4, h⟩ := dropT_at h
        obtain ⟨a5, h⟩ := dropT_at h
        exact ⟨_, formula_none (operand_size h4 h5 h6 a0 a1 a2 a3 a4 a5) (hfin h), h⟩
    · match names, h3 with
      | [x], _ =>
        rw [if_neg (by decide), if_neg (by decide), if_neg (by decide), if_neg (by decide), if_neg (by decide), if_pos rfl] at h
        obtain ⟨a0, h⟩ := dropT_at h
        obtain ⟨a1, h⟩ := dropT_at h
        exact ⟨_, formula_none (operand_one a0 a1) (hfin h), h⟩
    · match names, h3 with
      | f :: ys, _ =>
        rw [if_neg (by decide), if_neg (by decide), if_neg (by decide), if_neg (by decide), if_neg (by decide), if_neg (by decide), if_pos rfl] at h
        simp only [List.map_cons, List.map_append, argB_snd, List.tail_cons, List.getD_cons_zero, List.map_nil, List.cons_append, List.append_assoc, List.nil_append] at h
        obtain ⟨hr, h⟩ := operand_call (D := D) (d := d) (by simpa using h4) h
        exact ⟨_, formula_none hr (hfin h), h⟩
    · match ls, h3 with
      | [a], _ =>
        rw [if_neg (by decide), if_neg (by decide), if_neg (by decide), if_neg (by decide), if_neg (by decide), if_neg (by decide), if_neg (by decide), if_pos rfl] at h
        simp only [List.map_cons, List.map_append, fullsB, List.getD_cons_zero, List.map_nil, List.cons_append, List.append_assoc, List.nil_append] at h
        simp only [sizesF] at hn
        simp only [depthsF] at hD
        unfold oksF at hs
        have := sizeF_ne a
        have hda : 1 ≤ depthF a := by cases a; simp [depthF]
        obtain ⟨a0, h⟩ := dropT_at h
        obtain ⟨a1, h⟩ := dropT_at h
        obtain ⟨d, rfl⟩ : ∃ d', d = d' + 1 := ⟨d - 1, by omega⟩
        obtain ⟨j, hr, hj⟩ := reads_full k a (by omega) hs.1 l false (D + 2) d (i + 1 + 1) (puT 41) (t :: rest) (by omega) (by omega) h (Or.inr rfl)
        obtain ⟨a2, hj'⟩ := dropT_at hj
        exact ⟨_, formula_none (operand_not a0 (by omega) (operand_paren a1 (by omega) hr a2)) (hfin hj'), hj'⟩
    · match ls, h3 with
      | [a, c], _ =>
        obtain ⟨e, rfl⟩ : ∃ e : Nat, op = 12 + e := ⟨(op - 12).toNat, by omega⟩
        rw [if_neg (by omega), if_neg (by omega), if_neg (by omega), if_neg (by omega), if_neg (by omega), if_neg (by omega), if_neg (by omega), if_neg (by omega), if_pos h2] at h
        simp only [List.map_cons, List.map_append, fullsB, List.getD_cons_zero, List.getD_cons_succ, List.map_nil, List.cons_append, List.append_assoc, List.nil_append, conW, show ((12 : Int) + e - 12).toNat = e by omega] at h
        simp only [sizesF] at hn
        simp only [depthsF] at hD
        unfold oksF oksF at hs
        have := sizeF_ne a
        have := sizeF_ne c
        have hda : 1 ≤ depthF a := by cases a; simp [depthF]
        obtain ⟨a0, h⟩ := dropT_at h
        obtain ⟨j, hr, hj⟩ := reads_full k a (by omega) hs.1 l false (D + 1) d (i + 1) (puT 41) _ (by omega) (by omega) h (Or.inr rfl)
        obtain ⟨a1, hj⟩ := dropT_at hj
        obtain ⟨a2, hj⟩ := dropT_at hj
        obtain ⟨a3, hj⟩ := dropT_at hj
        obtain ⟨j2, hr2, hj2⟩ := reads_full k c (by omega) hs.2.1 l false (D + 1) d (j + 1 + 1 + 1) (puT 41) (t :: rest) (by omega) (by omega) hj (Or.inr rfl)
        obtain ⟨a4, hj3⟩ := dropT_at hj2
        exact ⟨_, formula_one e (by omega) (operand_paren a0 (by omega) hr a1) (sep_op (by omega) a2) (operand_paren a3 (by omega) hr2 a4) (hfin hj3) hl1, hj3⟩
    · match ls, h4, names, h3 with
      | [a], _, [x], _ =>
        obtain ⟨s, rfl⟩ : ∃ s : Nat, so = s := ⟨so.toNat, by omega⟩
        rw [if_neg (by omega), if_neg (by omega), if_neg (by omega), if_neg (by omega), if_neg (by omega), if_neg (by omega), if_neg (by omega), if_neg (by omega), if_neg (by omega)] at h
        simp only [List.map_cons, fullsB, List.getD_cons_zero, List.cons_append] at h
        simp only [sizesF] at hn
        simp only [depthsF] at hD
        unfold oksF at hs
        have := sizeF_ne a
        have hda : 1 ≤ depthF a := by cases a; simp [depthF]
        obtain ⟨a0, h⟩ := dropT_at h
        obtain ⟨a1, h⟩ := dropT_at h
        obtain ⟨a2, h⟩ := dropT_at h
        obtain ⟨a3, h⟩ := dropT_at h
        obtain ⟨j, hr, hj⟩ := reads_full k a (by omega) hs.1 l true (D + 1) d (i + 1 + 1 + 1 + 1) t rest (by omega) (by omega) h ht
        have hop : op = 16 ∨ op = 17 := by omega
        rcases hop with rfl | rfl
        · exact ⟨_, formula_none (operand_some (by omega) (by omega) a0 a1 a2 a3 hr) (hfin hj), hj⟩
        · exact ⟨_, formula_none (operand_every (by omega) (by omega) a0 a1 a2 a3 hr) (hfin hj), hj⟩
def Ahead (l c l' c' : Nat) : Prop := l < l' ∨ (l = l' ∧ c < c')
def NotBehind (l c l' c' : Nat) : Prop := l < l' ∨ (l = l' ∧ c ≤ c')
theorem lexS_places (s : List UInt8) (l c : Nat) (ts : List Tok) (h : lexS s l c = .ok ts) : (∀ t ∈ ts, NotBehind l c t.line t.col) ∧ ts.Pairwise fun a b => Ahead a.line a.col b.line b.col := by
  refine lex_ind (M := fun s l c R => ∀ ts, R = .ok ts → (∀ t ∈ ts, NotBehind l c t.line t.col) ∧ ts.Pairwise fun a b => Ahead a.line a.col b.line b.col) ?_ ?_ ?_ ?_ ?_ ?_ ?_ s.length s (Nat.le_refl _) l c ts h
  · intro l c ts h
    cases h
    exact ⟨fun t ht => by simp at ht; subst ht; exact Or.inr ⟨rfl, Nat.le_refl _⟩, by simp⟩
  · intro x s l c h hb ih ts he
    obtain ⟨h1, h2⟩ := ih ts he
    exact ⟨fun t ht => by have := h1 t ht; unfold NotBehind at this ⊢; omega, h2⟩
  · intro x s l c hb h ih ts he
    obtain ⟨h1, h2⟩ := ih ts he
    exact ⟨fun t ht => by have := h1 t ht; unfold NotBehind at this ⊢; omega, h2⟩
  · intro x s l c hm ih ts he
    generalize lexS s l (c + 1) = R at ih he
    cases R with
    | error e => cases he
    | ok us =>
      cases he
      obtain ⟨h1, h2⟩ := ih _ rfl
      refine ⟨fun t ht => ?_, List.pairwise_cons.2 ⟨fun t ht => ?_, h2⟩⟩
      · rcases List.mem_cons.1 ht with rfl | ht
        · exact Or.inr ⟨rfl, Nat.le_refl _⟩
        · have := h1 t ht; unfold NotBehind at this ⊢; omega
      · have := h1 t ht; unfold NotBehind at this; unfold Ahead; simp only; omega
  · intro r s l c k v hn hr hs hc ih ts he
    generalize lexS s l (c + r.length) = R at ih he
    have hl : 0 < r.length := List.length_pos_iff.2 hn
    cases R with
    | error e => cases he
    | ok us =>
      cases he
      obtain ⟨h1, h2⟩ := ih _ rfl
      refine ⟨fun t ht => ?_, List.pairwise_cons.2 ⟨fun t ht => ?_, h2⟩⟩
      · rcases List.mem_cons.1 ht with rfl | ht
        · exact Or.inr ⟨rfl, Nat.le_refl _⟩
        · have := h1 t ht; unfold NotBehind at this ⊢; omega
      · have := h1 t ht; unfold NotBehind at this; unfold Ahead; simp only; omega
  · intro r s l c e hn hr hs hc ts he
    cases he
  · intro x s l c hb hm hi ts he
    cases he
theorem fin_of {ts : List Tok} {l c : Nat} (_h : ∀ t ∈ ts, Real t.kind t.text t.val) : Fin (ts ++ [⟨0, [], 0, l, c⟩]) := by
  intro i t hi hk
  by_cases hlt : i < ts.length
  · simp; omega
  · rw [List.getElem?_append_right (by omega)] at hi
    cases hd : i - ts.length with
    | zero =>
      rw [hd] at hi
      simp at hi
      subst hi
      exact absurd rfl hk
    | succ m =>
      rw [hd] at hi
      simp at hi
theorem lexT_fin {s : List UInt8} {ts : List Tok} (h : lexT s = .ok ts) : Fin ts ∧ 0 < ts.length ∧ ts.length ≤ s.length + 1 ∧ s.length ≤ 65536 ∧ (ts.map fun t => t.text.length).sum ≤ s.length ∧ (∀ t ∈ ts, 1 ≤ t.line) ∧ (ts.Pairwise fun a b => Ahead a.line a.col b.line b.col) := by
  unfold lexT at h
  split at h
  · cases h
  · obtain ⟨ts', l', c', rfl, h1, h2, h3⟩ := lexS_real s 1 1 ts h
    obtain ⟨p1, p2⟩ := lexS_places s 1 1 _ h
    refine ⟨fin_of h1, by simp, by simp; omega, by omega, by simpa using h2, fun t ht => ?_, p2⟩
    have := p1 t ht
    unfold NotBehind at this
    omega
def glue : Bool → List (Bool × Tok) → Bool
  | _, [] => true
  | pm, (b, t) :: r => (b || pm || decide (t.kind = 4)) && glue (decide (t.kind = 4)) r
theorem glue_true : ∀ (L : List (Bool × Tok)), glue false L = true → glue true L = true
  | [], _ => rfl
  | (b, t) :: r, h => by
    simp only [glue, Bool.or_false, Bool.and_eq_true, Bool.or_true, Bool.true_or] at h ⊢
    exact ⟨trivial, h.2⟩
theorem glue_any {L : List (Bool × Tok)} (h : glue false L = true) : ∀ pm, glue pm L = true
  | false => h
  | true => glue_true L h
theorem glue_app : ∀ (a c : List (Bool × Tok)) (pm : Bool), glue pm a = true → glue false c = true → glue pm (a ++ c) = true
  | [], c, pm, _, hc => glue_any hc pm
  | (b, t) :: r, c, pm, h, hc => by
    simp only [glue, List.cons_append, Bool.and_eq_true] at h ⊢
    exact ⟨h.1, glue_app r c _ h.2 hc⟩
theorem glue_argB : ∀ (ys : List (List UInt8)), glue true (argB false ys) = true ∧ glue true (argB true ys) = true
  | [] => ⟨rfl, rfl⟩
  | [x] => ⟨rfl, rfl⟩
  | x :: y :: r => by
    have := (glue_argB (y :: r)).2
    simp only [argB, glue, idT, puT]
    exact ⟨by simpa using this, by simpa using this⟩
theorem glue_full : ∀ (k : Nat) (nd : Nd), sizeF nd ≤ k → okF nd → ∀ b, glue (!b) (fullB b nd) = true
  | 0, nd, hn, _, _ => by have := sizeF_ne nd; omega
  | k + 1, .mk op names so n m ls, hn, hok, b => by
    have hb : (b || !b) = true := by cases b <;> rfl
    have g41 : glue false [(false, puT 41)] = true := rfl
    unfold okF at hok
    obtain ⟨hnm, hc, hs⟩ := hok
    unfold fullB
    unfold sizeF at hn
    have hfull : ∀ (x : Nd), x ∈ ls → ∀ b, glue (!b) (fullB b x) = true := by
      intro x hx b
      have h1 : ∀ (l : List Nd), x ∈ l → sizeF x ≤ sizesF l ∧ (oksF l → okF x) := by
        intro l
        induction l with
        | nil => intro h; cases h
        | cons a l ih =>
          intro h
          simp only [sizesF]
          unfold oksF
          rcases List.mem_cons.1 h with rfl | h
          · exact ⟨by omega, fun h => h.1⟩
          · have := ih h
            exact ⟨by omega, fun h => this.2 h.2⟩
      exact glue_full k x (by have := (h1 ls hx).1; omega) ((h1 ls hx).2 hs) b
    have hget : ∀ (b : Bool) (l : List Nd) (i : Nat), (∀ x ∈ l, ∀ b, glue (!b) (fullB b x) = true) → glue (!b) ((fullsB b l).getD i []) = true := by
      intro b l
      induction l with
      | nil => intro i _; simp [fullsB, glue]
      | cons a l ih =>
        intro i h
        cases i with
        | zero => simpa [fullsB] using h a (by simp) b
        | succ i => simpa [fullsB] using ih i (fun x hx => h x (by simp [hx]))
    have f0 := hget false ls 0 hfull
    have f1 := hget false ls 1 hfull
    have t0 := hget true ls 0 hfull
    simp only [Bool.not_false, Bool.not_true] at f0 f1 t0
    split
    · simp [glue, hb]
    · split
      · simp [glue, hb]
      · split
        · simp [glue, hb]
        · split
          · simp [glue, hb]
          · split
            · simp [glue, hb]
            · split
              · simp [glue, hb]
              · split
                · simp only [glue, hb, Bool.true_and, puT, decide_true, Bool.or_true]
                  exact glue_app _ _ _ (glue_argB _).1 g41
                · split
                  · simp only [glue, hb, Bool.true_and, puT, decide_true, Bool.or_true, Bool.true_or]
                    exact glue_app _ _ _ f0 g41
                  · split
                    · simp only [glue, hb, Bool.true_and, puT, decide_true, Bool.or_true]
                      refine glue_app _ _ _ f0 ?_
                      simp only [glue, Bool.true_and, decide_true, Bool.or_true, Bool.true_or]
                      exact glue_app _ _ _ f1 g41
                    · simp only [glue, hb, Bool.true_and, puT, decide_true, Bool.or_true, Bool.true_or]
                      exact glue_true _ t0
theorem mark_of {t : Tok} (h : Real t.kind t.text t.val) (hk : t.kind = 4) : ∃ x, t.text = [x] ∧ lxMark x = true ∧ t.val = 0 := by
  rcases h with ⟨x, h1, h2, -, h4⟩ | ⟨-, -, h3⟩
  · exact ⟨x, h1, h2, h4⟩
  · rcases classify_kind h3 with h | h | h <;> omega
theorem lexS_glue : ∀ (L : List (Bool × Tok)) (pm : Bool) (l c : Nat), (∀ p ∈ L, Real p.2.kind p.2.text p.2.val) → glue pm L = true →
    ∃ us l' c', lexS (spB L) l c = .ok (us ++ [⟨0, [], 0, l', c'⟩]) ∧ us.map Tok.key = L.map fun p => p.2.key
  | [], _, l, c, _, _ => ⟨[], l, c, by simp [spB, lexS_nil], rfl⟩
  | (b, t) :: r, pm, l, c, hr, hg => by
    have hreal := hr (b, t) (by simp)
    simp only at hreal
    simp only [glue, Bool.and_eq_true] at hg
    rw [spB_cons]
    obtain ⟨l1, c1, h1⟩ := lexS_ws (if b then [32] else []) (t.text ++ spB r) l c (by cases b <;> simp <;> decide)
    rw [h1]
    by_cases hk : t.kind = 4
    · obtain ⟨x, hx, hm, hv⟩ := mark_of hreal hk
      obtain ⟨us, l', c', h2, h3⟩ := lexS_glue r _ l1 (c1 + 1) (fun p hp => hr p (by simp [hp])) hg.2
      refine ⟨⟨4, [x], 0, l1, c1⟩ :: us, l', c', ?_, ?_⟩
      · rw [hx, List.singleton_append, lexS_mark (mark_not hm).2 hm, h2]
        rfl
      · rw [List.map_cons, List.map_cons, h3]
        congr 1
        unfold Tok.key
        simp only [hk, hx, hv]
    · obtain ⟨us, l', c', h2, h3⟩ := lexS_glue r _ l1 (c1 + t.text.length) (fun p hp => hr p (by simp [hp])) hg.2
      refine ⟨⟨t.kind, t.text, t.val, l1, c1⟩ :: us, l', c', ?_, ?_⟩
      · rw [lexS_tok hreal, h2]
        · rfl
        · have hg2 := hg.2
          rw [decide_eq_false hk] at hg2
          match r, hg2, hr with
          | [], _, _ => exact Starts.nil
          | (b2, u) :: r2, hg2, hr =>
            rw [spB_cons]
            cases b2 with
            | true => exact Starts.cons (by decide) _
            | false =>
              simp only [glue, Bool.and_eq_true, Bool.or_false, Bool.false_or, decide_eq_true_eq] at hg2
              obtain ⟨y, hy, hm, -⟩ := mark_of (hr (false, u) (by simp)) hg2.1
              simp only [Bool.false_eq_true, if_false, List.nil_append]
              rw [show u.text = [y] from hy]
              exact Starts.cons (mark_not hm).1 _
      · rw [List.map_cons, List.map_cons, h3]
        rfl
def RealT (t : Tok) : Prop := Real t.kind t.text t.val
theorem real_ky {x : List UInt8} (h : (x.all lxInner && decide (x ≠ []) && (match classify x with | .ok (a, b) => decide (a = 3) && decide (b = 0) | _ => false)) = true) : RealT (kyT x) := by
  simp only [Bool.and_eq_true, decide_eq_true_eq, List.all_eq_true] at h
  refine Or.inr ⟨h.1.2, h.1.1, ?_⟩
  have h2 := h.2
  show classify x = .ok (3, 0)
  split at h2
  · rename_i a b hc
    simp only [Bool.and_eq_true, decide_eq_true_eq] at h2
    rw [hc, h2.1, h2.2]
  · cases h2
theorem real_pu {c : UInt8} (h : lxMark c = true) : RealT (puT c) := Or.inl ⟨c, rfl, h, rfl, rfl⟩
theorem real_nm {n : Int} (h0 : 0 ≤ n) (h1 : n ≤ 64) : RealT (nmT n) := by
  have key : ∀ m : _root_.Fin 65, ((digF 3 m.val).all lxInner && decide (digF 3 m.val ≠ []) && (match classify (digF 3 m.val) with | .ok (a, b) => decide (a = 2) && decide (b = m.val) | _ => false)) = true := by decide
  have h := key ⟨n.toNat, by omega⟩
  simp only [Bool.and_eq_true, decide_eq_true_eq, List.all_eq_true] at h
  refine Or.inr ⟨h.1.2, h.1.1, ?_⟩
  have h2 := h.2
  show classify (digF 3 n.toNat) = .ok (2, n.toNat)
  split at h2
  · rename_i a b hc
    simp only [Bool.and_eq_true, decide_eq_true_eq] at h2
    rw [hc, h2.1, h2.2]
  · cases h2
theorem real_id {x : List UInt8} (h : Real 1 x 0) : RealT (idT x) := h
theorem real_rel (k : Nat) : RealT (relT k) := by
  unfold relT
  split
  · exact real_pu (by decide)
  all_goals exact real_ky (by decide)
theorem real_con (op : Int) : RealT (kyT (conW op)) := by
  unfold conW opWd
  split <;> exact real_ky (by decide)
theorem real_qu (op : Int) : RealT (kyT (quW op)) := by
  unfold quW
  split <;> exact real_ky (by decide)
theorem real_sort {s : Nat} (h : s < 4) : RealT (kyT (sortWords.getD s [])) := by
  have h' : s = 0 ∨ s = 1 ∨ s = 2 ∨ s = 3 := by omega
  rcases h' with rfl | rfl | rfl | rfl <;> exact real_ky (by decide)
def AllR (L : List (Bool × Tok)) : Prop := ∀ p ∈ L, RealT p.2
theorem allR_nil : AllR [] := fun p h => by cases h
theorem allR_cons {b : Bool} {t : Tok} {L : List (Bool × Tok)} (h : RealT t) (hL : AllR L) : AllR ((b, t) :: L) := by
  intro p hp
  rcases List.mem_cons.1 hp with rfl | hp
  · exact h
  · exact hL p hp
theorem allR_app {a c : List (Bool × Tok)} (h : AllR a) (hc : AllR c) : AllR (a ++ c) := by
  intro p hp
  rcases List.mem_append.1 hp with hp | hp
  · exact h p hp
  · exact hc p hp
theorem allR_arg : ∀ (ys : List (List UInt8)) (b : Bool), (∀ y ∈ ys, Real 1 y 0) → AllR (argB b ys)
  | [], _, _ => allR_nil
  | [x], _, h => allR_cons (h x (by simp)) allR_nil
  | x :: y :: r, _, h => allR_cons (h x (by simp)) (allR_cons (real_pu (by decide)) (allR_arg (y :: r) true (fun z hz => h z (List.mem_cons_of_mem _ hz))))
theorem oks_mem {x : Nd} : ∀ {l : List Nd}, x ∈ l → sizeF x ≤ sizesF l ∧ (oksF l → okF x)
  | [], h => by cases h
  | a :: l, h => by
    simp only [sizesF]
    unfold oksF
    rcases List.mem_cons.1 h with rfl | h
    · exact ⟨by omega, fun h => h.1⟩
    · have := oks_mem h
      exact ⟨by omega, fun h => this.2 h.2⟩
theorem allR_full : ∀ (k : Nat) (nd : Nd), sizeF nd ≤ k → okF nd → ∀ b, AllR (fullB b nd)
  | 0, nd, hn, _, _ => by have := sizeF_ne nd; omega
  | k + 1, .mk op names so n m ls, hn, hok, b => by
    unfold okF at hok
    obtain ⟨hnm, hc, hs⟩ := hok
    unfold fullB
    unfold sizeF at hn
    have hget : ∀ (b : Bool) (l : List Nd) (i : Nat), (∀ x ∈ l, x ∈ ls) → AllR ((fullsB b l).getD i []) := by
      intro b l
      induction l with
      | nil => intro i _; simpa [fullsB] using allR_nil
      | cons a l ih =>
        intro i h
        cases i with
        | zero =>
          have ha := oks_mem (h a (by simp))
          simpa [fullsB] using allR_full k a (by omega) (ha.2 hs) b
        | succ i => simpa [fullsB] using ih i (fun x hx => h x (by simp [hx]))
    have hg := fun b i => hget b ls i (fun x hx => hx)
    have h58 : RealT (puT 58) := real_pu (by decide)
    have h40 : RealT (puT 40) := real_pu (by decide)
    have h41 : AllR [(false, puT 41)] := allR_cons (real_pu (by decide)) allR_nil
    rcases hc with ⟨h1 | h1, rfl, rfl, rfl, rfl, rfl⟩ | ⟨h1, h2, h3, rfl, rfl, rfl, rfl⟩ | ⟨rfl, h3, rfl, rfl, h4, h5, rfl⟩ | ⟨rfl, h3, rfl, rfl, h4, h5, h6⟩ | ⟨rfl, h3, rfl, rfl, rfl, rfl⟩ | ⟨rfl, h3, h4, rfl, rfl, rfl, rfl⟩ | ⟨rfl, rfl, h3, rfl, rfl, rfl⟩ | ⟨h1, h2, rfl, h3, rfl, rfl, rfl⟩ | ⟨h1, h2, h3, h4, h5, h6, rfl, rfl⟩
    · subst h1
      rw [if_pos rfl]
      exact allR_cons (real_ky (by decide)) allR_nil
    · subst h1
      rw [if_neg (by decide), if_pos rfl]
      exact allR_cons (real_ky (by decide)) allR_nil
    · match names, h3 with
      | [x, y], _ =>
        rw [if_neg (by omega), if_neg (by omega), if_pos h2]
        exact allR_cons (real_id (hnm x (by simp))) (allR_cons (real_rel _) (allR_cons (real_id (hnm y (by simp))) allR_nil))
    · match names, h3 with
      | [x], _ =>
        rw [if_neg (by decide), if_neg (by decide), if_neg (by decide), if_pos rfl]
        exact allR_cons (real_id (hnm x (by simp))) (allR_cons (real_ky (by decide)) (allR_cons (real_nm h4 (by omega)) allR_nil))
    · match names, h3 with
      | [x], _ =>
        rw [if_neg (by decide), if_neg (by decide), if_neg (by decide), if_neg (by decide), if_pos rfl]
        exact allR_cons (real_ky (by decide)) (allR_cons (real_id (hnm x (by simp))) (allR_cons (real_ky (by decide)) (allR_cons (real_nm (by omega) (by omega)) (allR_cons (real_ky (by decide)) (allR_cons (real_nm h4 (by omega)) allR_nil)))))
    · match names, h3 with
      | [x], _ =>
        rw [if_neg (by decide), if_neg (by decide), if_neg (by decide), if_neg (by decide), if_neg (by decide), if_pos rfl]
        exact allR_cons (real_ky (by decide)) (allR_cons (real_id (hnm x (by simp))) allR_nil)
    · match names, h3 with
      | f :: ys, _ =>
        rw [if_neg (by decide), if_neg (by decide), if_neg (by decide), if_neg (by decide), if_neg (by decide), if_neg (by decide), if_pos rfl]
        exact allR_cons (real_id (hnm f (by simp))) (allR_cons h40 (allR_app (allR_arg ys _ (fun y hy => hnm y (by simp [hy]))) h41))
    · rw [if_neg (by decide), if_neg (by decide), if_neg (by decide), if_neg (by decide), if_neg (by decide), if_neg (by decide), if_neg (by decide), if_pos rfl]
      exact allR_cons (real_ky (by decide)) (allR_cons h40 (allR_app (hg _ _) h41))
    · rw [if_neg (by omega), if_neg (by omega), if_neg (by omega), if_neg (by omega), if_neg (by omega), if_neg (by omega), if_neg (by omega), if_neg (by omega), if_pos h2]
      exact allR_cons h40 (allR_app (hg _ _) (allR_cons (real_pu (by decide)) (allR_cons (real_con _) (allR_cons h40 (allR_app (hg _ _) h41)))))
    · match names, h3 with
      | [x], _ =>
        rw [if_neg (by omega), if_neg (by omega), if_neg (by omega), if_neg (by omega), if_neg (by omega), if_neg (by omega), if_neg (by omega), if_neg (by omega), if_neg (by omega)]
        exact allR_cons (real_qu _) (allR_cons (real_sort (by omega)) (allR_cons (real_id (hnm x (by simp))) (allR_cons h58 (hg _ _))))
theorem lex_text {L : List (Bool × Tok)} (hr : AllR L) (hg : glue true L = true) (hl : (spB L).length ≤ 65536) : ∃ ts, lexT (spB L) = .ok ts ∧ Alike (L.map Prod.snd ++ [⟨0, [], 0, 0, 0⟩]) ts := by
  obtain ⟨us, l', c', h1, h2⟩ := lexS_glue L true 1 1 hr hg
  refine ⟨_, by rw [lexT, if_neg (by omega)]; exact h1, ?_⟩
  unfold Alike
  rw [List.map_append, List.map_append, h2, List.map_map]
  rfl
theorem whole_full {nd : Nd} (hok : okF nd) (hd : depthF nd ≤ 129) {l : List Tok} {i : Nat} {b : Bool} (h : l.drop i = (fullB b nd).map Prod.snd ++ [⟨0, [], 0, 0, 0⟩]) : wholeP l ⟨i, 0, 0⟩ = some (nd, ⟨l.length - 1, 0, 0⟩) := by
  obtain ⟨j, hr, hj⟩ := reads_full _ nd (Nat.le_refl _) hok l b 0 257 i ⟨0, [], 0, 0, 0⟩ [] rfl (by omega) h (Or.inl rfl)
  have hlen := congrArg List.length hj
  simp only [List.length_drop, List.length_cons, List.length_nil] at hlen
  have : j = l.length - 1 := by omega
  rw [← this]
  exact hr
theorem endF_done {l : List Tok} {q : Qn} {i : Nat} (h : (tkAt l ⟨i, 0, 0⟩).kind = 0) (hg : greatF q.body = 0) : endF l q ⟨i, 0, 0⟩ = ⟨q, 0, 0, 0⟩ := by
  unfold endF
  simp only [h, if_true, hg]
def hasF (op : Int) : Nat × Nat × Nat :=
  if op < 2 then (0, 0, 0) else if op < 7 then (2, 2, 0) else if op < 10 then (1, 1, 0) else if op = 10 then (1, 17, 0) else if op = 11 then (0, 0, 1) else if op < 16 then (0, 0, 2) else (1, 1, 1)
def kindBad (op : Int) : Bool := decide (op < 0) || decide (17 < op)
def shapeBad (op : Int) (names len : Nat) : Bool := decide (names < (hasF op).1) || decide ((hasF op).2.1 < names) || decide (len ≠ (hasF op).2.2)
def zeroBad (op so n m : Int) : Bool := (decide (op ≠ 7) && decide (op ≠ 8) && decide (n ≠ 0)) || (decide (op ≠ 8) && decide (m ≠ 0)) || (decide (op < 16) && decide (so ≠ 0))
def rangeBad (op so n m : Int) : Bool := (decide (op = 7) && (decide (n < 0) || decide (7 < n))) || (decide (op = 8) && (decide (m < 1) || decide (64 < m) || decide (n < 0) || decide (m ≤ n))) || decide (so < 0) || decide (3 < so)
mutual
def formF (nm : List UInt8 → Bool) : Nd → Nat
  | .mk op names so n m l => if kindBad op then 11 else if shapeBad op names.length l.length then 3 else if (names.all nm) = false then 3 else if zeroBad op so n m then 3 else if rangeBad op so n m then 2 else formsF nm l
def formsF (nm : List UInt8 → Bool) : List Nd → Nat
  | [] => 0
  | x :: xs => if formF nm x ≠ 0 then formF nm x else formsF nm xs
end
def checkF (nm : List UInt8 → Bool) (n : Nd) : Nat := if formF nm n ≠ 0 then formF nm n else greatF n
theorem form_ok {nm : List UInt8 → Bool} (hnm : ∀ x, nm x = true → Real 1 x 0) : ∀ (k : Nat) (nd : Nd), sizeF nd ≤ k → formF nm nd = 0 → okF nd
  | 0, nd, hn, _ => by have := sizeF_ne nd; omega
  | k + 1, .mk op names so n m ls, hn, h => by
    unfold formF at h
    unfold sizeF at hn
    unfold okF
    by_cases h1 : kindBad op = true
    · rw [if_pos h1] at h; cases h
    rw [if_neg h1] at h
    by_cases h2 : shapeBad op names.length ls.length = true
    · rw [if_pos h2] at h; cases h
    rw [if_neg h2] at h
    by_cases h3 : names.all nm = false
    · rw [if_pos h3] at h; cases h
    rw [if_neg h3] at h
    by_cases h4 : zeroBad op so n m = true
    · rw [if_pos h4] at h; cases h
    rw [if_neg h4] at h
    by_cases h5 : rangeBad op so n m = true
    · rw [if_pos h5] at h; cases h
    rw [if_neg h5] at h
    have hks : ∀ (l : List Nd), sizesF l ≤ k → formsF nm l = 0 → oksF l := by
      intro l
      induction l with
      | nil => intro _ _; unfold oksF; trivial
      | cons a l ih =>
        intro hl hf
        unfold formsF at hf
        simp only [sizesF] at hl
        unfold oksF
        by_cases ha : formF nm a = 0
        · rw [ha] at hf
          exact ⟨form_ok hnm k a (by omega) ha, ih (by omega) (by simpa using hf)⟩
        · rw [if_pos ha] at hf
          exact absurd hf ha
    refine ⟨fun x hx => hnm x ?_, ?_, hks ls (by omega) h⟩
    · have h3' : names.all nm = true := by simpa using h3
      exact List.all_eq_true.1 h3' x hx
    · simp only [kindBad, shapeBad, zeroBad, rangeBad, Bool.or_eq_true, Bool.and_eq_true, decide_eq_true_eq, not_or, not_and] at h1 h2 h4 h5
      unfold hasF at h2
      have nil_of : ∀ {α : Type} {l : List α}, ¬ l.length ≠ 0 → l = [] := fun h => List.length_eq_zero_iff.1 (by omega)
      by_cases g1 : op < 2
      · rw [if_pos g1] at h2
        simp only at h2
        exact Or.inl ⟨by omega, nil_of (by omega), nil_of (by omega), by omega, by omega, by omega⟩
      rw [if_neg g1] at h2
      by_cases g2 : op < 7
      · rw [if_pos g2] at h2
        simp only at h2
        exact Or.inr (Or.inl ⟨by omega, g2, by omega, nil_of (by omega), by omega, by omega, by omega⟩)
      rw [if_neg g2] at h2
      by_cases g3 : op < 10
      · rw [if_pos g3] at h2
        simp only at h2
        have hl := nil_of (l := ls) (by omega)
        have hop : op = 7 ∨ op = 8 ∨ op = 9 := by omega
        rcases hop with rfl | rfl | rfl
        · exact Or.inr (Or.inr (Or.inl ⟨rfl, by omega, hl, by omega, by omega, by omega, by omega⟩))
        · exact Or.inr (Or.inr (Or.inr (Or.inl ⟨rfl, by omega, hl, by omega, by omega, by omega, by omega⟩)))
        · exact Or.inr (Or.inr (Or.inr (Or.inr (Or.inl ⟨rfl, by omega, hl, by omega, by omega, by omega⟩))))
      rw [if_neg g3] at h2
      by_cases g4 : op = 10
      · rw [if_pos g4] at h2
        simp only at h2
        exact Or.inr (Or.inr (Or.inr (Or.inr (Or.inr (Or.inl ⟨g4, by omega, by omega, nil_of (by omega), by omega, by omega, by omega⟩)))))
      rw [if_neg g4] at h2
      by_cases g5 : op = 11
      · rw [if_pos g5] at h2
        simp only at h2
        exact Or.inr (Or.inr (Or.inr (Or.inr (Or.inr (Or.inr (Or.inl ⟨g5, nil_of (by omega), by omega, by omega, by omega, by omega⟩))))))
      rw [if_neg g5] at h2
      by_cases g6 : op < 16
      · rw [if_pos g6] at h2
        simp only at h2
        exact Or.inr (Or.inr (Or.inr (Or.inr (Or.inr (Or.inr (Or.inr (Or.inl ⟨by omega, g6, nil_of (by omega), by omega, by omega, by omega, by omega⟩)))))))
      rw [if_neg g6] at h2
      simp only at h2
      exact Or.inr (Or.inr (Or.inr (Or.inr (Or.inr (Or.inr (Or.inr (Or.inr ⟨by omega, by omega, by omega, by omega, by omega, by omega, by omega, by omega⟩)))))))
def varB : List (List UInt8 × Int) → List (Bool × Tok)
  | [] => []
  | [v] => [(true, kyT (sortWords.getD v.2.toNat [])), (true, idT v.1)]
  | v :: u :: r => (true, kyT (sortWords.getD v.2.toNat [])) :: (true, idT v.1) :: (false, puT 44) :: varB (u :: r)
def freeB : List (List UInt8 × Int) → List (Bool × Tok)
  | [] => []
  | v :: r => (false, kyT [102, 105, 110, 100]) :: (varB (v :: r) ++ [(false, puT 58)])
def okV (f : List (List UInt8 × Int)) : Prop := f.length ≤ 8 ∧ (∀ v ∈ f, Real 1 v.1 0 ∧ 0 ≤ v.2 ∧ v.2 < 4) ∧ f.Pairwise fun a b => a.1 ≠ b.1
theorem varLoop_reads {l : List Tok} : ∀ (f : List (List UInt8 × Int)) (out : List (List UInt8 × Int)) (k i : Nat) (rest : List Tok), f ≠ [] → okV (out ++ f) → f.length ≤ k → l.drop i = (varB f).map Prod.snd ++ puT 58 :: rest →
    ∃ j, freeLoop l k out ⟨i, 0, 0⟩ = some (out ++ f, ⟨j, 0, 0⟩) ∧ l.drop j = rest
  | [], _, _, _, _, h, _, _, _ => absurd rfl h
  | v :: r, out, 0, _, _, _, _, h, _ => by simp at h
  | v :: r, out, k + 1, i, rest, _, hok, hk, h => by
    obtain ⟨h8, hv, hp⟩ := hok
    have hv0 := hv v (by simp)
    obtain ⟨x, s⟩ := v
    obtain ⟨s, rfl⟩ : ∃ t : Nat, s = t := ⟨s.toNat, by have := hv0.2.1; simp only at this; omega⟩
    have hs4 : s < 4 := by have := hv0.2.2; simp only at this; omega
    have hne : (out.any fun o => decide (o.1 = x)) = false := by
      rw [List.any_eq_false]
      intro o ho
      have := (List.pairwise_append.1 hp).2.2 o ho (x, (s : Int)) (by simp)
      simpa using this
    have hout : out.length ≠ 8 := by simp at h8; omega
    have head : ∃ (t : Tok) (us : List Tok), l.drop i = kyT (sortWords.getD s []) :: idT x :: t :: us ∧ ((r = [] ∧ t = puT 58 ∧ us = rest) ∨ (r ≠ [] ∧ t = puT 44 ∧ us = (varB r).map Prod.snd ++ puT 58 :: rest)) := by
      cases r with
      | nil => exact ⟨_, _, h, Or.inl ⟨rfl, rfl, rfl⟩⟩
      | cons u r => exact ⟨_, _, h, Or.inr ⟨by simp, rfl, rfl⟩⟩
    obtain ⟨t, us, h, hcase⟩ := head
    obtain ⟨a0, h0⟩ := dropT_at h
    obtain ⟨a1, h1⟩ := dropT_at h0
    obtain ⟨a2, h2⟩ := dropT_at h1
    have step : freeLoop l (k + 1) out ⟨i, 0, 0⟩ = if isF l [44] ⟨i + 1 + 1, 0, 0⟩ = true then freeLoop l k (out ++ [(x, (s : Int))]) (stepF ⟨i + 1 + 1, 0, 0⟩) else some (out ++ [(x, (s : Int))], needF l [58] ⟨i + 1 + 1, 0, 0⟩) := by
      have hs2 : (if (tkAt l ⟨i + 1, 0, 0⟩).kind = 1 then (if out.length = 8 then wrongF 8 ⟨i + 1, 0, 0⟩ else if (out.any fun o => decide (o.1 = (tkAt l ⟨i + 1, 0, 0⟩).text)) = true then wrongF 7 ⟨i + 1, 0, 0⟩ else ⟨i + 1, 0, 0⟩) else ⟨i + 1, 0, 0⟩) = (⟨i + 1, 0, 0⟩ : PS) := by
        rw [tkAt_of a1]
        have : (out.any fun o => decide (o.1 = (idT x).text)) = false := hne
        rw [this]
        simp [hout]
      simp only [freeLoop, if_true]
      rw [sort_tok hs4 a0]
      simp only
      rw [hs2, ident_tok a1]
    rw [step, is_tok a2]
    rcases hcase with ⟨rfl, rfl, rfl⟩ | ⟨hr, rfl, rfl⟩
    · refine ⟨i + 1 + 1 + 1, ?_, h2⟩
      rw [if_neg (by simp [puT]), need_tok (x := [58]) a2 (Or.inr rfl) rfl]
    · rw [if_pos (by simp [puT])]
      have e0 : stepF ⟨i + 1 + 1, 0, 0⟩ = ⟨i + 1 + 1 + 1, 0, 0⟩ := rfl
      rw [e0]
      obtain ⟨j, h1, h2⟩ := varLoop_reads r (out ++ [(x, (s : Int))]) k (i + 1 + 1 + 1) rest hr (by rw [List.append_assoc]; exact ⟨h8, hv, hp⟩) (by simpa using hk) h2
      exact ⟨j, by rw [h1, List.append_assoc]; rfl, h2⟩
theorem varB_len : ∀ (f : List (List UInt8 × Int)), f.length ≤ (varB f).length
  | [] => by simp
  | [v] => by simp [varB]
  | v :: u :: r => by have := varB_len (u :: r); simp only [varB, List.length_cons] at this ⊢; omega
theorem freeP_reads {l : List Tok} {f : List (List UInt8 × Int)} {rest : List Tok} (hok : okV f) (h : l = (freeB f).map Prod.snd ++ rest) (hno : f = [] → isF l [102, 105, 110, 100] ⟨0, 0, 0⟩ = false) : ∃ j, freeP l ⟨0, 0, 0⟩ = some (f, ⟨j, 0, 0⟩) ∧ l.drop j = rest := by
  cases f with
  | nil =>
    refine ⟨0, ?_, h⟩
    unfold freeP
    rw [hno rfl]
    rfl
  | cons v r =>
    have hd : l.drop 0 = kyT [102, 105, 110, 100] :: ((varB (v :: r)).map Prod.snd ++ puT 58 :: rest) := by rw [List.drop_zero, h]; simp [freeB]
    obtain ⟨a0, hd⟩ := dropT_at hd
    have hlen : (v :: r).length ≤ l.length + 1 := by
      have h1 := varB_len (v :: r)
      rw [h]
      simp only [freeB, List.map_cons, List.map_append, List.length_append, List.length_cons, List.length_map]
      simp only [List.length_cons] at h1
      omega
    obtain ⟨j, h1, h2⟩ := varLoop_reads (v :: r) [] (l.length + 1) 1 rest (by simp) (by simpa using hok) hlen hd
    refine ⟨j, ?_, h2⟩
    unfold freeP
    rw [is_tok a0, if_pos (by simp [kyT])]
    exact h1
def questB (q : Qn) : List (Bool × Tok) := freeB q.free ++ fullB (!q.free.isEmpty) q.body
theorem allR_var : ∀ (f : List (List UInt8 × Int)), (∀ v ∈ f, Real 1 v.1 0 ∧ 0 ≤ v.2 ∧ v.2 < 4) → AllR (varB f)
  | [], _ => allR_nil
  | [v], h => by
    have h0 := h v (by simp)
    exact allR_cons (real_sort (by omega)) (allR_cons (real_id h0.1) allR_nil)
  | v :: u :: r, h => by
    have h0 := h v (by simp)
    exact allR_cons (real_sort (by omega)) (allR_cons (real_id h0.1) (allR_cons (real_pu (by decide)) (allR_var (u :: r) (fun w hw => h w (List.mem_cons_of_mem _ hw)))))
theorem glue_var : ∀ (f : List (List UInt8 × Int)), glue false (varB f) = true
  | [] => rfl
  | [v] => rfl
  | v :: u :: r => by
    have := glue_true _ (glue_var (u :: r))
    simp only [varB, glue, kyT, idT, puT]
    simpa using this
theorem quest_ok {q : Qn} (hv : okV q.free) (hb : okF q.body) : AllR (questB q) ∧ glue true (questB q) = true := by
  unfold questB
  have hg := glue_full _ q.body (Nat.le_refl _) hb (!q.free.isEmpty)
  have hr := allR_full _ q.body (Nat.le_refl _) hb (!q.free.isEmpty)
  cases hf : q.free with
  | nil =>
    rw [hf] at hg hr
    exact ⟨hr, hg⟩
  | cons v r =>
    rw [hf] at hg hr
    have h1 := allR_var (v :: r) (by rw [← hf]; exact hv.2.1)
    have h2 := glue_var (v :: r)
    refine ⟨?_, ?_⟩
    · unfold freeB
      exact allR_cons (real_ky (by decide)) (allR_app (allR_app h1 (allR_cons (real_pu (by decide)) allR_nil)) hr)
    · unfold freeB
      rw [List.cons_append, List.append_assoc]
      simp only [glue, Bool.or_true, Bool.true_and, Bool.true_or, kyT]
      refine glue_app _ _ _ h2 ?_
      simp only [List.singleton_append, glue, puT, Bool.or_true, decide_true, Bool.true_and]
      exact glue_true _ hg
def headOk (b : Bool) (L : List (Bool × Tok)) : Prop := ∃ t r, L = (b, t) :: r ∧ (t.text ≠ [102, 105, 110, 100] ∨ t.kind = 1)
theorem headOk.mk {b : Bool} {t : Tok} {r : List (Bool × Tok)} (h : t.text ≠ [102, 105, 110, 100] ∨ t.kind = 1) : headOk b ((b, t) :: r) := ⟨t, r, rfl, h⟩
theorem fullB_head (nd : Nd) (b : Bool) : headOk b (fullB b nd) := by
  obtain ⟨op, names, so, n, m, l⟩ := nd
  unfold fullB
  by_cases h0 : op = 0
  · rw [if_pos h0]; exact .mk (Or.inl (by simp [kyT]))
  by_cases h1 : op = 1
  · rw [if_neg h0, if_pos h1]; exact .mk (Or.inl (by simp [kyT]))
  by_cases h2 : op < 7
  · rw [if_neg h0, if_neg h1, if_pos h2]; exact .mk (Or.inr rfl)
  by_cases h3 : op = 7
  · rw [if_neg h0, if_neg h1, if_neg h2, if_pos h3]; exact .mk (Or.inr rfl)
  by_cases h4 : op = 8
  · rw [if_neg h0, if_neg h1, if_neg h2, if_neg h3, if_pos h4]; exact .mk (Or.inl (by simp [kyT]))
  by_cases h5 : op = 9
  · rw [if_neg h0, if_neg h1, if_neg h2, if_neg h3, if_neg h4, if_pos h5]; exact .mk (Or.inl (by simp [kyT]))
  by_cases h6 : op = 10
  · rw [if_neg h0, if_neg h1, if_neg h2, if_neg h3, if_neg h4, if_neg h5, if_pos h6]; exact .mk (Or.inr rfl)
  by_cases h7 : op = 11
  · rw [if_neg h0, if_neg h1, if_neg h2, if_neg h3, if_neg h4, if_neg h5, if_neg h6, if_pos h7]; exact .mk (Or.inl (by simp [kyT]))
  by_cases h8 : op < 16
  · rw [if_neg h0, if_neg h1, if_neg h2, if_neg h3, if_neg h4, if_neg h5, if_neg h6, if_neg h7, if_pos h8]; exact .mk (Or.inl (by simp [puT]))
  · rw [if_neg h0, if_neg h1, if_neg h2, if_neg h3, if_neg h4, if_neg h5, if_neg h6, if_neg h7, if_neg h8]
    refine .mk (Or.inl ?_)
    simp only [kyT, quW]
    by_cases h9 : op = 16
    · rw [if_pos h9]; decide
    · rw [if_neg h9]; decide
theorem no_find {l : List Tok} {t : Tok} {r : List Tok} (h : l = t :: r) (ht : t.text ≠ [102, 105, 110, 100] ∨ t.kind = 1) : isF l [102, 105, 110, 100] ⟨0, 0, 0⟩ = false := by
  rw [is_tok (t := t) (by rw [h]; rfl)]
  rcases ht with ht | ht
  · simp [ht]
  · simp [ht]
theorem quest_parse {q : Qn} (hv : okV q.free) (hb : okF q.body) (hd : depthF q.body ≤ 129) {l : List Tok} (hl : Alike ((questB q).map Prod.snd ++ [⟨0, [], 0, 0, 0⟩]) l) : queryP l = some (q, ⟨l.length - 1, 0, 0⟩) := by
  have hlen := al_len hl
  rw [← al_query hl]
  obtain ⟨t0, r0, hh, ht0⟩ := fullB_head q.body (!q.free.isEmpty)
  obtain ⟨j, h1, h2⟩ := freeP_reads (l := (questB q).map Prod.snd ++ [⟨0, [], 0, 0, 0⟩]) (rest := (fullB (!q.free.isEmpty) q.body).map Prod.snd ++ [⟨0, [], 0, 0, 0⟩]) hv (by unfold questB; rw [List.map_append, List.append_assoc]) (fun h0 => by
    refine no_find (t := t0) (r := r0.map Prod.snd ++ [⟨0, [], 0, 0, 0⟩]) ?_ ht0
    unfold questB
    rw [hh, h0]
    rfl)
  unfold queryP
  rw [h1, Option.bind_some]
  simp only
  rw [whole_full hb hd h2, ← hlen]
  rfl
theorem quest_end {q : Qn} {l : List Tok} (hl : Alike ((questB q).map Prod.snd ++ [⟨0, [], 0, 0, 0⟩]) l) (hg : greatF q.body = 0) : endF l q ⟨l.length - 1, 0, 0⟩ = ⟨q, 0, 0, 0⟩ := by
  refine endF_done ?_ hg
  have hlen := al_len hl
  rw [← al_kind hl, ← hlen]
  rw [tkAt_of (t := ⟨0, [], 0, 0, 0⟩) (by simp)]
end Go.Proofs.YtkhbpebpljdifaaGreatDoor
namespace Go.Proofs.YtkhbpebpljdifaaGreatDoor
open Go.RowKit Go.PL Go.Maps
set_option maxRecDepth 100000 in
set_option maxHeartbeats 6400000 in
theorem count_calls : ∀ (k : Nat) (nd : Nd), sizeF nd ≤ k → k ≤ 10000000 → ∀ (v : Value) (w : World) (P : Nat → Prop), NdV w P nd v → Calls Tryz.prog 36 #[v] w fun e w' => e = .returned (.int .i64 (sizeF nd)) ∧ Upto [] w w'
  | 0, nd, hk, _, _, _, _, _ => by have := sizeF_pos nd; omega
  | k + 1, .mk op nms so nn mm l, hk, hk7, v, w, P, h => by
    obtain ⟨a1, c1, a2, c2, rfl, -, hg⟩ := h.open
    have HG := Lib.hid hg
    have hsz : sizesF l ≤ k := by simp only [sizeF] at hk; omega
    have HSZ := Lib.hid hsz
    have HE : Hid (sizeF (.mk op nms so nn mm l) = 1 + sizesF l) := Lib.hid (by simp only [sizeF])
    have HLEN : Hid (l.length ≤ 10000000) := Lib.hid (by have := sizes_len l; omega)
    have hlen := HLEN.out
    have hu1 : Upto [] w (w.alloc (.cells #[.int .i64 op, .slice a1 nms.length c1, .int .i64 so, .int .i64 nn, .int .i64 mm, .slice a2 l.length c2] 25)) := (Upto.refl [] w).alloc _
    have HB1 := Lib.hid (new_at w (.cells #[.int .i64 op, .slice a1 nms.length c1, .int .i64 so, .int .i64 nn, .int .i64 mm, .slice a2 l.length c2] 25))
    have HU1 := Lib.hid hu1
    generalize hll : l.length = ll at *
    have HLL := Lib.hid hll
    have hL0 : (0 : Int) ≤ ll := by omega
    have hL1 : (ll : Int) ≤ 10000000 := by omega
    clear h hg hsz hll hlen hk hu1
    go_enter Tryz.func36, Tryz.ntmps36
    go_wp2_with fail
    go_loopw [3, 4] (fun s i wr => ∃ j : Nat, j ≤ ll ∧ i = .int .i64 j ∧ s = .int .i64 (1 + (sizesF (l.take j) : Int)) ∧ Hid (Upto [] (w.alloc (.cells #[.int .i64 op, .slice a1 nms.length c1, .int .i64 so, .int .i64 nn, .int .i64 mm, .slice a2 ll c2] 25)) wr)) (fun _ i _ => ll - (intOf i).toNat)
    case atStart => exact ⟨0, by omega, rfl, by simp [sizesF], Lib.hid (Upto.refl _ _)⟩
    case round =>
      obtain ⟨j, hj, rfl, rfl, HU⟩ := hrel
      have hb := HU.out.at HB1.out (by simp)
      have y5 := cell_of hb 5
      simp only [List.getElem?_toArray, List.getElem?_cons_zero, List.getElem?_cons_succ] at y5
      rcases Nat.lt_or_ge j ll with hlt | hge
      · obtain ⟨x, hx⟩ : ∃ x, l[j]? = some x := ⟨_, List.getElem?_eq_getElem (by have := HLL.out; omega)⟩
        obtain ⟨g, o, xo, xn1, xn2, xn3, xs, xm, xq, xl1, xl2, xl3, rfl, d0, d1, d2, d3, d4, d5, hnx⟩ := HG.out j x hx
        have hw := HU1.out.trans_ext HU.out
        replace d0 := up_cell hw d0
        replace d1 := up_cell hw d1
        replace d2 := up_cell hw d2
        replace d3 := up_cell hw d3
        replace d4 := up_cell hw d4
        replace d5 := up_cell hw d5
        have hst := sizesF_take l j x hx
        have HST := Lib.hid hst
        have HXX := Lib.hid hx
        have HC := Lib.hid (count_calls k x (by have := HSZ.out; omega) (by omega) _ wr P (hnx.ext hw))
        have hltI : (j : Int) < ll := by omega
        have hj0 : (0 : Int) ≤ j := by omega
        have hb1 := HSZ.out
        have hb2 := sizeF_pos x
        have hb3 := depth_le_size x
        have hb4 := depths_le_sizes (l.take j)
        generalize hA : sizesF (l.take j) = A at *
        generalize hB : sizeF x = B at *
        have hA0 : (0 : Int) ≤ A := by omega
        have hA1 : (A : Int) ≤ 10000000 := by omega
        have hB0 : (0 : Int) ≤ B := by omega
        have hB1 : (B : Int) ≤ 10000000 := by omega
        have HAB := Lib.hid (And.intro hA hB)
        clear hst hnx hx hb1 hb2 hb3 hb4 hA hB hb hw
        go_wp2_with fail
        refine HC.out.mono ?_
        rintro e w5 ⟨rfl, hu5⟩
        have HU5 := Lib.hid (HU.out.trans_ext hu5)
        clear hu5
        go_wp2_with fail
        go_roundw
        case rel => exact ⟨j + 1, by omega, by go_num, by rw [HST.out.1]; congr 1; omega, HU5⟩
        case measure => simp [intOf]; omega
      · obtain rfl : j = ll := by omega
        have hgeI : ¬ (j : Int) < j := by omega
        have HT : Hid (l.take j = l) := Lib.hid (by rw [← HLL.out, List.take_length])
        rw [HT.out]
        have hq1 := HSZ.out
        have hq2 := depths_le_sizes l
        generalize hA : sizesF l = A at *
        have hA0 : (0 : Int) ≤ A := by omega
        have hA1 : (A : Int) ≤ 10000000 := by omega
        have HUF := Lib.hid (HU1.out.trans_ext HU.out)
        clear hq1 hq2 hA hb
        go_wp2
        go_ret
        exact ⟨by rw [HE.out]; exact ret_int (by omega), HUF.out⟩
set_option maxRecDepth 100000 in
set_option maxHeartbeats 6400000 in
theorem deep_calls : ∀ (k : Nat) (nd : Nd), sizeF nd ≤ k → k ≤ 10000000 → ∀ (v : Value) (w : World) (P : Nat → Prop), NdV w P nd v → Calls Tryz.prog 19 #[v] w fun e w' => e = .returned (.int .i64 (depthF nd)) ∧ Upto [] w w'
  | 0, nd, hk, _, _, _, _, _ => by have := sizeF_pos nd; omega
  | k + 1, .mk op nms so nn mm l, hk, hk7, v, w, P, h => by
    obtain ⟨a1, c1, a2, c2, rfl, -, hg⟩ := h.open
    have HG := Lib.hid hg
    have hsz : sizesF l ≤ k := by simp only [sizeF] at hk; omega
    have HSZ := Lib.hid hsz
    have HE : Hid (depthF (.mk op nms so nn mm l) = depthsF l + 1) := Lib.hid (by simp only [depthF])
    have HLEN : Hid (l.length ≤ 10000000) := Lib.hid (by have := sizes_len l; omega)
    have hlen := HLEN.out
    have hu1 : Upto [] w (w.alloc (.cells #[.int .i64 op, .slice a1 nms.length c1, .int .i64 so, .int .i64 nn, .int .i64 mm, .slice a2 l.length c2] 25)) := (Upto.refl [] w).alloc _
    have HB1 := Lib.hid (new_at w (.cells #[.int .i64 op, .slice a1 nms.length c1, .int .i64 so, .int .i64 nn, .int .i64 mm, .slice a2 l.length c2] 25))
    have HU1 := Lib.hid hu1
    generalize hll : l.length = ll at *
    have HLL := Lib.hid hll
    have hL0 : (0 : Int) ≤ ll := by omega
    have hL1 : (ll : Int) ≤ 10000000 := by omega
    clear h hg hsz hll hlen hk hu1
    go_enter Tryz.func19, Tryz.ntmps19
    go_wp2_with fail
    go_loopw [3, 4] (fun s i wr => ∃ j : Nat, j ≤ ll ∧ i = .int .i64 j ∧ s = .int .i64 ((depthsF (l.take j) : Int)) ∧ Hid (Upto [] (w.alloc (.cells #[.int .i64 op, .slice a1 nms.length c1, .int .i64 so, .int .i64 nn, .int .i64 mm, .slice a2 ll c2] 25)) wr)) (fun _ i _ => ll - (intOf i).toNat)
    case atStart => exact ⟨0, by omega, rfl, by simp [depthsF], Lib.hid (Upto.refl _ _)⟩
    case round =>
      obtain ⟨j, hj, rfl, rfl, HU⟩ := hrel
      have hb := HU.out.at HB1.out (by simp)
      have y5 := cell_of hb 5
      simp only [List.getElem?_toArray, List.getElem?_cons_zero, List.getElem?_cons_succ] at y5
      rcases Nat.lt_or_ge j ll with hlt | hge
      · obtain ⟨x, hx⟩ : ∃ x, l[j]? = some x := ⟨_, List.getElem?_eq_getElem (by have := HLL.out; omega)⟩
        obtain ⟨g, o, xo, xn1, xn2, xn3, xs, xm, xq, xl1, xl2, xl3, rfl, d0, d1, d2, d3, d4, d5, hnx⟩ := HG.out j x hx
        have hw := HU1.out.trans_ext HU.out
        replace d0 := up_cell hw d0
        replace d1 := up_cell hw d1
        replace d2 := up_cell hw d2
        replace d3 := up_cell hw d3
        replace d4 := up_cell hw d4
        replace d5 := up_cell hw d5
        have hst := sizesF_take l j x hx
        have HST := Lib.hid hst
        have HXX := Lib.hid hx
        have HC := Lib.hid (deep_calls k x (by have := HSZ.out; omega) (by omega) _ wr P (hnx.ext hw))
        have hltI : (j : Int) < ll := by omega
        have hj0 : (0 : Int) ≤ j := by omega
        have hb1 := HSZ.out
        have hb2 := sizeF_pos x
        have hb3 := depth_le_size x
        have hb4 := depths_le_sizes (l.take j)
        generalize hA : depthsF (l.take j) = A at *
        generalize hB : depthF x = B at *
        have hA0 : (0 : Int) ≤ A := by omega
        have hA1 : (A : Int) ≤ 10000000 := by omega
        have hB0 : (0 : Int) ≤ B := by omega
        have hB1 : (B : Int) ≤ 10000000 := by omega
        have HAB := Lib.hid (And.intro hA hB)
        clear hst hnx hx hb1 hb2 hb3 hb4 hA hB hb hw
        have HMX : Hid (depthsF (l.take (j + 1)) = max A B) := Lib.hid (by rw [depthsF_take l j x HXX.out, HAB.out.1, HAB.out.2])
        rcases Nat.lt_or_ge A B with hab | hab
        · have habI : (A : Int) < B := by omega
          have hmx : max (A : Int) B = B := by omega
          go_wp2_with fail
          refine HC.out.mono ?_
          rintro e w5 ⟨rfl, hu5⟩
          have HU5 := Lib.hid (HU.out.trans_ext hu5)
          clear hu5
          go_wp2_with fail
          go_roundw
          case rel => exact ⟨j + 1, by omega, by go_num, by rw [HMX.out]; first | rfl | (congr 1; omega), HU5⟩
          case measure => simp [intOf]; omega
        · have habI : (B : Int) ≤ A := by omega
          have hmx : max (A : Int) B = A := by omega
          go_wp2_with fail
          refine HC.out.mono ?_
          rintro e w5 ⟨rfl, hu5⟩
          have HU5 := Lib.hid (HU.out.trans_ext hu5)
          clear hu5
          go_wp2_with fail
          go_roundw
          case rel => exact ⟨j + 1, by omega, by go_num, by rw [HMX.out]; first | rfl | (congr 1; omega), HU5⟩
          case measure => simp [intOf]; omega
      · obtain rfl : j = ll := by omega
        have hgeI : ¬ (j : Int) < j := by omega
        have HT : Hid (l.take j = l) := Lib.hid (by rw [← HLL.out, List.take_length])
        rw [HT.out]
        have hq1 := HSZ.out
        have hq2 := depths_le_sizes l
        generalize hA : depthsF l = A at *
        have hA0 : (0 : Int) ≤ A := by omega
        have hA1 : (A : Int) ≤ 10000000 := by omega
        have HUF := Lib.hid (HU1.out.trans_ext HU.out)
        clear hq1 hq2 hA hb
        go_wp2
        go_ret
        exact ⟨by rw [HE.out]; exact ret_int (by omega), HUF.out⟩
mutual
def namedF : Nd → Bool
  | .mk _ names _ _ _ l => decide (names.length ≤ 20) && names.all (fun x => decide (x.length ≤ 30)) && namedsF l
def namedsF : List Nd → Bool
  | [] => true
  | x :: xs => namedF x && namedsF xs
end
theorem namedsF_all : ∀ (l : List Nd), namedsF l = true ↔ ∀ x ∈ l, namedF x = true
  | [] => by simp [namedsF]
  | x :: xs => by unfold namedsF; simp [namedsF_all xs]
def smallF (n : Nd) : Bool := decide (sizeF n ≤ 300) && decide (depthF n ≤ 60) && namedF n
set_option maxRecDepth 100000 in
set_option maxHeartbeats 6400000 in
theorem named_calls : ∀ (k : Nat) (nd : Nd), sizeF nd ≤ k → bigN nd → k ≤ 10000000 → ∀ (v : Value) (w : World) (P : Nat → Prop), NdV w P nd v → Calls Tryz.prog 52 #[v] w fun e w' => e = .returned (.bool (namedF nd)) ∧ Upto [] w w'
  | 0, nd, hk, _, _, _, _, _, _ => by have := sizeF_pos nd; omega
  | k + 1, .mk op nms so nn mm l, hk, hbg, hk7, v, w, P, h => by
    obtain ⟨a1, c1, a2, c2, rfl, hs, hg⟩ := h.open
    unfold bigN at hbg
    have HG := Lib.hid hg
    obtain ⟨a1', c1', ev, hnm⟩ := hs.get
    obtain ⟨rfl, rfl⟩ : a1 = a1' ∧ c1 = c1' := by simpa using ev
    have HN : Hid (∀ i x, nms[i]? = some x → ∃ g o, a1 = some ⟨g, o, none⟩ ∧ w.cell? ⟨g, o + i, none⟩ = some (.string ⟨x.toArray⟩)) := Lib.hid (fun i x hi => hnm i _ (by rw [List.getElem?_map, hi]; rfl))
    have hsz : sizesF l ≤ k := by simp only [sizeF] at hk; omega
    have HSZ := Lib.hid hsz
    have HBG := Lib.hid hbg.2
    have HLEN : Hid (l.length ≤ 10000000) := Lib.hid (by have := sizes_len l; omega)
    have hlen := HLEN.out
    have hnl := hbg.1
    have hu1 : Upto [] w (w.alloc (.cells #[.int .i64 op, .slice a1 nms.length c1, .int .i64 so, .int .i64 nn, .int .i64 mm, .slice a2 l.length c2] 25)) := (Upto.refl [] w).alloc _
    have HB1 := Lib.hid (new_at w (.cells #[.int .i64 op, .slice a1 nms.length c1, .int .i64 so, .int .i64 nn, .int .i64 mm, .slice a2 l.length c2] 25))
    have HU1 := Lib.hid hu1
    have hL0 : (0 : Int) ≤ l.length := by omega
    have hL1 : (l.length : Int) ≤ 10000000 := by omega
    have hN0 : (0 : Int) ≤ nms.length := by omega
    have hN1 : (nms.length : Int) ≤ 10000000 := by omega
    clear h hs hg hsz hlen hk hu1 hnm ev hbg
    by_cases hq : 20 < nms.length
    · have HF : Hid (namedF (.mk op nms so nn mm l) = false) := Lib.hid (by unfold namedF; simp; omega)
      have hqI : (20 : Int) < nms.length := by omega
      clear hq
      go_enter Tryz.func52, Tryz.ntmps52
      go_wp2_with fail
      go_ret
      rw [HF.out]
      exact ⟨rfl, HU1.out⟩
    have hqI : ¬ (20 : Int) < nms.length := by omega
    have HQ := Lib.hid hq
    clear hq
    go_enter Tryz.func52, Tryz.ntmps52
    go_wp2_with fail
    go_loopw [3] (fun i wr => ∃ j : Nat, j ≤ nms.length ∧ i = .int .i64 j ∧ Hid (∀ q x, q < j → nms[q]? = some x → x.length ≤ 30) ∧ Hid (Upto [] (w.alloc (.cells #[.int .i64 op, .slice a1 nms.length c1, .int .i64 so, .int .i64 nn, .int .i64 mm, .slice a2 l.length c2] 25)) wr)) (fun i _ => nms.length - (intOf i).toNat)
    case atStart => exact ⟨0, by omega, rfl, Lib.hid (fun q x hq => by omega), Lib.hid (Upto.refl _ _)⟩
    case round =>
      obtain ⟨j, hj, rfl, HA, HU⟩ := hrel
      have hj0 : (0 : Int) ≤ j := by omega
      have hb := HU.out.at HB1.out (by simp)
      have y1 := cell_of hb 1
      have y5 := cell_of hb 5
      simp only [List.getElem?_toArray, List.getElem?_cons_zero, List.getElem?_cons_succ] at y1 y5
      rcases Nat.lt_or_ge j nms.length with hlt | hge
      · have hltI : (j : Int) < nms.length := by omega
        obtain ⟨x, hx⟩ : ∃ x, nms[j]? = some x := ⟨_, List.getElem?_eq_getElem hlt⟩
        obtain ⟨g, o, rfl, c0⟩ := HN.out j x hx
        have hw := HU1.out.trans_ext HU.out
        replace c0 := up_cell hw c0
        have hsx : (ByteArray.mk x.toArray).size = x.length := rfl
        have HW := Lib.hid hw
        by_cases hlx : 30 < x.length
        · have hlI : (30 : Int) < x.length := by omega
          have HF : Hid (namedF (.mk op nms so nn mm l) = false) := Lib.hid (by
            unfold namedF
            have : nms.all (fun x => decide (x.length ≤ 30)) = false := by
              rw [Bool.eq_false_iff]
              intro h
              have := List.all_eq_true.1 h x (List.mem_of_getElem? hx)
              simp at this
              omega
            simp [this])
          clear hx hb hw hlx
          go_wp2_with fail
          go_ret
          rw [HF.out]
          exact ⟨rfl, HW.out⟩
        · have hlI : ¬ (30 : Int) < x.length := by omega
          have HA2 : Hid (∀ q x, q < j + 1 → nms[q]? = some x → x.length ≤ 30) := Lib.hid (fun q y hq hy => by
            by_cases hqj : q = j
            · subst hqj
              rw [hx] at hy
              cases hy
              omega
            · exact HA.out q y (by omega) hy)
          clear hx hb hw hlx
          go_wp2_with fail
          go_roundw
          case rel => exact ⟨j + 1, by omega, by go_num, HA2, HU⟩
          case measure => simp [intOf]; omega
      · have hgeI : ¬ (j : Int) < nms.length := by omega
        have HALL : Hid (nms.all (fun x => decide (x.length ≤ 30)) = true) := Lib.hid (by
          rw [List.all_eq_true]
          intro x hx
          obtain ⟨q, hq, rfl⟩ := List.mem_iff_getElem.1 hx
          simpa using HA.out q _ (by omega) (List.getElem?_eq_getElem hq))
        have HB2 := Lib.hid hb
        have HUA := Lib.hid (HU1.out.trans_ext HU.out)
        clear hb HA
        go_wp2_with fail
        go_loopw [4] (fun i wx => ∃ m : Nat, m ≤ l.length ∧ i = .int .i64 m ∧ Hid (∀ q x, q < m → l[q]? = some x → namedF x = true) ∧ Hid (Upto [] wr wx)) (fun i _ => l.length - (intOf i).toNat)
        case atStart => exact ⟨0, by omega, rfl, Lib.hid (fun q x hq => by omega), Lib.hid (Upto.refl _ _)⟩
        case round =>
          clear y1 y5
          obtain ⟨m, hm, rfl, HB9, HV⟩ := hrel
          have hm0 : (0 : Int) ≤ m := by omega
          have hb := HV.out.at HB2.out (by simp)
          have y5 := cell_of hb 5
          simp only [List.getElem?_toArray, List.getElem?_cons_zero, List.getElem?_cons_succ] at y5
          have HW := Lib.hid (HUA.out.trans_ext HV.out)
          rcases Nat.lt_or_ge m l.length with hlt | hge
          · have hltI : (m : Int) < l.length := by omega
            obtain ⟨x, hx⟩ : ∃ x, l[m]? = some x := ⟨_, List.getElem?_eq_getElem hlt⟩
            obtain ⟨g, o, xo, xn1, xn2, xn3, xs, xm, xq, xl1, xl2, xl3, rfl, d0, d1, d2, d3, d4, d5, hnx⟩ := HG.out m x hx
            replace d0 := up_cell HW.out d0
            replace d1 := up_cell HW.out d1
            replace d2 := up_cell HW.out d2
            replace d3 := up_cell HW.out d3
            replace d4 := up_cell HW.out d4
            replace d5 := up_cell HW.out d5
            have HC := Lib.hid (named_calls k x (by have := HSZ.out; have := sizesF_mem (List.mem_of_getElem? hx); omega) (bigs_mem HBG.out (List.mem_of_getElem? hx)) (by omega) _ wr P (hnx.ext HW.out))
            have hbb : namedF x = true ∨ namedF x = false := by cases namedF x <;> simp
            rcases hbb with hb2 | hb2
            · have HA2 : Hid (∀ q x, q < m + 1 → l[q]? = some x → namedF x = true) := Lib.hid (fun q y hq hy => by
                by_cases hqj : q = m
                · subst hqj
                  rw [hx] at hy
                  cases hy
                  exact hb2
                · exact HB9.out q y (by omega) hy)
              rw [hb2] at HC
              clear hx hb hb2 hnx
              go_wp2_with fail
              refine HC.out.mono ?_
              rintro e w5 ⟨rfl, hu5⟩
              have HU5 := Lib.hid (HV.out.trans_ext hu5)
              clear hu5
              go_wp2_with fail
              go_roundw
              case rel => exact ⟨m + 1, by omega, by go_num, HA2, HU5⟩
              case measure => simp [intOf]; omega
            · have HF : Hid (namedF (.mk op nms so nn mm l) = false) := Lib.hid (by
                unfold namedF
                have : namedsF l = false := by
                  rw [Bool.eq_false_iff]
                  intro h
                  rw [namedsF_all] at h
                  rw [h x (List.mem_of_getElem? hx)] at hb2
                  cases hb2
                simp [this])
              rw [hb2] at HC
              clear hx hb hb2 hnx
              go_wp2_with fail
              refine HC.out.mono ?_
              rintro e w5 ⟨rfl, hu5⟩
              have HU5 := Lib.hid (HW.out.trans_ext hu5)
              clear hu5
              go_wp2_with fail
              go_ret
              rw [HF.out]
              exact ⟨rfl, HU5.out⟩
          · have hgeI : ¬ (m : Int) < l.length := by omega
            have HF : Hid (namedF (.mk op nms so nn mm l) = true) := Lib.hid (by
              unfold namedF
              have h2 : namedsF l = true := by
                rw [namedsF_all]
                intro x hx
                obtain ⟨q, hq, rfl⟩ := List.mem_iff_getElem.1 hx
                exact HB9.out q _ (by omega) (List.getElem?_eq_getElem hq)
              have := HQ.out
              rw [HALL.out, h2]
              simp
              omega)
            clear hb
            go_wp2_with fail
            go_ret
            rw [HF.out]
            exact ⟨rfl, HW.out⟩
set_option maxRecDepth 100000 in
set_option maxHeartbeats 6400000 in
theorem small_calls (nd : Nd) (v : Value) (w : World) (P : Nat → Prop) (h : NdV w P nd v) (hk : sizeF nd ≤ 10000000) (hb : bigN nd) : Calls Tryz.prog 17 #[v] w fun e w' => e = .returned (.bool (smallF nd)) ∧ Upto [] w w' := by
  obtain ⟨xo, xn1, xn2, xn3, xs, xm, xq, xl1, xl2, xl3, rfl⟩ := h.six
  have hua : Upto [] w (w.alloc (.cells #[.int .i64 xo, .slice xn1 xn2 xn3, .int .i64 xs, .int .i64 xm, .int .i64 xq, .slice xl1 xl2 xl3] 25)) := (Upto.refl [] w).alloc _
  have HS := Lib.hid (fun u (hu : Upto [] w u) => count_calls _ nd hk (Nat.le_refl _) _ u P (h.ext hu))
  have HD := Lib.hid (fun u (hu : Upto [] w u) => deep_calls _ nd hk (Nat.le_refl _) _ u P (h.ext hu))
  have HM := Lib.hid (fun u (hu : Upto [] w u) => named_calls _ nd hk hb (Nat.le_refl _) _ u P (h.ext hu))
  have HUA := Lib.hid hua
  have HNB := Lib.hid (new_at w (.cells #[.int .i64 xo, .slice xn1 xn2 xn3, .int .i64 xs, .int .i64 xm, .int .i64 xq, .slice xl1 xl2 xl3] 25))
  have hd := depth_le_size nd
  clear h hua hb
  by_cases h1 : 300 < sizeF nd
  · have hI : ¬ (sizeF nd : Int) ≤ 300 := by omega
    have HF : Hid (smallF nd = false) := Lib.hid (by unfold smallF; simp; omega)
    go_enter Tryz.func17, Tryz.ntmps17
    go_wp2_with fail
    refine (HS.out _ HUA.out).mono ?_
    rintro e w5 ⟨rfl, hu5⟩
    have HU5 := Lib.hid (HUA.out.trans_ext hu5)
    clear hu5
    go_wp2_with fail
    go_ret
    rw [HF.out]
    exact ⟨rfl, HU5.out⟩
  have hI : (sizeF nd : Int) ≤ 300 := by omega
  by_cases h2 : 60 < depthF nd
  · have hJ : ¬ (depthF nd : Int) ≤ 60 := by omega
    have HF : Hid (smallF nd = false) := Lib.hid (by unfold smallF; simp; omega)
    go_enter Tryz.func17, Tryz.ntmps17
    go_wp2_with fail
    refine (HS.out _ HUA.out).mono ?_
    rintro e w5 ⟨rfl, hu5⟩
    have HU5 := Lib.hid (HUA.out.trans_ext hu5)
    have HB5 := Lib.hid (hu5.at HNB.out (by simp))
    have hb5 := HB5.out
    obtain ⟨y0, y1, y2, y3, y4, y5⟩ := cells6 hb5
    clear hu5 hb5
    go_wp2_with fail
    refine (HD.out _ HU5.out).mono ?_
    rintro e w6 ⟨rfl, hu6⟩
    have HU6 := Lib.hid (HU5.out.trans_ext hu6)
    clear hu6
    go_wp2_with fail
    go_ret
    rw [HF.out]
    exact ⟨rfl, HU6.out⟩
  have hJ : (depthF nd : Int) ≤ 60 := by omega
  have HF : Hid (smallF nd = namedF nd) := Lib.hid (by
    unfold smallF
    have a : sizeF nd ≤ 300 := by omega
    have b : depthF nd ≤ 60 := by omega
    simp [a, b])
  go_enter Tryz.func17, Tryz.ntmps17
  go_wp2_with fail
  refine (HS.out _ HUA.out).mono ?_
  rintro e w5 ⟨rfl, hu5⟩
  have HU5 := Lib.hid (HUA.out.trans_ext hu5)
  have HB5 := Lib.hid (hu5.at HNB.out (by simp))
  have hb5 := HB5.out
  obtain ⟨y0, y1, y2, y3, y4, y5⟩ := cells6 hb5
  clear hu5 hb5
  go_wp2_with fail
  refine (HD.out _ HU5.out).mono ?_
  rintro e w6 ⟨rfl, hu6⟩
  have HU6 := Lib.hid (HU5.out.trans_ext hu6)
  have hb6 := hu6.at HB5.out (by simp)
  obtain ⟨z0, z1, z2, z3, z4, z5⟩ := cells6 hb6
  clear hu6 hb6
  go_wp2_with fail
  refine (HM.out _ HU6.out).mono ?_
  rintro e w7 ⟨rfl, hu7⟩
  have HU7 := Lib.hid (HU6.out.trans_ext hu7)
  clear hu7
  go_wp2_with fail
  go_ret
  rw [HF.out]
  exact ⟨rfl, HU7.out⟩
theorem opq_apps {P : Program} (w : World) {o : Oper} {ac : Act} {post : Value → World → Prop} (s x : Operand) (t : TypeId) (ho : o.op = .call { callee := .builtin .append, args := #[s, x], argTypes := #[t, t] })
    (e : TypeId) (i : TypeInfo) (z : Value) (bytes : Nat) (ht : P.underlying t = some (.slice e)) (hi : P.info? e = some i) (hz : i.zero = some z)
    (hsize : i.size = 1) (hby : i.bytes = bytes) (hzs : z.cells.size = 1)
    (b : Nat) (hs : ac.eval s = .slice (some ⟨b, 0, none⟩) 0 0)
    (y : Value) (news : List Value) (n : Nat) (hn : news.length = n) (hx : ac.eval x = y) (hnews : SlC w y news)
    (h63 : n ≤ maxLen) (hbytes : n * bytes ≤ 140737488355328)
    (h : ∀ b' c' w', Upto [] w w' → SlP w' (New w) (.slice b' n c') n news → post (.slice b' n c') w') :
    opqUpon P post ((execOp ac.eval o).run P w) := by
  subst hn
  have hzero : news = [] → (∃ a c, y = .slice a 0 c) → opqUpon P post ((execOp ac.eval o).run P w) := by
    rintro rfl ⟨a, c, rfl⟩
    have hr : (Builtin.append_ #[t, t] o.type #[.slice (some ⟨b, 0, none⟩) 0 0, .slice a 0 c]).run P w = .ok (.slice (some ⟨b, 0, none⟩) 0 0) w := by
      cases a <;> simp [Builtin.append_, run_underlying ht, sizeOf, typeInfo, hi, Builtin.lenOf, Builtin.firstCells, loadCells, loadCellsFrom, storeCells]
    simp only [execOp, ho, resolve, invoke, builtin, Sem.run_bind, Sem.run_pure, Result.andThen_ok, List.map_toArray, List.map_cons, List.map_nil, hs, hx, hr]
    exact h _ _ w (Upto.refl _ _) (Or.inl ⟨rfl, rfl, _, _, rfl⟩)
  rcases hnews with ⟨h0, a, c, h2⟩ | ⟨g, off, c, h2, hc⟩
  · exact hzero h0 ⟨a, c, h2⟩
  · cases news with
    | nil => exact hzero rfl ⟨_, _, h2⟩
    | cons u us =>
      obtain ⟨v', w', hr, hrow, hgr⟩ := run_append_arg_grows (P := P) w t o.type e i z 1 bytes ht hi hz hsize hby hzs (by decide) ⟨b, 0, none⟩ 0 0 [] rfl (by simp) ⟨g, off, none⟩ (u :: us).length c (u :: us) (by simp) (fun j u hj => by simpa [Addr.add_lit] using hc j u hj) (by simp) (by simpa using h63) (by simpa using hbytes)
      simp only [execOp, ho, resolve, invoke, builtin, Sem.run_bind, Sem.run_pure, Result.andThen_ok, List.map_toArray, List.map_cons, List.map_nil, hs, hx, h2, hr]
      rcases hrow.2 with ⟨-, h0⟩ | ⟨g', cap, cur, rfl, hge, hh, _, _, _, htk⟩
      · simp at h0
      · rw [Nat.zero_add] at htk ⊢
        refine h _ _ w' ((Upto.refl [] w).grown hgr (fun k e => by cases e)) (Or.inr ⟨g', 0, cap, rfl, ⟨hge, _, _, _, hh⟩, ?_⟩)
        intro j u' hj
        rw [cell_of hh, Nat.zero_add]
        rw [← List.nil_append (u :: us), ← htk, List.getElem?_take] at hj
        split at hj
        · simpa using hj
        · cases hj
theorem SlP.slc {w : World} {P : Nat → Prop} {v : Value} {xs : List Value} (h : SlP w P v xs.length xs) : SlC w v xs := by
  rcases h with ⟨h0, rfl, a, c, rfl⟩ | ⟨g, o, c, rfl, -, hc⟩
  · exact Or.inl ⟨rfl, a, c, by rfl⟩
  · exact Or.inr ⟨g, o, c, rfl, hc⟩
def BkPost (w : World) (nd : Nd) (e : Ending) (w' : World) : Prop := ∃ v, e = .returned v ∧ NdV w' (New w) nd v ∧ Upto [] w w'
structure BkRow (w0 w : World) (B : Nat) (c : Nat → Nat → Value) (v : Value) (ms : List Nd) : Prop where
  row : w.ownsRow 0 25 6 v ms.length (cellsN c ms.length)
  nd : ∀ i m, ms[i]? = some m → NdV w (Lr w0 B v) m (.agg #[c i 0, c i 1, c i 2, c i 3, c i 4, c i 5])
  own : ∀ g, v.ownBlock = some g → w0.heap.size ≤ g ∧ g ≠ B
theorem BkRow.upto {w0 w w' : World} {S : List Nat} {B : Nat} {c : Nat → Nat → Value} {v : Value} {ms : List Nd} (h : BkRow w0 w B c v ms) (hu : Upto S w w') (hS : ∀ k ∈ S, k < w0.heap.size ∨ k = B) : BkRow w0 w' B c v ms :=
  ⟨ownsRow_upto h.row hu (fun g hg hm => by have h1 := h.own g hg; rcases hS g hm with h2 | h2 <;> omega),
   fun i m hi => (h.nd i m hi).upto hu (fun b hb _ hm => by have h1 := hb.1; unfold New at h1; rcases hS b hm with h2 | h2; omega; exact hb.2.1 h2), h.own⟩
theorem BkRow.app {w0 w w5 : World} {B : Nat} {c : Nat → Nat → Value} {v : Value} {ms : List Nd} {m : Nd} {v0 v1 v2 v3 v4 v5 : Value} {b' : Option Addr} {c' : Nat} (h : BkRow w0 w B c v ms) (hsz : w0.heap.size ≤ w.heap.size) (hBw : B < w.heap.size)
    (hm : NdV w (Lr w0 B v) m (.agg #[v0, v1, v2, v3, v4, v5])) (ho : w5.ownsRow 0 25 6 (.slice b' (ms.length + 1) c') (ms.length + 1) (cellsN c ms.length ++ [v0, v1, v2, v3, v4, v5])) (hu : Upto v.ownBlock.toList w w5)
    (hw : ∀ g, (Value.slice b' (ms.length + 1) c').ownBlock = some g → v.ownBlock = some g ∨ w.heap.size ≤ g) : BkRow w0 w5 B (addC c ms.length v0 v1 v2 v3 v4 v5) (.slice b' (ms.length + 1) c') (ms ++ [m]) := by
  have key : ∀ x u, NdV w (Lr w0 B v) x u → NdV w5 (Lr w0 B (.slice b' (ms.length + 1) c')) x u := fun x u hx =>
    NdV.keep ⟨hu.size, fun b hb hl => ⟨⟨hb.1, hb.2.1, fun e => by
      rcases hw b e with h1 | h1
      · exact hb.2.2 h1
      · have := hl.lt; omega⟩, hu.block b hl.lt (fun hmm => hb.2.2 (Option.mem_toList.1 hmm))⟩⟩ x u hx
  refine ⟨?_, ?_, ?_⟩
  · rw [List.length_append, List.length_singleton, cellsN_add]
    exact ho
  · intro i x hi
    by_cases hlt : i < ms.length
    · rw [List.getElem?_append_left hlt] at hi
      have := key _ _ (h.nd i x hi)
      simpa [addC, Nat.ne_of_lt hlt] using this
    · rw [List.getElem?_append_right (by omega)] at hi
      cases hd : i - ms.length with
      | zero =>
        rw [hd] at hi
        simp at hi
        subst hi
        have : i = ms.length := by omega
        subst this
        simpa [addC] using key _ _ hm
      | succ z => rw [hd] at hi; simp at hi
  · intro g hg
    rcases hw g hg with h1 | h1
    · exact h.own g h1
    · exact ⟨by omega, by omega⟩
theorem nds_of {w : World} {P : Nat → Prop} {g : Nat} : ∀ (l : List Nd) (o : Nat), (∀ i x, l[i]? = some x → ∃ v0 v1 v2 v3 v4 v5, w.cell? ⟨g, o + i * 6, none⟩ = some v0 ∧ w.cell? ⟨g, o + i * 6 + 1, none⟩ = some v1 ∧ w.cell? ⟨g, o + i * 6 + 2, none⟩ = some v2 ∧ w.cell? ⟨g, o + i * 6 + 3, none⟩ = some v3 ∧ w.cell? ⟨g, o + i * 6 + 4, none⟩ = some v4 ∧ w.cell? ⟨g, o + i * 6 + 5, none⟩ = some v5 ∧ NdV w P x (.agg #[v0, v1, v2, v3, v4, v5])) → NdsV w P g o l
  | [], _, _ => by unfold NdsV; trivial
  | y :: ys, o, h => by
    unfold NdsV
    refine ⟨by simpa using h 0 y rfl, nds_of ys (o + 6) fun i x hi => ?_⟩
    have := h (i + 1) x (by simpa using hi)
    rwa [show o + (i + 1) * 6 = o + 6 + i * 6 by omega] at this
theorem BkRow.list {w0 w : World} {B : Nat} {c : Nat → Nat → Value} {v : Value} {ms : List Nd} {Q : Nat → Prop} (h : BkRow w0 w B c v ms) (h1 : ∀ b, Lr w0 B v b → Q b) (h2 : ∀ g, v.ownBlock = some g → Q g) : (ms = [] ∧ ∃ a c, v = .slice a 0 c) ∨ ∃ g o c, v = .slice (some ⟨g, o, none⟩) ms.length c ∧ (Q g ∧ IsC w g) ∧ NdsV w Q g o ms := by
  rcases h.row.2 with ⟨e, h0⟩ | ⟨g, cap, cur, e, _, hh, _, _, _, ht⟩
  · exact Or.inl ⟨List.eq_nil_of_length_eq_zero h0, none, 0, e⟩
  · refine Or.inr ⟨g, 0, cap, e, ⟨h2 g (by rw [e]; rfl), _, _, _, hh⟩, nds_of ms 0 fun i x hi => ?_⟩
    have hil : i < ms.length := (List.getElem?_eq_some_iff.1 hi).1
    have cl : ∀ j, j < 6 → w.cell? ⟨g, 0 + i * 6 + j, none⟩ = some (c i j) := fun j hj => by
      rw [cell_of hh]
      have := cellsN_at c hil hj
      rw [← ht, List.getElem?_take] at this
      split at this
      · simpa using this
      · cases this
    exact ⟨_, _, _, _, _, _, cl 0 (by omega), cl 1 (by omega), cl 2 (by omega), cl 3 (by omega), cl 4 (by omega), cl 5 (by omega), (h.nd i x hi).mono fun b hb _ => h1 b hb⟩
theorem info54 : (Tryz.prog.info? 25).map (fun i => (i.zero, i.size, i.bytes)) = some (some (.agg #[.int .i64 0, .slice none 0 0, .int .i64 0, .int .i64 0, .int .i64 0, .slice none 0 0]), 6, 80) := by kernel_rfl
theorem info54' : ∃ i, Tryz.prog.info? 25 = some i ∧ i.zero = some (.agg #[.int .i64 0, .slice none 0 0, .int .i64 0, .int .i64 0, .int .i64 0, .slice none 0 0]) ∧ i.size = 6 ∧ i.bytes = 80 := by
  have h := info54
  cases hi : Tryz.prog.info? 25 with
  | none => rw [hi] at h; cases h
  | some i =>
    rw [hi] at h
    simp only [Option.map_some, Option.some.injEq, Prod.mk.injEq] at h
    exact ⟨i, rfl, h.1, h.2.1, h.2.2⟩
structure BkI (w w9 : World) (bn : Nat) (op so nn mm : Int) (na : Option Addr) (nl nc : Nat) (ns : List Value) (l : List Nd) (j : Nat) (wr : World) : Prop where
  up : Upto [bn] w9 wr
  old : Upto [] w wr
  st : ∃ (va : Option Addr) (vn vc : Nat) (c : Nat → Nat → Value), wr.heap[bn]? = some (.cells #[.int .i64 op, .slice na nl nc, .int .i64 so, .int .i64 nn, .int .i64 mm, .slice va vn vc] 25 (0, 0)) ∧ BkRow w9 wr bn c (.slice va vn vc) (l.take j)
theorem back_step {w w9 wr w10 w5 W : World} {bn : Nat} {op so nn mm : Int} {na : Option Addr} {nl nc : Nat} {ns : List Value} {l : List Nd} {vn : Nat} {va : Option Addr} {vc : Nat} {c : Nat → Nat → Value} {x : Nd} {v0 v1 v2 v3 v4 v5 : Value} {b5 : Option Addr} {c5 : Nat}
    (HI : BkI w w9 bn op so nn mm na nl nc ns l vn wr) (HLT : W.heap.size ≤ bn ∧ bn < w9.heap.size) (HWL : w.heap.size < W.heap.size) (HUP : Upto [] W w9)
    (hbk : wr.heap[bn]? = some (.cells #[.int .i64 op, .slice na nl nc, .int .i64 so, .int .i64 nn, .int .i64 mm, .slice va vn vc] 25 (0, 0))) (hrow : BkRow w9 wr bn c (.slice va vn vc) (l.take vn))
    (hu : Upto [] wr w10) (hn : NdV w10 (New wr) x (.agg #[v0, v1, v2, v3, v4, v5])) (hjl : (l.take vn).length = vn) (htk : l.take (vn + 1) = l.take vn ++ [x])
    (ho5 : w5.ownsRow 0 25 6 (.slice b5 (vn + 1) c5) (vn + 1) (cellsN c vn ++ [v0, v1, v2, v3, v4, v5])) (hu5 : Upto (Value.slice va vn vc).ownBlock.toList w10 w5) (hw5 : ∀ g, (Value.slice b5 (vn + 1) c5).ownBlock = some g → (Value.slice va vn vc).ownBlock = some g ∨ w10.heap.size ≤ g) :
    w5.heap[bn]? = some (.cells #[.int .i64 op, .slice na nl nc, .int .i64 so, .int .i64 nn, .int .i64 mm, .slice va vn vc] 25 (0, 0)) ∧ BkI w w9 bn op so nn mm na nl nc ns l (vn + 1) (w5.setCell ⟨bn, 5, none⟩ (.slice b5 (vn + 1) c5)) := by
  have hown : ∀ g, g ∈ (Value.slice va vn vc).ownBlock.toList → w9.heap.size ≤ g ∧ g ≠ bn := fun g hg => hrow.own g (Option.mem_toList.1 hg)
  have hold : ∀ g, (Value.slice va vn vc).ownBlock = some g → g < wr.heap.size := fun g hg => by
    obtain ⟨cur, hh⟩ := ownsRow_block hrow.row hg
    exact lt_of_heap hh
  have hb5 := hu5.at (hu.at hbk (by simp)) (fun hm => (hown _ hm).2 rfl)
  have hst : Upto [bn] w5 (w5.setCell ⟨bn, 5, none⟩ (.slice b5 (vn + 1) c5)) := (Upto.refl [bn] w5).setCell (p := ⟨bn, 5, none⟩) (Or.inl (by simp)) _
  have hs9 := HI.up.size
  have hs10 := hu.size
  have hW := HUP.size
  have hbw := lt_of_heap hbk
  refine ⟨hb5, ⟨?_, ?_, b5, vn + 1, c5, addC c vn v0 v1 v2 v3 v4 v5, ?_, ?_⟩⟩
  · exact ((HI.up.trans_ext hu).trans hu5 (fun k hk => Or.inr (hown k hk).1)).setCell (p := ⟨bn, 5, none⟩) (Or.inl (by simp)) _
  · exact ((HI.old.trans_ext hu).trans hu5 (fun k hk => Or.inr (by have := (hown k hk).1; omega))).setCell (p := ⟨bn, 5, none⟩) (Or.inr (by simp; omega)) _
  · have := set_same hb5 5 (.slice b5 (vn + 1) c5)
    simpa using this
  · have happ := BkRow.app (m := x) (v0 := v0) (v1 := v1) (v2 := v2) (v3 := v3) (v4 := v4) (v5 := v5) (b' := b5) (c' := c5) (w5 := w5) (hrow.upto hu (by simp)) (by omega) (by omega)
      (hn.mono (fun b hb _ => ⟨by unfold New at hb ⊢; omega, by unfold New at hb; omega, fun e => by have := hold b e; unfold New at hb; omega⟩)) (by rw [hjl]; exact ho5) hu5 (by rw [hjl]; exact hw5)
    rw [hjl] at happ
    rw [htk]
    exact happ.upto hst (fun k hk => Or.inr (by simpa using hk))
theorem names_ne {w : World} {P : Nat → Prop} {v : Value} {n : Nat} {names : List (List UInt8)} (h : SlP w P v n (names.map sV)) (hn : n = names.length) {bn : Nat} {T : TypeId} {z : Nat × Nat} (hb : w.heap[bn]? = some (.cells #[.int .i64 0, .slice none 0 0, .int .i64 0, .int .i64 0, .int .i64 0, .slice none 0 0] T z)) : SlP w (fun b => P b ∧ b ≠ bn) v n (names.map sV) := by
  rcases h with h | ⟨g, o, c, rfl, ⟨hg, hi⟩, hc⟩
  · exact Or.inl h
  · cases names with
    | nil => subst hn; exact Or.inl ⟨rfl, rfl, _, c, rfl⟩
    | cons x r =>
      refine Or.inr ⟨g, o, c, rfl, ⟨⟨hg, fun e => ?_⟩, hi⟩, hc⟩
      subst e
      have h0 := hc 0 (sV x) rfl
      rw [cell_of hb] at h0
      have : o + 0 = 0 ∨ o + 0 = 1 ∨ o + 0 = 2 ∨ o + 0 = 3 ∨ o + 0 = 4 ∨ o + 0 = 5 ∨ 6 ≤ o + 0 := by omega
      rcases this with e | e | e | e | e | e | e
      · rw [e] at h0; simp [sV] at h0
      · rw [e] at h0; simp [sV] at h0
      · rw [e] at h0; simp [sV] at h0
      · rw [e] at h0; simp [sV] at h0
      · rw [e] at h0; simp [sV] at h0
      · rw [e] at h0; simp [sV] at h0
      · rw [Array.getElem?_eq_none (by simpa using e)] at h0; cases h0
theorem back_end {w w9 wr W : World} {bn : Nat} {op so nn mm : Int} {na : Option Addr} {nc : Nat} {ns : List Value} {names : List (List UInt8)} {l : List Nd} {vn : Nat} {va : Option Addr} {vc : Nat} {c : Nat → Nat → Value} {_P : Nat → Prop}
    (HI : BkI w w9 bn op so nn mm na names.length nc ns l vn wr) (HLT : W.heap.size ≤ bn ∧ bn < w9.heap.size) (_HWL : w.heap.size < W.heap.size) (HW2 : w.heap.size + 1 < W.heap.size) (HUP : Upto [] W w9)
    (hbn : w9.heap[bn]? = some (.cells #[.int .i64 0, .slice none 0 0, .int .i64 0, .int .i64 0, .int .i64 0, .slice none 0 0] 25 (0, 0)))
    (hsl : SlP w9 (New W) (.slice na names.length nc) names.length (names.map sV))
    (_hz2 : wr.heap[w.heap.size + 1]? = some (.cells #[.int .i64 0, .slice none 0 0, .int .i64 0, .int .i64 0, .int .i64 0, .slice none 0 0] 25 (0, 0)))
    (hrow : BkRow w9 wr bn c (.slice va vn vc) (l.take vn)) (htk : l.take vn = l) (_hll : l.length = vn) :
    BkPost w (.mk op names so nn mm l) (.returned (.agg #[.int .i64 op, .slice na names.length nc, .int .i64 so, .int .i64 nn, .int .i64 mm, .slice va vn vc])) ((((((wr.setCell ⟨w.heap.size + 1, 0, none⟩ (.int .i64 op)).setCell ⟨w.heap.size + 1, 1, none⟩ (.slice na names.length nc)).setCell ⟨w.heap.size + 1, 2, none⟩ (.int .i64 so)).setCell ⟨w.heap.size + 1, 3, none⟩ (.int .i64 nn)).setCell ⟨w.heap.size + 1, 4, none⟩ (.int .i64 mm)).setCell ⟨w.heap.size + 1, 5, none⟩ (.slice va vn vc)) := by
  have hst := nd_self wr (w.heap.size + 1) (.int .i64 op) (.slice na names.length nc) (.int .i64 so) (.int .i64 nn) (.int .i64 mm) (.slice va vn vc)
  have hW := HUP.size
  have hrow2 := hrow.upto hst (fun k hk => Or.inl (by simp at hk; omega))
  rw [htk] at hrow2
  have hs2 := ((names_ne hsl rfl hbn).upto HI.up (fun b hb _ => by simpa using hb.2)).upto hst (fun b hb _ => by have := hb.1; unfold New at this; simp; omega)
  refine ⟨_, rfl, ?_, nd_up HI.old (Or.inr (by omega)) ..⟩
  unfold NdV
  refine ⟨_, _, rfl, hs2.mono (fun b hb _ => by have := hb.1; unfold New at this ⊢; omega), ?_⟩
  have := hrow2.list (Q := New w) (fun b hb => by have := hb.1; unfold New at this ⊢; omega) (fun g hg => by have := (hrow.own g hg).1; unfold New; omega)
  exact this
set_option maxRecDepth 100000 in
set_option maxHeartbeats 6400000 in
theorem back_calls : ∀ (k : Nat) (nd : Nd), sizeF nd ≤ k → k ≤ 10000000 → bigN nd → ∀ (P : Nat → Prop) (v : Value) (w : World), NdV w P nd v → Calls Tryz.prog 24 #[v] w (BkPost w nd)
  | 0, nd, hk, _, _, _, _, _, _ => by have := sizeF_pos nd; omega
  | k + 1, .mk op names so nn mm l, hk, hk7, hbg, P, v, w, h => by
    obtain ⟨a1, c1, a2, c2, rfl, hs, hls⟩ := h.open
    unfold bigN at hbg
    have hsz : sizesF l ≤ k := by simp only [sizeF] at hk; omega
    have hln := sizes_len l
    have hu2 : Upto [] w ((w.alloc (.cells #[.int .i64 op, .slice a1 names.length c1, .int .i64 so, .int .i64 nn, .int .i64 mm, .slice a2 l.length c2] 34)).alloc (.cells #[.int .i64 0, .slice none 0 0, .int .i64 0, .int .i64 0, .int .i64 0, .slice none 0 0] 25)) := ((Upto.refl [] w).alloc _).alloc _
    have hb1 := alloc_old (new_at w (.cells #[.int .i64 op, .slice a1 names.length c1, .int .i64 so, .int .i64 nn, .int .i64 mm, .slice a2 l.length c2] 34)) (.cells #[.int .i64 0, .slice none 0 0, .int .i64 0, .int .i64 0, .int .i64 0, .slice none 0 0] 25)
    have hb2 := new_at1 w (.cells #[.int .i64 op, .slice a1 names.length c1, .int .i64 so, .int .i64 nn, .int .i64 mm, .slice a2 l.length c2] 34) (.cells #[.int .i64 0, .slice none 0 0, .int .i64 0, .int .i64 0, .int .i64 0, .slice none 0 0] 25)
    obtain ⟨W, hW⟩ : ∃ W, W = ((w.alloc (.cells #[.int .i64 op, .slice a1 names.length c1, .int .i64 so, .int .i64 nn, .int .i64 mm, .slice a2 l.length c2] 34)).alloc (.cells #[.int .i64 0, .slice none 0 0, .int .i64 0, .int .i64 0, .int .i64 0, .slice none 0 0] 25)) := ⟨_, rfl⟩
    rw [← hW] at hu2 hb1 hb2
    have HU2 := Lib.hid hu2
    have HB1 := Lib.hid hb1
    have HB2 := Lib.hid hb2
    have hns : SlP W P (.slice a1 names.length c1) (names.map sV).length (names.map sV) := by rw [List.length_map]; exact hs.ext hu2
    have HNS := Lib.hid hns.slc
    have HNL := Lib.hid hbg.1
    obtain ⟨i0, hi0, hz0, hz1, hz2⟩ := info9'
    obtain ⟨x0, x1, x2, x3, x4, x5⟩ := cells6 hb1
    have hwl : w.heap.size < W.heap.size := lt_of_heap hb1
    have hwr := Upto.refl [] W
    clear hs h hu2 hb1 hb2 hns
    go_enter Tryz.func24, Tryz.ntmps24
    go_wp2_with fail
    simp only [← hW]
    clear hW
    have e0 : ∀ u : Ext W, u.w.cell? ⟨w.heap.size, 0, none⟩ = some _ := fun u => u.cell x0
    have e1 : ∀ u : Ext W, u.w.cell? ⟨w.heap.size, 1, none⟩ = some _ := fun u => u.cell x1
    have e2 : ∀ u : Ext W, u.w.cell? ⟨w.heap.size, 2, none⟩ = some _ := fun u => u.cell x2
    have e3 : ∀ u : Ext W, u.w.cell? ⟨w.heap.size, 3, none⟩ = some _ := fun u => u.cell x3
    have e4 : ∀ u : Ext W, u.w.cell? ⟨w.heap.size, 4, none⟩ = some _ := fun u => u.cell x4
    refine wp_region_seg_at [2, 5] [13] [0, 1, 2, 3, 4, 5, 6, 7, 8, 9, 10, 11, 12, 13] [14] 14 (by kernel_rfl) (by kernel_rfl) (by kernel_rfl) ?_
    iterate 2 (refine seg_plain rfl rfl rfl rfl rfl ?_; intro K' hK'; go_big_quiet_op; go_big_quiet_on)
    refine seg_opq (Y := Nat) (fun b => .slice (some ⟨b, 0, none⟩) 0 0) (fun _ _ => True) (fun _ => []) rfl rfl rfl rfl (fun _ _ _ h _ => h) (fun _ => List.nodup_nil) (fun w' post hu hd hp => (congrArg (opqUpon Tryz.prog post) (show _ = Result.ok (Next.value (.slice (some ⟨w'.heap.size, 0, none⟩) 0 0)) (w'.alloc (.cells #[] 9)) from by go_simp)).mpr (hp w'.heap.size _ ((Upto.refl [] w').alloc _) trivial (fun b hb => by cases hb))) ?_
    intro be
    simp only [Act.put, List.setIfInBounds_toArray, List.set_cons_zero, List.set_cons_succ]
    iterate 2 (refine seg_plain rfl rfl rfl rfl rfl ?_; intro K' hK'; go_big_quiet_op; go_big_quiet_on)
    refine seg_opq (Y := Option Addr × Nat) (fun y => .slice y.1 names.length y.2) (fun y u => SlP u (New W) (.slice y.1 names.length y.2) names.length (names.map sV)) (fun _ => []) rfl rfl rfl rfl (fun _ _ _ h hu => h.ext hu) (fun _ => List.nodup_nil) (fun w' post hu hd hp => opq_apps w' (.tmp 7) (.tmp 9) 22 rfl 9 i0 (.string ⟨#[]⟩) 16 Tryz.underlying22 hi0 hz0 hz1 hz2 rfl be rfl (.slice a1 names.length c1) (names.map sV) names.length (by simp) rfl (HNS.out.ext hu) (by have := HNL.out; unfold maxLen; omega) (by have := HNL.out; omega) (fun b' c' w2 hu2 hsl => hp (b', c') w2 hu2 (hsl.mono (fun b hb _ => New.mono hu b hb)) (fun b hb => by cases hb))) ?_
    rintro ⟨na, nc⟩
    simp only [Act.put, List.setIfInBounds_toArray, List.set_cons_zero, List.set_cons_succ]
    iterate 7 (refine seg_plain rfl rfl rfl rfl rfl ?_; intro K' hK'; go_big_quiet_op; go_big_quiet_on)
    refine seg_alloc (.cells #[.int .i64 0, .slice none 0 0, .int .i64 0, .int .i64 0, .int .i64 0, .slice none 0 0] 25) rfl rfl rfl (fun w => by go_simp) ?_
    intro bn
    simp only [Act.put, List.setIfInBounds_toArray, List.set_cons_zero, List.set_cons_succ]
    intro w9 hg
    have hup := hg.up
    have hnb := hg.hold.1
    have hsl := hg.hold.2.1
    have hin := hg.inb
    simp only [List.drop_succ_cons, List.drop_zero]
    have hbn : W.heap.size ≤ bn ∧ bn < w9.heap.size := hin _ (List.Mem.head _) bn (List.Mem.head _)
    have HSL := Lib.hid hsl
    have HUP := Lib.hid hup
    have HBN := Lib.hid hnb
    have HLT := Lib.hid hbn
    have HWL := Lib.hid hwl
    have hw2 : w.heap.size + 1 < W.heap.size := lt_of_heap HB2.out
    have HW2 := Lib.hid hw2
    obtain ⟨n0, n1, n2, n3, n4, n5⟩ := cells6 hnb
    obtain ⟨f0, f1, f2, f3, f4, f5⟩ := frees6 hnb
    have hset := set_same (set_same (set_same (set_same (set_same (set_same hnb 0 (.int .i64 op)) 1 (.slice na names.length nc)) 2 (.int .i64 so)) 3 (.int .i64 nn)) 4 (.int .i64 mm)) 5 (.slice none 0 0)
    simp only [List.setIfInBounds_toArray, List.set_cons_zero, List.set_cons_succ] at hset
    have hsu : Upto [bn] w9 ((((((w9.setCell ⟨bn, 0, none⟩ (.int .i64 op)).setCell ⟨bn, 1, none⟩ (.slice na names.length nc)).setCell ⟨bn, 2, none⟩ (.int .i64 so)).setCell ⟨bn, 3, none⟩ (.int .i64 nn)).setCell ⟨bn, 4, none⟩ (.int .i64 mm)).setCell ⟨bn, 5, none⟩ (.slice none 0 0)) := nd_self ..
    have HI0 : Hid (BkI w w9 bn op so nn mm na names.length nc (names.map sV) l 0 ((((((w9.setCell ⟨bn, 0, none⟩ (.int .i64 op)).setCell ⟨bn, 1, none⟩ (.slice na names.length nc)).setCell ⟨bn, 2, none⟩ (.int .i64 so)).setCell ⟨bn, 3, none⟩ (.int .i64 nn)).setCell ⟨bn, 4, none⟩ (.int .i64 mm)).setCell ⟨bn, 5, none⟩ (.slice none 0 0))) := Lib.hid
      ⟨hsu, (HU2.out.trans_ext hup).trans hsu (fun k hk => Or.inr (by simp at hk; omega)), none, 0, 0, fun _ _ => undef, hset, ⟨by simpa [cellsN] using World.ownsRow_nil _ 0 25 6, by simp, by intro g hg; cases hg⟩⟩
    clear hg hup hnb hsl hin hset hsu e0 e1 e2 e3 e4
    go_wp2_with fail
    have HLS := Lib.hid hls
    have HLN : Hid (l.length ≤ 10000000) := Lib.hid (by omega)
    generalize hll : l.length = ll at *
    have HLL := Lib.hid hll
    have hL0 : (0 : Int) ≤ ll := by omega
    have hL1 : (ll : Int) ≤ 10000000 := by have := HLN.out; omega
    clear hls hll
    go_loopw [4] (fun v wr => ∃ j : Nat, j ≤ ll ∧ v = .int .i64 j ∧ Hid (BkI w w9 bn op so nn mm na names.length nc (names.map sV) l j wr)) (fun v _ => ll - (intOf v).toNat)
    case atStart => exact ⟨0, by omega, rfl, HI0⟩
    case round =>
      obtain ⟨j, hj, rfl, HI⟩ := hrel
      obtain ⟨va, vn, vc, c, hbk, hrow⟩ := HI.out.st
      have hbox := HI.out.up.at (HUP.out.at HB1.out (by simp)) (by have := HLT.out; have := HWL.out; simp; omega)
      have z5 := cell_of hbox 5
      have y5 := cell_of hbk 5
      have g5 := free_of hbk 5
      simp only [List.getElem?_toArray, List.getElem?_cons_zero, List.getElem?_cons_succ] at z5 y5
      obtain ⟨va', vc', hve, -⟩ := ownsRow_len hrow.row
      simp only [Value.slice.injEq] at hve
      have hvn : vn = j := by have := HLL.out; rw [hve.2.1, List.length_take]; omega
      clear hve
      subst hvn
      rcases Nat.lt_or_ge vn ll with hlt | hge
      · obtain ⟨x, hx⟩ : ∃ x, l[vn]? = some x := ⟨_, List.getElem?_eq_getElem (by have := HLL.out; omega)⟩
        obtain ⟨g, o, xo, xn1, xn2, xn3, xs, xm, xq, xl1, xl2, xl3, rfl, c0, c1', c2', c3, c4, c5, hn⟩ := (HLS.out.ext HI.out.old) vn x hx
        have hjl : (l.take vn).length = vn := by have := HLL.out; rw [List.length_take]; omega
        have HJL := Lib.hid hjl
        have HTK : Hid (l.take (vn + 1) = l.take vn ++ [x]) := Lib.hid (by
          obtain ⟨hi, rfl⟩ := List.getElem?_eq_some_iff.1 hx
          exact List.take_succ_eq_append_getElem hi)
        have HROW := Lib.hid hrow
        have HBK := Lib.hid hbk
        have hxs := sizesF_mem (List.mem_of_getElem? hx)
        have HC := Lib.hid (fun w1 (hu : Upto [] wr w1) => back_calls k x (by omega) (by omega) (bigs_mem hbg.2 (List.mem_of_getElem? hx)) P _ w1 (hn.ext hu))
        have hltI : (vn : Int) < ll := by omega
        have hj0 : (0 : Int) ≤ vn := by omega
        clear hrow hbk hbox hn hx
        go_wp2_with fail
        have e0 : ∀ u : Ext wr, u.w.cell? ⟨bn, 5, none⟩ = some (.slice va vn vc) := fun u => u.cell y5
        have e1 : ∀ u : Ext wr, u.w.cell? ⟨w.heap.size, 5, none⟩ = some _ := fun u => u.cell z5
        have k0 : ∀ u : Ext wr, u.w.cell? ⟨g, o + vn * 6, none⟩ = some _ := fun u => u.cell c0
        have k1 : ∀ u : Ext wr, u.w.cell? ⟨g, o + vn * 6 + 1, none⟩ = some _ := fun u => u.cell c1'
        have k2 : ∀ u : Ext wr, u.w.cell? ⟨g, o + vn * 6 + 2, none⟩ = some _ := fun u => u.cell c2'
        have k3 : ∀ u : Ext wr, u.w.cell? ⟨g, o + vn * 6 + 3, none⟩ = some _ := fun u => u.cell c3
        have k4 : ∀ u : Ext wr, u.w.cell? ⟨g, o + vn * 6 + 4, none⟩ = some _ := fun u => u.cell c4
        have k5 : ∀ u : Ext wr, u.w.cell? ⟨g, o + vn * 6 + 5, none⟩ = some _ := fun u => u.cell c5
        clear y5 z5 g5 c0 c1' c2' c3 c4 c5
        refine wp_region_seg_at [7, 8] [] [0, 1, 2, 3, 4, 5, 6, 7, 8] [9, 10, 11] 9 (by kernel_rfl) (by kernel_rfl) (by kernel_rfl) ?_
        iterate 7 (refine seg_plain rfl rfl rfl rfl rfl ?_; intro K' hK'; go_big_quiet_op; go_big_quiet_on)
        refine seg_callO (Y := (Int × Option Addr × Nat × Nat) × Int × Int × Int × Option Addr × Nat × Nat) (fun y => .agg #[.int .i64 y.1.1, .slice y.1.2.1 y.1.2.2.1 y.1.2.2.2, .int .i64 y.2.1, .int .i64 y.2.2.1, .int .i64 y.2.2.2.1, .slice y.2.2.2.2.1 y.2.2.2.2.2.1 y.2.2.2.2.2.2]) (fun y u => NdV u (New wr) x (.agg #[.int .i64 y.1.1, .slice y.1.2.1 y.1.2.2.1 y.1.2.2.2, .int .i64 y.2.1, .int .i64 y.2.2.1, .int .i64 y.2.2.2.1, .slice y.2.2.2.2.1 y.2.2.2.2.2.1 y.2.2.2.2.2.2])) (fun _ => []) rfl rfl rfl rfl (fun _ _ _ h hu => h.ext hu) (fun _ => List.nodup_nil) (fun w => by go_simp) (fun w' hu hd => (HC.out w' hu).mono fun e w2 ⟨v, h1, h2, h3⟩ => by
          obtain ⟨ro, rn1, rn2, rn3, rs, rm, rq, rl1, rl2, rl3, rfl⟩ := h2.six
          exact ⟨((ro, rn1, rn2, rn3), rs, rm, rq, rl1, rl2, rl3), h1, h3, h2.mono (fun b hb _ => New.mono hu b hb), fun b hb => by cases hb⟩) ?_
        rintro ⟨⟨ro, rn1, rn2, rn3⟩, rs, rm, rq, rl1, rl2, rl3⟩
        simp only [Act.put, List.setIfInBounds_toArray, List.set_cons_zero, List.set_cons_succ]
        refine seg_opq (Y := Nat) (fun b => .slice (some ⟨b, 0, none⟩) 1 1) (fun b u => u.heap[b]? = some (.cells #[.int .i64 ro, .slice rn1 rn2 rn3, .int .i64 rs, .int .i64 rm, .int .i64 rq, .slice rl1 rl2 rl3] 25 (0, 0))) (fun _ => []) rfl rfl rfl rfl (fun _ _ _ h hu => hu.at h (by simp)) (fun _ => List.nodup_nil) (fun w' post hu hd hp => (congrArg (opqUpon Tryz.prog post) (show _ = Result.ok (Next.value (.slice (some ⟨w'.heap.size, 0, none⟩) 1 1)) (w'.alloc (.cells #[.int .i64 ro, .slice rn1 rn2 rn3, .int .i64 rs, .int .i64 rm, .int .i64 rq, .slice rl1 rl2 rl3] 25)) from by go_simp)).mpr (hp w'.heap.size _ ((Upto.refl [] w').alloc _) (new_at _ _) (fun b hb => by cases hb))) ?_
        intro b8
        simp only [Act.put, List.setIfInBounds_toArray, List.set_cons_zero, List.set_cons_succ]
        intro w10 hg
        have HU10 := Lib.hid hg.up
        have HB8 : Hid (w10.heap[b8]? = some (.cells #[.int .i64 ro, .slice rn1 rn2 rn3, .int .i64 rs, .int .i64 rm, .int .i64 rq, .slice rl1 rl2 rl3] 25 (0, 0))) := Lib.hid hg.hold.1
        have HND : Hid (NdV w10 (New wr) x (.agg #[.int .i64 ro, .slice rn1 rn2 rn3, .int .i64 rs, .int .i64 rm, .int .i64 rq, .slice rl1 rl2 rl3])) := Lib.hid hg.hold.2.1
        simp only [List.drop_succ_cons, List.drop_zero]
        clear hg e0 e1 k0 k1 k2 k3 k4 k5
        have HR10 := Lib.hid (HROW.out.upto HU10.out (by simp))
        have hr10 := HR10.out.row
        rw [hjl] at hr10
        have HRR := Lib.hid hr10
        obtain ⟨i1, hi1, hy0, hy1, hy2⟩ := info54'
        have hL7 := HLN.out
        have HA := Lib.hid (fun b5 c5 w5 (ho5 : w5.ownsRow 0 25 6 (.slice b5 (vn + 1) c5) (vn + 1) (cellsN c vn ++ [.int .i64 ro, .slice rn1 rn2 rn3, .int .i64 rs, .int .i64 rm, .int .i64 rq, .slice rl1 rl2 rl3])) (hu5 : Upto (Value.slice va vn vc).ownBlock.toList w10 w5) (hw5 : ∀ g, (Value.slice b5 (vn + 1) c5).ownBlock = some g → (Value.slice va vn vc).ownBlock = some g ∨ w10.heap.size ≤ g) => back_step HI.out HLT.out HWL.out HUP.out HBK.out HROW.out HU10.out HND.out HJL.out HTK.out ho5 hu5 hw5)
        clear hr10 hjl
        go_wp2_with (at_builtin
                     refine wpList_app _ rfl (.tmp 26) (.tmp 33) 23 rfl 25 i1 (.agg #[.int .i64 0, .slice none 0 0, .int .i64 0, .int .i64 0, .int .i64 0, .slice none 0 0]) 6 80 Tryz.underlying23 hi1 hy0 hy1 hy2 rfl (by decide) (.slice va vn vc) vn (cellsN c vn) rfl HRR.out ⟨b8, 0, none⟩ 1 1 [.int .i64 ro, .slice rn1 rn2 rn3, .int .i64 rs, .int .i64 rm, .int .i64 rq, .slice rl1 rl2 rl3] rfl rfl (six_at HB8.out) (by simp [Value.oneCell']) (by unfold maxLen; omega) (by omega) ?_
                     intro b5 c5 w5 ho5 hu5 hw5
                     obtain ⟨hbk5, hI5⟩ := HA.out b5 c5 w5 ho5 hu5 hw5
                     have y5 := cell_of hbk5 5
                     have g5 := free_of hbk5 5
                     simp only [List.getElem?_toArray, List.getElem?_cons_zero, List.getElem?_cons_succ] at y5
                     have HI5 := Lib.hid hI5
                     clear ho5 hu5 hw5 hbk5 hI5)
        go_roundw
        case rel => exact ⟨vn + 1, by omega, by go_num, HI5⟩
        case measure => simp [intOf]; omega
      · obtain rfl : vn = ll := by omega
        have hgeI : ¬ ((vn : Int) < vn) := by omega
        have HROW := Lib.hid hrow
        have HBK := Lib.hid hbk
        have hz2 := HI.out.up.at (HUP.out.at HB2.out (by simp)) (by have h1 := HLT.out; have h2 := HW2.out; simp; omega)
        have HZ2 := Lib.hid hz2
        obtain ⟨p0, p1, p2, p3, p4, p5⟩ := cells6 hbk
        obtain ⟨r0, r1, r2, r3, r4, r5⟩ := cells6 hz2
        obtain ⟨t0, t1, t2, t3, t4, t5⟩ := frees6 hz2
        have hF := back_end (names := names) (_P := P) HI.out HLT.out HWL.out HW2.out HUP.out HBN.out HSL.out HZ2.out HROW.out (List.take_of_length_le (by have := HLL.out; omega)) HLL.out
        have HF := Lib.hid hF
        clear hrow hbk hz2 hbox hF
        go_wp2_with fail
        have hst := nd_store HZ2.out (.int .i64 op) (.slice na names.length nc) (.int .i64 so) (.int .i64 nn) (.int .i64 mm) (.slice va vn vc)
        obtain ⟨q0, q1, q2, q3, q4, q5⟩ := cells6 hst
        exact bodyPost_ret (v := .agg #[.int .i64 op, .slice na names.length nc, .int .i64 so, .int .i64 nn, .int .i64 mm, .slice va vn vc]) (by simp [results, Tryz.results24, go_sem, q0, q1, q2, q3, q4, q5]) rfl HF.out
theorem tok_ok {s : List UInt8} {ts : List Tok} (h : lexT s = .ok ts) (hl : s.length ≤ 281474976710656) (u : World) (he : Env u) : Calls Tryz.prog 48 #[.string ⟨s.toArray⟩] u fun e w' => ∃ v, e = .returned (.tuple #[v, .agg #[.int .i64 0, .int .i64 0], .int .i64 0]) ∧ Toks w' v ts ∧ Upto [] u w' :=
  (tokenize_calls s u he hl).mono fun e w' hr => by
    obtain ⟨hr, hu⟩ := hr
    rcases hr with ⟨ts', v, hl', rfl, hT⟩ | ⟨l, c, n, hl', _⟩
    · rw [h] at hl'
      cases hl'
      exact ⟨v, rfl, hT, hu⟩
    · rw [h] at hl'
      cases hl'
theorem tok_err {s : List UInt8} {l c n : Nat} (h : lexT s = .error (l, c, n)) (hl : s.length ≤ 281474976710656) (li ci ni : Int) (h1 : li = l) (h2 : ci = c) (h3 : ni = n) (u : World) (he : Env u) : Calls Tryz.prog 48 #[.string ⟨s.toArray⟩] u fun e w' => e = .returned (.tuple #[.slice none 0 0, .agg #[.int .i64 li, .int .i64 ci], .int .i64 ni]) ∧ Upto [] u w' :=
  (tokenize_calls s u he hl).mono fun e w' hr => by
    obtain ⟨hr, hu⟩ := hr
    subst h1 h2 h3
    rcases hr with ⟨ts', v, hl', rfl, hT⟩ | ⟨l, c, n, hl', _, rfl⟩
    · rw [h] at hl'
      cases hl'
    · rw [h] at hl'
      cases hl'
      exact ⟨rfl, hu⟩
theorem classify_err {r : List UInt8} {n : Nat} (h : classify r = .error n) : n = 2 ∨ n = 3 := by
  cases r with
  | nil => cases h; simp
  | cons b t =>
    simp only [classify] at h
    split at h
    · split at h
      · cases h; simp
      · split at h
        · cases h; simp
        · cases h
    · split at h
      · cases h; simp
      · split at h
        · cases h
        · split at h
          · cases h; simp
          · cases h
theorem lexT_err {s : List UInt8} {l c n : Nat} (h : lexT s = .error (l, c, n)) : n = 2 ∨ n = 3 := by
  unfold lexT at h
  split at h
  · cases h; simp
  · refine lex_ind (M := fun s l c R => ∀ l' c' n', R = .error (l', c', n') → n' = 2 ∨ n' = 3) ?_ ?_ ?_ ?_ ?_ ?_ ?_ s.length s (Nat.le_refl _) 1 1 l c n h
    · intro l c l' c' n' h; cases h
    · intro b s l c _ _ ih; exact ih
    · intro b s l c _ _ ih; exact ih
    · intro b s l c _ ih l' c' n' h
      cases hR : lexS s l (c + 1) with
      | error e =>
        rw [hR] at h ih
        cases h
        exact ih _ _ _ rfl
      | ok ts => rw [hR] at h; cases h
    · intro r s l c k v _ _ _ _ ih l' c' n' h
      cases hR : lexS s l (c + r.length) with
      | error e =>
        rw [hR] at h ih
        cases h
        exact ih _ _ _ rfl
      | ok ts => rw [hR] at h; cases h
    · intro r s l c e _ _ _ hc l' c' n' h
      cases h
      exact classify_err hc
    · intro b s l c _ _ _ l' c' n' h
      cases h
      simp
def OneR (s : List UInt8) (e : Ending) : Prop :=
  (∃ k v l c : Nat, oneF s = some (k, v) ∧ e = .returned (.tuple #[.agg #[.int .i64 k, .string ⟨s.toArray⟩, .int .i64 v, .int .i64 l, .int .i64 c], .bool true])) ∨
  (oneF s = none ∧ e = .returned (.tuple #[.agg #[.int .i64 0, .string ⟨#[]⟩, .int .i64 0, .int .i64 0, .int .i64 0], .bool false]))
theorem oneF_len {s : List UInt8} {ts : List Tok} (h : lexT s = .ok ts) (hn : ts.length ≠ 2) : oneF s = none := by
  unfold oneF
  rw [h]
  match ts, hn with
  | [], _ => rfl
  | [a], _ => rfl
  | [a, b], hn => exact absurd rfl hn
  | a :: b :: c :: l, _ => rfl
theorem oneF_two {s : List UInt8} {t t' : Tok} (h : lexT s = .ok [t, t']) : oneF s = if t.text = s then some (t.kind, t.val) else none := by
  unfold oneF
  rw [h]
theorem oneF_err {s : List UInt8} {e : Nat × Nat × Nat} (h : lexT s = .error e) : oneF s = none := by
  unfold oneF
  rw [h]
set_option maxRecDepth 100000 in
set_option maxHeartbeats 6400000 in
theorem lexone_calls (s : List UInt8) (w : World) (he : Env w) (hmax : s.length ≤ 281474976710656) : Calls Tryz.prog 81 #[.string ⟨s.toArray⟩] w fun e w' => OneR s e ∧ Upto [] w w' := by
  have hu0 : Upto [] w (w.alloc (.cells #[.int .i64 0, .string ⟨#[]⟩, .int .i64 0, .int .i64 0, .int .i64 0] 83)) := (Upto.refl [] w).alloc _
  have hb0 := new_at w (.cells #[.int .i64 0, .string ⟨#[]⟩, .int .i64 0, .int .i64 0, .int .i64 0] 83)
  have hB0 : w.heap.size ≤ w.heap.size := Nat.le_refl _
  have he0 := he.ext hu0
  cases hl : lexT s with
  | error lcn =>
    obtain ⟨l, c, n⟩ := lcn
    have HT := Lib.hid (tok_err hl hmax l c n rfl rfl rfl _ he0)
    have HNO := Lib.hid (oneF_err hl)
    have hn : ((n : Int) == 0) = false := by
      rw [beq_eq_false_iff_ne]
      rcases lexT_err hl with h | h <;> omega
    have hn2 : ((n : Int) != 0) = true := by rw [bne, hn]; rfl
    clear hl he he0
    go_enter Tryz.func81, Tryz.ntmps81
    go_wp2_with fail
    refine HT.out.mono ?_
    rintro e w1 ⟨rfl, hu1⟩
    have hb := (hu1.alloc (.cells #[.int .i64 l, .int .i64 c] 36)).at hb0 (by simp)
    have hup := (hu0.trans_ext hu1).alloc (.cells #[.int .i64 l, .int .i64 c] 36)
    clear hu0 hb0 hu1 HT
    go_upto_region 2 with fail
    generalize w1.alloc (.cells #[.int .i64 l, .int .i64 c] 36) = w2 at *
    generalize hBe : w.heap.size = B at *
    have hB : w.heap.size ≤ B := by omega
    obtain ⟨q0, q1, q2, q3, q4⟩ := cells5 hb
    obtain ⟨f0, f1, f2, f3, f4⟩ := frees5 hb
    go_wp2_with fail
    refine bodyPost_ret (v := .tuple #[.agg #[.int .i64 0, .string ⟨#[]⟩, .int .i64 0, .int .i64 0, .int .i64 0], .bool false]) (by simp [results, Tryz.results81, go_sem, q0, q1, q2, q3, q4]) rfl ⟨Or.inr ⟨HNO.out, rfl⟩, tok_up hup hB _ _ _ _ _⟩
  | ok ts =>
    have HT := Lib.hid (tok_ok hl hmax _ he0)
    by_cases hn : ts.length = 2
    · obtain ⟨t, t', rfl⟩ : ∃ t t', ts = [t, t'] := by
        match ts, hn with
        | [a, b], _ => exact ⟨a, b, rfl⟩
      have HF := Lib.hid (oneF_two hl)
      clear hl he he0 hn
      have hone : Hid (t.text = s → oneF s = some (t.kind, t.val)) := Lib.hid (fun h => by rw [HF.out, if_pos h])
      have hnone : Hid (t.text ≠ s → oneF s = none) := Lib.hid (fun h => by rw [HF.out, if_neg h])
      go_enter Tryz.func81, Tryz.ntmps81
      go_wp2_with fail
      refine HT.out.mono ?_
      rintro e w1 ⟨v, rfl, hv, hu1⟩
      have hb := (hu1.alloc (.cells #[.int .i64 0, .int .i64 0] 36)).at hb0 (by simp)
      have hup := (hu0.trans_ext hu1).alloc (.cells #[.int .i64 0, .int .i64 0] 36)
      have hv2 := hv.ext ((Upto.refl [] w1).alloc (.cells #[.int .i64 0, .int .i64 0] 36))
      have hbs := lt_of_heap (hu1.at hb0 (by simp))
      clear hu0 hb0 hu1 HT hv
      go_upto_region 2 with fail
      generalize w1.alloc (.cells #[.int .i64 0, .int .i64 0] 36) = w2 at *
      generalize hBe : w.heap.size = B at *
      have hB : w.heap.size ≤ B := by omega
      obtain ⟨q0, q1, q2, q3, q4⟩ := cells5 hb
      obtain ⟨f0, f1, f2, f3, f4⟩ := frees5 hb
      rcases hv2.at with ⟨h1, _⟩ | ⟨g, o, c, rfl, hat⟩
      · cases h1
      · obtain ⟨c0, c1, c2, c3, c4⟩ := hat 0 _ rfl
        simp only [Nat.zero_mul, Nat.add_zero, bs] at c0 c1 c2 c3 c4
        simp only [List.length_cons, List.length_nil]
        clear hat hv2 HF
        by_cases hx : t.text = s
        · have hx2 : (t.text == s) = true := by simpa using hx
          have HONE := Lib.hid (hone.out hx)
          rw [hx] at c1
          clear hone hnone
          rw [hx] at hx2
          clear hx
          go_wp2_with fail
          refine bodyPost_ret (v := .tuple #[.agg #[.int .i64 t.kind, .string ⟨s.toArray⟩, .int .i64 t.val, .int .i64 t.line, .int .i64 t.col], .bool true]) (by simp [results, Tryz.results81, go_sem, q0, q1, q2, q3, q4]) rfl ⟨Or.inl ⟨t.kind, t.val, t.line, t.col, HONE.out, rfl⟩, tok_up hup hB _ _ _ _ _⟩
        · have hx2 : (t.text == s) = false := by simpa using hx
          have HNO := Lib.hid (hnone.out hx)
          clear hx hone hnone
          go_wp2_with fail
          refine bodyPost_ret (v := .tuple #[.agg #[.int .i64 0, .string ⟨#[]⟩, .int .i64 0, .int .i64 0, .int .i64 0], .bool false]) (by simp [results, Tryz.results81, go_sem, q0, q1, q2, q3, q4]) rfl ⟨Or.inr ⟨HNO.out, rfl⟩, tok_up hup hB _ _ _ _ _⟩
    · have HNO := Lib.hid (oneF_len hl hn)
      have hn2 : ((ts.length : Int) == 2) = false := by
        rw [beq_eq_false_iff_ne]
        omega
      have hn3 : ((ts.length : Int) != 2) = true := by rw [bne, hn2]; rfl
      clear hl he he0
      go_enter Tryz.func81, Tryz.ntmps81
      go_wp2_with fail
      refine HT.out.mono ?_
      rintro e w1 ⟨v, rfl, hv, hu1⟩
      have hb := (hu1.alloc (.cells #[.int .i64 0, .int .i64 0] 36)).at hb0 (by simp)
      have hup := (hu0.trans_ext hu1).alloc (.cells #[.int .i64 0, .int .i64 0] 36)
      obtain ⟨va, vc, rfl⟩ := hv.len
      clear hu0 hb0 hu1 HT hv hn
      go_upto_region 2 with fail
      generalize w1.alloc (.cells #[.int .i64 0, .int .i64 0] 36) = w2 at *
      generalize hBe : w.heap.size = B at *
      have hB : w.heap.size ≤ B := by omega
      obtain ⟨q0, q1, q2, q3, q4⟩ := cells5 hb
      obtain ⟨f0, f1, f2, f3, f4⟩ := frees5 hb
      go_wp2_with fail
      refine bodyPost_ret (v := .tuple #[.agg #[.int .i64 0, .string ⟨#[]⟩, .int .i64 0, .int .i64 0, .int .i64 0], .bool false]) (by simp [results, Tryz.results81, go_sem, q0, q1, q2, q3, q4]) rfl ⟨Or.inr ⟨HNO.out, rfl⟩, tok_up hup hB _ _ _ _ _⟩
def identF (s : List UInt8) : Bool := match oneF s with | some (k, _) => decide (k = 1) | none => false
set_option maxRecDepth 100000 in
set_option maxHeartbeats 6400000 in
theorem isIdent_calls (s : List UInt8) (w : World) (he : Env w) (hmax : s.length ≤ 281474976710656) : Calls Tryz.prog 65 #[.string ⟨s.toArray⟩] w fun e w' => e = .returned (.bool (identF s)) ∧ Upto [] w w' := by
  have H := Lib.hid (lexone_calls s w he hmax)
  go_enter Tryz.func65, Tryz.ntmps65
  go_wp2_with fail
  refine H.out.mono ?_
  rintro e w1 ⟨⟨k, v, l, c, ho, rfl⟩ | ⟨ho, rfl⟩, hu1⟩
  · have hf : Hid (identF s = ((k : Int) == 1)) := Lib.hid (by
      unfold identF
      rw [ho]
      rw [Bool.eq_iff_iff, beq_iff_eq]
      simp only [decide_eq_true_eq]
      omega)
    have hu2 := hu1.alloc (.cells #[.int .i64 k, .string ⟨s.toArray⟩, .int .i64 v, .int .i64 l, .int .i64 c] 83)
    obtain ⟨q0, -, -, -, -⟩ := tok_cells w1 (.int .i64 k) (.string ⟨s.toArray⟩) (.int .i64 v) (.int .i64 l) (.int .i64 c) 36
    clear ho hu1 H
    go_wp2_with fail
    go_ret
    refine ⟨ret_bool ?_, hu2⟩
    rw [hf.out]
  · have hf : Hid (identF s = false) := Lib.hid (by unfold identF; rw [ho])
    have hu2 := hu1.alloc (.cells #[.int .i64 0, .string ⟨#[]⟩, .int .i64 0, .int .i64 0, .int .i64 0] 83)
    clear ho hu1 H
    go_wp2_with fail
    go_ret
    refine ⟨ret_bool ?_, hu2⟩
    rw [hf.out]
def nameF (s : List UInt8) : Bool := decide (s ≠ []) && s.all lxInner && (match classify s with | .ok (k, _) => decide (k = 1) | .error _ => false)
theorem ident_name {s : List UInt8} (h : s.length ≤ 65536) : identF s = nameF s := by
  rw [Bool.eq_iff_iff]
  constructor
  · intro hi
    unfold identF at hi
    cases ho : oneF s with
    | none => rw [ho] at hi; cases hi
    | some kv =>
      obtain ⟨k, v⟩ := kv
      rw [ho] at hi
      simp only [decide_eq_true_eq] at hi
      subst hi
      obtain ⟨-, hr⟩ := oneF_real.1 ho
      rcases hr with ⟨b, _, _, h4, _⟩ | ⟨h1, h2, h3⟩
      · cases h4
      · simp only [nameF, h3, Bool.and_eq_true, decide_eq_true_eq, List.all_eq_true]
        exact ⟨⟨h1, h2⟩, trivial⟩
  · intro hn
    simp only [nameF, Bool.and_eq_true, decide_eq_true_eq, List.all_eq_true] at hn
    obtain ⟨⟨h1, h2⟩, h3⟩ := hn
    cases hc : classify s with
    | error e => rw [hc] at h3; cases h3
    | ok kv =>
      obtain ⟨k, v⟩ := kv
      rw [hc] at h3
      simp only [decide_eq_true_eq] at h3
      subst h3
      unfold identF
      rw [oneF_real.2 ⟨h, Or.inr ⟨h1, h2, hc⟩⟩]
      rfl
theorem takeWhile_len {p : UInt8 → Bool} {s : List UInt8} : ((s.takeWhile p).length = s.length) ↔ s.all p = true := by
  constructor
  · intro h
    cases ha : s.all p with
    | true => rfl
    | false => have := take_not ha; omega
  · intro h
    rw [take_all h]
set_option maxRecDepth 100000 in
set_option maxHeartbeats 6400000 in
theorem isName_calls (s : List UInt8) (w : World) (hmax : s.length ≤ 281474976710656) : Calls Tryz.prog 66 #[.string ⟨s.toArray⟩] w fun e w' => e = .returned (.bool (nameF s)) ∧ Upto [] w w' := by
  have hsz : (ByteArray.mk s.toArray).size = s.length := rfl
  cases s with
  | nil =>
    go_enter Tryz.func66, Tryz.ntmps66
    go_wp2_with fail
    go_ret
    exact ⟨ret_bool rfl, Upto.refl _ _⟩
  | cons b t =>
    have HC := Lib.hid (runR_calls (b :: t) 0 (by omega) (by omega) w)
    rw [List.drop_zero] at HC
    have HT := Lib.hid (tokenR_calls b t w hmax)
    have HF := Lib.hid (show nameF (b :: t) = ((b :: t).all lxInner && (match classify (b :: t) with | .ok (k, _) => decide (k = 1) | .error _ => false)) by simp [nameF])
    have hlen : ((b :: t).length : Int) ≠ 0 := by simp only [List.length_cons]; omega
    have hl0 : (((b :: t).length : Int) == 0) = false := by rw [beq_eq_false_iff_ne]; exact hlen
    have htl := Lib.hid (takeWhile_len (p := lxInner) (s := b :: t))
    have hta : (b :: t).all lxInner = true → Hid ((b :: t).takeWhile lxInner = b :: t) := fun h => Lib.hid (take_all h)
    cases ha : (b :: t).all lxInner with
    | false =>
      have hne : (((b :: t).takeWhile lxInner).length : Int) ≠ (b :: t).length := by
        intro h
        have := htl.out.1 (by omega)
        rw [ha] at this
        cases this
      rw [ha] at HF
      have HFF : Hid (nameF (b :: t) = false) := Lib.hid (by rw [HF.out]; rfl)
      have hne2 : ((((b :: t).takeWhile lxInner).length : Int) == (b :: t).length) = false := by rw [beq_eq_false_iff_ne]; exact hne
      generalize ((b :: t).takeWhile lxInner).length = n at *
      generalize b :: t = s at *
      clear HT HF hta htl ha
      go_enter Tryz.func66, Tryz.ntmps66
      go_wp2_with fail
      refine HC.out.mono ?_
      rintro e w1 ⟨rfl, rfl⟩
      go_wp2_with fail
      go_ret
      exact ⟨ret_bool HFF.out.symm, Upto.refl _ _⟩
    | true =>
      rw [(hta ha).out] at HC
      rw [ha] at HF
      generalize b :: t = s at *
      clear hta htl ha
      go_enter Tryz.func66, Tryz.ntmps66
      go_wp2_with fail
      refine HC.out.mono ?_
      rintro e w1 ⟨rfl, rfl⟩
      go_wp2_with fail
      refine HT.out.mono ?_
      rintro e w2 ⟨⟨k, v, n, x, rfl, hcase⟩, hu2⟩
      unfold tkV
      have hu3 := hu2.alloc (.cells #[.int .i64 k, .string ⟨x.toArray⟩, .int .i64 v, .int .i64 0, .int .i64 0] 136)
      rcases hcase with ⟨rfl, rfl, hc⟩ | ⟨hn, hc⟩
      · have hf : Hid (nameF x = ((k : Int) == 1)) := Lib.hid (by
          rw [HF.out, hc, Bool.true_and, Bool.eq_iff_iff, beq_iff_eq]
          simp only [decide_eq_true_eq]
          omega)
        simp only [show ((0 : Nat) : Int) = 0 from rfl]
        clear HC HT HF hc hu2
        go_wp2_with fail
        go_ret
        exact ⟨ret_bool hf.out.symm, hu3⟩
      · have hn0 : ((n : Int) == 0) = false := by rw [beq_eq_false_iff_ne]; omega
        have hf : Hid (nameF s = false) := Lib.hid (by rw [HF.out, hc]; rfl)
        clear HC HT HF hc hu2
        go_wp2_with fail
        go_ret
        exact ⟨ret_bool hf.out.symm, hu3⟩
theorem word_at (k : Nat) (h : k < 18) : wordsF[k]? = some (wordsF.getD k []) := by
  have h' : k < wordsF.length := h
  rw [List.getD_eq_getElem?_getD, List.getElem?_eq_getElem h']
  rfl
theorem nds_two {w : World} {P : Nat → Prop} {g o : Nat} {a b : Nd} {r : List Nd} (h : NdsV w P g o (a :: b :: r)) : NdsV w P g o [a, b] := by
  unfold NdsV NdsV at h
  unfold NdsV NdsV NdsV
  exact ⟨h.1, h.2.1, trivial⟩
theorem nds_one {w : World} {P : Nat → Prop} {g o : Nat} {a : Nd} {r : List Nd} (h : NdsV w P g o (a :: r)) : NdsV w P g o [a] := by
  unfold NdsV at h
  unfold NdsV NdsV
  exact ⟨h.1, trivial⟩
theorem full_says : ∀ (n : Nat) (nd : Nd), sizeF nd ≤ n → plainF nd → (fullF nd).length ≤ 1000000000000 → ∀ (w : World) (P : Nat → Prop), Says w P nd (fullF nd)
  | 0, nd, hn, _, _, _, _ => by have := sizeF_pos nd; omega
  | n + 1, .mk op names so nn mm l, hn, hp, hl, w, P => by
    intro v w1 hu h
    unfold NdV at h
    obtain ⟨vn, vl, rfl, hs, hll⟩ := h
    obtain ⟨na, nc, rfl, hg⟩ := hs.get
    unfold plainF at hp
    simp only [fullF] at hl ⊢
    simp only [sizeF] at hn
    rcases hp with ⟨h1, h2, h3⟩ | ⟨h1, h2, h3, h4⟩ | ⟨h1, h2, h3, h4, h5⟩
    · obtain ⟨k, rfl⟩ := Int.eq_ofNat_of_zero_le (show 0 ≤ op by omega)
      match names, h3 with
      | x :: y :: r, h3 =>
        obtain ⟨g, o, rfl, c0⟩ := hg 0 (sV x) rfl
        obtain ⟨g', o', e, c1⟩ := hg 1 (sV y) rfl
        simp at e
        obtain ⟨rfl, rfl⟩ := e
        obtain ⟨a2, n2, c2, rfl⟩ : ∃ a n c, vl = .slice a n c := by
          rcases hll with ⟨-, a, c, rfl⟩ | ⟨g, o, c, rfl, -⟩
          · exact ⟨a, 0, c, rfl⟩
          · exact ⟨_, _, c, rfl⟩
        rw [if_pos h2] at hl ⊢
        simp only [List.length_append, List.getD_cons_zero, List.getD_cons_succ] at hl
        exact full_two w1 k a2 _ nc n2 c2 so nn mm _ (word_at k (by omega)) ⟨by omega, by omega⟩ g o x y h3 (by omega) (by omega) c0 c1
    · obtain ⟨k, rfl⟩ := Int.eq_ofNat_of_zero_le (show 0 ≤ op by omega)
      match l, h3 with
      | a :: b :: r, h3 =>
        rcases hll with ⟨e, -⟩ | ⟨g, o, c, rfl, -, hds⟩
        · cases e
        rw [if_neg (by omega), if_pos h2] at hl ⊢
        simp only [List.length_append, fullsF, List.getD_cons_zero, List.getD_cons_succ] at hl
        simp only [sizesF] at hn
        unfold plainsF plainsF at h4
        exact full_bin w1 k na _ nc _ c so nn mm _ (word_at k (by omega)) ⟨by omega, by omega⟩ g o P a b (fullF a) (fullF b) h3 (nds_two hds) (by omega) (by omega)
          (full_says n a (by omega) h4.1 (by omega) w1 P) (full_says n b (by omega) h4.2.1 (by omega) w1 P)
    · obtain ⟨k, rfl⟩ := Int.eq_ofNat_of_zero_le (show 0 ≤ op by omega)
      match l, h4, names, h3 with
      | a :: r, h4, x :: r', h3 =>
        rcases hll with ⟨e, -⟩ | ⟨g, o, c, rfl, -, hds⟩
        · cases e
        obtain ⟨gn, og, rfl, c0⟩ := hg 0 (sV x) rfl
        rw [if_neg (by omega), if_neg (by omega)] at hl ⊢
        simp only [List.length_append, fullsF, List.getD_cons_zero] at hl
        simp only [sizesF] at hn
        unfold plainsF at h5
        exact full_quant w1 k _ nc _ c so nn mm _ (word_at k (by omega)) ⟨by omega, by omega⟩ g o gn og P a x (fullF a) h4 h3 c0 (by omega) (by omega) (nds_one hds)
          (full_says n a (by omega) h5.1 (by omega) w1 P)
theorem full_calls (w : World) (P : Nat → Prop) (nd : Nd) (v : Value) (hp : plainF nd) (hl : (fullF nd).length ≤ 1000000000000) (h : NdV w P nd v) : Calls Tryz.prog 21 #[v] w fun e w' => e = .returned (.string ⟨(fullF nd).toArray⟩) ∧ Upto [] w w' :=
  full_says _ nd (Nat.le_refl _) hp hl w P v w (Upto.refl _ _) h
theorem conv_digit (wr : World) (m : Nat) : (convert 115 9 (.slice (some ⟨wr.heap.size, 0, none⟩) 1 1)).run Tryz.prog (wr.alloc (.cells #[.int .u8 (48 + (m : Int) % 10)] 5)) = .ok (.string ⟨[UInt8.ofNat (48 + m % 10)].toArray⟩) (wr.alloc (.cells #[.int .u8 (48 + (m : Int) % 10)] 5)) := by
  refine conv_str Tryz.underlying115 Tryz.underlying5 Tryz.underlying9 (Or.inr ⟨wr.heap.size, 0, 1, rfl, fun j u hj => ?_⟩)
  match j, hj with
  | 0, hj =>
    simp only [List.map_cons, List.getElem?_cons_zero, Option.some.injEq] at hj
    rw [← hj, cell_of (new_at _ _)]
    simp only [bv, digit_nat]
    rfl
  | j + 1, hj => simp at hj
theorem conv_dig (wr : World) (k : Nat) (hk : k < 10) : (convert 115 9 (.slice (some ⟨wr.heap.size, 0, none⟩) 1 1)).run Tryz.prog (wr.alloc (.cells #[.int .u8 (48 + (k : Int))] 5)) = .ok (.string ⟨#[UInt8.ofNat (48 + k)]⟩) (wr.alloc (.cells #[.int .u8 (48 + (k : Int))] 5)) := by
  have h := conv_digit wr k
  rw [Nat.mod_eq_of_lt hk, show (k : Int) % 10 = k by omega] at h
  exact h
set_option maxRecDepth 100000 in
set_option maxHeartbeats 3200000 in
theorem digits1_calls (k : Nat) (hk : k < 10) (w : World) : Calls Tryz.prog 55 #[.int .i64 k] w fun e w' => e = .returned (.string ⟨#[UInt8.ofNat (48 + k)]⟩) ∧ Upto [] w w' := by
  have hcv := conv_dig w k hk
  have q0 : (k : Int) < 10 := by omega
  have q1 : (0 : Int) ≤ k := by omega
  have HU := Lib.hid ((Upto.refl [] w).alloc (.cells #[.int .u8 (48 + (k : Int))] 5))
  go_enter Tryz.func55, Tryz.ntmps55
  go_wp2_with fail
  go_ret
  exact ⟨by rw [show UInt8.ofNat (48 + k) = 48 + UInt8.ofNat k from by simp [UInt8.ofNat_add]]; rfl, HU.out⟩
set_option maxRecDepth 100000 in
set_option maxHeartbeats 6400000 in
theorem full_is (w : World) (l1 : Option Addr) (n2 n3 l2 l3 : Nat) (so nn mm : Int) (g og : Nat) (x D : List UInt8) (hn2 : 1 ≤ n2) (hlx : x.length ≤ 1000000000000) (hD : D.length ≤ 100) (hx : w.cell? ⟨g, og, none⟩ = some (sV x)) (hd : ∀ u, Calls Tryz.prog 55 #[.int .i64 nn] u fun e w' => e = .returned (.string ⟨D.toArray⟩) ∧ Upto [] u w') :
    Calls Tryz.prog 21 #[.agg #[.int .i64 7, .slice (some ⟨g, og, none⟩) n2 n3, .int .i64 so, .int .i64 nn, .int .i64 mm, .slice l1 l2 l3]] w fun e w' => e = .returned (.string ⟨(x ++ [32, 105, 115, 32] ++ D).toArray⟩) ∧ Upto [] w w' := by
  have hu2 : Upto [] w ((w.alloc (.cells #[.int .i64 7, .slice (some ⟨g, og, none⟩) n2 n3, .int .i64 so, .int .i64 nn, .int .i64 mm, .slice l1 l2 l3] 25)).alloc (.cells #[.string ⟨#[116, 114, 117, 101]⟩, .string ⟨#[102, 97, 108, 115, 101]⟩, .string ⟨#[61]⟩, .string ⟨#[105, 110]⟩, .string ⟨#[115, 117, 98]⟩, .string ⟨#[97, 100, 106]⟩, .string ⟨#[111, 110]⟩, .string ⟨#[]⟩, .string ⟨#[]⟩, .string ⟨#[]⟩, .string ⟨#[]⟩, .string ⟨#[110, 111, 116]⟩, .string ⟨#[97, 110, 100]⟩, .string ⟨#[111, 114]⟩, .string ⟨#[105, 109, 112, 108, 105, 101, 115]⟩, .string ⟨#[105, 102, 102]⟩, .string ⟨#[115, 111, 109, 101]⟩, .string ⟨#[101, 118, 101, 114, 121]⟩] 9)) := ((Upto.refl [] w).alloc _).alloc _
  have HU2 := Lib.hid hu2
  have hb1 := alloc_old (new_at w (.cells #[.int .i64 7, .slice (some ⟨g, og, none⟩) n2 n3, .int .i64 so, .int .i64 nn, .int .i64 mm, .slice l1 l2 l3] 25)) (.cells #[.string ⟨#[116, 114, 117, 101]⟩, .string ⟨#[102, 97, 108, 115, 101]⟩, .string ⟨#[61]⟩, .string ⟨#[105, 110]⟩, .string ⟨#[115, 117, 98]⟩, .string ⟨#[97, 100, 106]⟩, .string ⟨#[111, 110]⟩, .string ⟨#[]⟩, .string ⟨#[]⟩, .string ⟨#[]⟩, .string ⟨#[]⟩, .string ⟨#[110, 111, 116]⟩, .string ⟨#[97, 110, 100]⟩, .string ⟨#[111, 114]⟩, .string ⟨#[105, 109, 112, 108, 105, 101, 115]⟩, .string ⟨#[105, 102, 102]⟩, .string ⟨#[115, 111, 109, 101]⟩, .string ⟨#[101, 118, 101, 114, 121]⟩] 9)
  have HD := Lib.hid hd
  obtain ⟨xa0, xa1, xa2, xa3, xa4, xa5⟩ := cells6 hb1
  obtain ⟨ya0, ya1, ya2, ya3, ya4, ya5⟩ := frees6 hb1
  have e0 : ∀ u : Ext ((w.alloc (.cells #[.int .i64 7, .slice (some ⟨g, og, none⟩) n2 n3, .int .i64 so, .int .i64 nn, .int .i64 mm, .slice l1 l2 l3] 25)).alloc (.cells #[.string ⟨#[116, 114, 117, 101]⟩, .string ⟨#[102, 97, 108, 115, 101]⟩, .string ⟨#[61]⟩, .string ⟨#[105, 110]⟩, .string ⟨#[115, 117, 98]⟩, .string ⟨#[97, 100, 106]⟩, .string ⟨#[111, 110]⟩, .string ⟨#[]⟩, .string ⟨#[]⟩, .string ⟨#[]⟩, .string ⟨#[]⟩, .string ⟨#[110, 111, 116]⟩, .string ⟨#[97, 110, 100]⟩, .string ⟨#[111, 114]⟩, .string ⟨#[105, 109, 112, 108, 105, 101, 115]⟩, .string ⟨#[105, 102, 102]⟩, .string ⟨#[115, 111, 109, 101]⟩, .string ⟨#[101, 118, 101, 114, 121]⟩] 9)), u.w.cell? ⟨w.heap.size, 0, none⟩ = some (.int .i64 7) := fun u => u.cell (cell_of hb1 0)
  have e1 : ∀ u : Ext ((w.alloc (.cells #[.int .i64 7, .slice (some ⟨g, og, none⟩) n2 n3, .int .i64 so, .int .i64 nn, .int .i64 mm, .slice l1 l2 l3] 25)).alloc (.cells #[.string ⟨#[116, 114, 117, 101]⟩, .string ⟨#[102, 97, 108, 115, 101]⟩, .string ⟨#[61]⟩, .string ⟨#[105, 110]⟩, .string ⟨#[115, 117, 98]⟩, .string ⟨#[97, 100, 106]⟩, .string ⟨#[111, 110]⟩, .string ⟨#[]⟩, .string ⟨#[]⟩, .string ⟨#[]⟩, .string ⟨#[]⟩, .string ⟨#[110, 111, 116]⟩, .string ⟨#[97, 110, 100]⟩, .string ⟨#[111, 114]⟩, .string ⟨#[105, 109, 112, 108, 105, 101, 115]⟩, .string ⟨#[105, 102, 102]⟩, .string ⟨#[115, 111, 109, 101]⟩, .string ⟨#[101, 118, 101, 114, 121]⟩] 9)), u.w.cell? ⟨w.heap.size, 1, none⟩ = some (.slice (some ⟨g, og, none⟩) n2 n3) := fun u => u.cell (cell_of hb1 1)
  have e3 : ∀ u : Ext ((w.alloc (.cells #[.int .i64 7, .slice (some ⟨g, og, none⟩) n2 n3, .int .i64 so, .int .i64 nn, .int .i64 mm, .slice l1 l2 l3] 25)).alloc (.cells #[.string ⟨#[116, 114, 117, 101]⟩, .string ⟨#[102, 97, 108, 115, 101]⟩, .string ⟨#[61]⟩, .string ⟨#[105, 110]⟩, .string ⟨#[115, 117, 98]⟩, .string ⟨#[97, 100, 106]⟩, .string ⟨#[111, 110]⟩, .string ⟨#[]⟩, .string ⟨#[]⟩, .string ⟨#[]⟩, .string ⟨#[]⟩, .string ⟨#[110, 111, 116]⟩, .string ⟨#[97, 110, 100]⟩, .string ⟨#[111, 114]⟩, .string ⟨#[105, 109, 112, 108, 105, 101, 115]⟩, .string ⟨#[105, 102, 102]⟩, .string ⟨#[115, 111, 109, 101]⟩, .string ⟨#[101, 118, 101, 114, 121]⟩] 9)), u.w.cell? ⟨w.heap.size, 3, none⟩ = some (.int .i64 nn) := fun u => u.cell (cell_of hb1 3)
  have ex : ∀ u : Ext ((w.alloc (.cells #[.int .i64 7, .slice (some ⟨g, og, none⟩) n2 n3, .int .i64 so, .int .i64 nn, .int .i64 mm, .slice l1 l2 l3] 25)).alloc (.cells #[.string ⟨#[116, 114, 117, 101]⟩, .string ⟨#[102, 97, 108, 115, 101]⟩, .string ⟨#[61]⟩, .string ⟨#[105, 110]⟩, .string ⟨#[115, 117, 98]⟩, .string ⟨#[97, 100, 106]⟩, .string ⟨#[111, 110]⟩, .string ⟨#[]⟩, .string ⟨#[]⟩, .string ⟨#[]⟩, .string ⟨#[]⟩, .string ⟨#[110, 111, 116]⟩, .string ⟨#[97, 110, 100]⟩, .string ⟨#[111, 114]⟩, .string ⟨#[105, 109, 112, 108, 105, 101, 115]⟩, .string ⟨#[105, 102, 102]⟩, .string ⟨#[115, 111, 109, 101]⟩, .string ⟨#[101, 118, 101, 114, 121]⟩] 9)), u.w.cell? ⟨g, og, none⟩ = some (.string ⟨x.toArray⟩) := fun u => u.cell ((hu2.cell (p := ⟨g, og, none⟩) (World.block_lt_of_cell? w _ hx) (by simp)).trans hx)
  have q0 : (0 : Int) < n2 := by omega
  have sm0 : x.length + 4 ≤ 9223372036854775807 := by omega
  have sm1 : x.length + 4 + D.length ≤ 9223372036854775807 := by omega
  clear hu2 hb1 hx hlx hD hd
  go_enter Tryz.func21, Tryz.ntmps21
  go_wp2_with fail
  refine wp_region_seg_all [7] [] [0, 1, 2, 3, 4, 5, 6, 7, 8, 9] (by kernel_rfl) (by kernel_rfl) ?_
  iterate 7 (refine seg_plain rfl rfl rfl rfl rfl ?_; intro K' hK'; go_big_quiet_op; go_big_quiet_on)
  refine seg_call rfl rfl rfl rfl (fun w => by go_simp) (fun w hu hd => HD.out w) ?_
  simp only [Act.put, List.setIfInBounds_toArray, List.set_cons_zero, List.set_cons_succ]
  iterate 2 (refine seg_plain rfl rfl rfl rfl rfl ?_; intro K' hK'; go_big_quiet_op; go_big_quiet_on)
  intro w9 hg
  have HU3 := Lib.hid (HU2.out.trans_ext hg.up)
  clear hg e0 e1 e3 ex
  go_wp2_with fail
  go_ret
  exact ⟨congrArg (fun z => Ending.returned (.string z)) (show ByteArray.mk x.toArray ++ ByteArray.mk [32, 105, 115, 32].toArray ++ ByteArray.mk D.toArray = ⟨(x ++ [32, 105, 115, 32] ++ D).toArray⟩ by simp only [ByteArray.mk_append_mk]), HU3.out⟩
theorem conv_byte (W : World) (B b : Nat) (hb : b < 10) (h : W.cell? ⟨B, 0, none⟩ = some (.int .u8 (48 + (b : Int)))) : (convert 115 9 (.slice (some ⟨B, 0, none⟩) 1 1)).run Tryz.prog W = .ok (.string ⟨#[UInt8.ofNat (48 + b)]⟩) W := by
  refine conv_str Tryz.underlying115 Tryz.underlying5 Tryz.underlying9 (Or.inr ⟨B, 0, 1, rfl, fun j u hj => ?_⟩)
  match j, hj with
  | 0, hj =>
    simp only [List.map_cons, List.getElem?_cons_zero, Option.some.injEq] at hj
    rw [← hj, h]
    have := digit_nat b
    rw [Nat.mod_eq_of_lt hb] at this
    simp only [bv, this]
    rfl
  | j + 1, hj => simp at hj
set_option maxRecDepth 100000 in
set_option maxHeartbeats 1600000 in
theorem digits2_calls (a b : Nat) (ha : 1 ≤ a ∧ a < 10) (hb : b < 10) (n : Int) (hn : n = 10 * a + b) (w : World) : Calls Tryz.prog 55 #[.int .i64 n] w fun e w' => e = .returned (.string ⟨#[UInt8.ofNat (48 + a), UInt8.ofNat (48 + b)]⟩) ∧ Upto [] w w' := by
  have q0 : ¬ n < 10 := by omega
  have t0 : n.tdiv 10 = (a : Int) := by rw [Int.tdiv_eq_ediv_of_nonneg (by omega)]; omega
  have t1 : n.tmod 10 = (b : Int) := by rw [Int.tmod_eq_emod_of_nonneg (by omega)]; omega
  have t2 : n / 10 = (a : Int) := by omega
  have t3 : n % 10 = (b : Int) := by omega
  have hcv : ∀ wr : World, (convert 115 9 (.slice (some ⟨wr.heap.size, 0, none⟩) 1 1)).run Tryz.prog (wr.alloc (.cells #[.int .u8 (48 + (b : Int))] 5)) = .ok (.string ⟨#[UInt8.ofNat (48 + b)]⟩) (wr.alloc (.cells #[.int .u8 (48 + (b : Int))] 5)) := fun wr => conv_dig wr b hb
  have HD := Lib.hid (fun u : World => digits1_calls a ha.2 u)
  have q1 : (0 : Int) ≤ a := by omega
  have q2 : (a : Int) ≤ 9 := by omega
  have q3 : (0 : Int) ≤ b := by omega
  have q4 : (b : Int) ≤ 9 := by omega
  have hwa : IntKind.i64.wrap (a : Int) = a := (show ∀ x : _root_.Fin 10, IntKind.i64.wrap (x.val : Int) = x.val by decide) ⟨a, ha.2⟩
  have hwb : IntKind.i64.wrap (48 + (b : Int)) = 48 + b := (show ∀ x : _root_.Fin 10, IntKind.i64.wrap (48 + (x.val : Int)) = 48 + x.val by decide) ⟨b, hb⟩
  have hwc : IntKind.u8.wrap (48 + (b : Int)) = 48 + b := (show ∀ x : _root_.Fin 10, IntKind.u8.wrap (48 + (x.val : Int)) = 48 + x.val by decide) ⟨b, hb⟩
  clear hn
  have HCV := Lib.hid hcv
  clear hcv
  go_enter Tryz.func55, Tryz.ntmps55
  go_wp2_with fail
  have h0 := HCV.out w.drew
  have h1 := conv_byte (w.alloc (.cells #[.int .u8 (48 + (b : Int))] 5)).drew w.heap.size b hb (cell_of (new_at w (.cells #[.int .u8 (48 + (b : Int))] 5)) 0)
  go_region_with (
      go_at_call 55
      refine (HD.out _).mono ?_
      rintro e w2 ⟨rfl, hu5⟩
      have hcv2 := HCV.out w2
      try have hcv3 := conv_byte w2 w.heap.size b hb ((hu5.cell (p := ⟨w.heap.size, 0, none⟩) (by simp) (by simp)).trans (cell_of (new_at w (.cells #[.int .u8 (48 + (b : Int))] 5)) 0))
      try have hcv4 := HCV.out w2.drew)
  all_goals (
    have hup : Upto [] w w2 := by first | exact (Upto.refl [] w).drew.trans_ext hu5 | exact (((Upto.refl [] w).alloc _).drew).trans_ext hu5 | exact ((Upto.refl [] w).alloc _).trans_ext hu5
    have HUP := Lib.hid (hup.alloc (.cells #[.int .u8 (48 + (b : Int))] 5))
    have HUQ := Lib.hid hup
    clear hu5 hup
    go_wp2
    go_ret
    exact ⟨congrArg (fun z => Ending.returned (.string z)) (by rw [show UInt8.ofNat (48 + a) = 48 + UInt8.ofNat a from by simp [UInt8.ofNat_add], show UInt8.ofNat (48 + b) = 48 + UInt8.ofNat b from by simp [UInt8.ofNat_add]]; exact ByteArray.mk_append_mk [_] [_]), by first | exact HUQ.out | exact HUP.out | exact HUQ.out.drew | exact HUP.out.drew⟩)
set_option maxRecDepth 100000 in
set_option maxHeartbeats 3200000 in
theorem full_tf (w : World) (k : Nat) (hk : k < 2) (n1 : Option Addr) (n2 n3 : Nat) (l1 : Option Addr) (l2 l3 : Nat) (so nn mm : Int) : Calls Tryz.prog 21 #[.agg #[.int .i64 (k : Int), .slice n1 n2 n3, .int .i64 so, .int .i64 nn, .int .i64 mm, .slice l1 l2 l3]] w fun e w' => e = .returned (.string ⟨(wordsF.getD k []).toArray⟩) ∧ Upto [] w w' := by
  have hk2 : k = 0 ∨ k = 1 := by omega
  rcases hk2 with rfl | rfl
  · have hu2 : Upto [] w ((w.alloc (.cells #[.int .i64 0, .slice n1 n2 n3, .int .i64 so, .int .i64 nn, .int .i64 mm, .slice l1 l2 l3] 25)).alloc (.cells #[.string ⟨#[116, 114, 117, 101]⟩, .string ⟨#[102, 97, 108, 115, 101]⟩, .string ⟨#[61]⟩, .string ⟨#[105, 110]⟩, .string ⟨#[115, 117, 98]⟩, .string ⟨#[97, 100, 106]⟩, .string ⟨#[111, 110]⟩, .string ⟨#[]⟩, .string ⟨#[]⟩, .string ⟨#[]⟩, .string ⟨#[]⟩, .string ⟨#[110, 111, 116]⟩, .string ⟨#[97, 110, 100]⟩, .string ⟨#[111, 114]⟩, .string ⟨#[105, 109, 112, 108, 105, 101, 115]⟩, .string ⟨#[105, 102, 102]⟩, .string ⟨#[115, 111, 109, 101]⟩, .string ⟨#[101, 118, 101, 114, 121]⟩] 9)) := ((Upto.refl [] w).alloc _).alloc _
    have HU2 := Lib.hid hu2
    have hb2 := new_at1 w (.cells #[.int .i64 0, .slice n1 n2 n3, .int .i64 so, .int .i64 nn, .int .i64 mm, .slice l1 l2 l3] 25) (.cells #[.string ⟨#[116, 114, 117, 101]⟩, .string ⟨#[102, 97, 108, 115, 101]⟩, .string ⟨#[61]⟩, .string ⟨#[105, 110]⟩, .string ⟨#[115, 117, 98]⟩, .string ⟨#[97, 100, 106]⟩, .string ⟨#[111, 110]⟩, .string ⟨#[]⟩, .string ⟨#[]⟩, .string ⟨#[]⟩, .string ⟨#[]⟩, .string ⟨#[110, 111, 116]⟩, .string ⟨#[97, 110, 100]⟩, .string ⟨#[111, 114]⟩, .string ⟨#[105, 109, 112, 108, 105, 101, 115]⟩, .string ⟨#[105, 102, 102]⟩, .string ⟨#[115, 111, 109, 101]⟩, .string ⟨#[101, 118, 101, 114, 121]⟩] 9)
    have y0 := cell_of hb2 0
    simp only [List.getElem?_toArray, List.getElem?_cons_zero] at y0
    clear hu2 hb2
    go_enter Tryz.func21, Tryz.ntmps21
    go_wp2_with fail
    go_ret
    exact ⟨rfl, HU2.out⟩
  · have hu2 : Upto [] w ((w.alloc (.cells #[.int .i64 1, .slice n1 n2 n3, .int .i64 so, .int .i64 nn, .int .i64 mm, .slice l1 l2 l3] 25)).alloc (.cells #[.string ⟨#[116, 114, 117, 101]⟩, .string ⟨#[102, 97, 108, 115, 101]⟩, .string ⟨#[61]⟩, .string ⟨#[105, 110]⟩, .string ⟨#[115, 117, 98]⟩, .string ⟨#[97, 100, 106]⟩, .string ⟨#[111, 110]⟩, .string ⟨#[]⟩, .string ⟨#[]⟩, .string ⟨#[]⟩, .string ⟨#[]⟩, .string ⟨#[110, 111, 116]⟩, .string ⟨#[97, 110, 100]⟩, .string ⟨#[111, 114]⟩, .string ⟨#[105, 109, 112, 108, 105, 101, 115]⟩, .string ⟨#[105, 102, 102]⟩, .string ⟨#[115, 111, 109, 101]⟩, .string ⟨#[101, 118, 101, 114, 121]⟩] 9)) := ((Upto.refl [] w).alloc _).alloc _
    have HU2 := Lib.hid hu2
    have hb2 := new_at1 w (.cells #[.int .i64 1, .slice n1 n2 n3, .int .i64 so, .int .i64 nn, .int .i64 mm, .slice l1 l2 l3] 25) (.cells #[.string ⟨#[116, 114, 117, 101]⟩, .string ⟨#[102, 97, 108, 115, 101]⟩, .string ⟨#[61]⟩, .string ⟨#[105, 110]⟩, .string ⟨#[115, 117, 98]⟩, .string ⟨#[97, 100, 106]⟩, .string ⟨#[111, 110]⟩, .string ⟨#[]⟩, .string ⟨#[]⟩, .string ⟨#[]⟩, .string ⟨#[]⟩, .string ⟨#[110, 111, 116]⟩, .string ⟨#[97, 110, 100]⟩, .string ⟨#[111, 114]⟩, .string ⟨#[105, 109, 112, 108, 105, 101, 115]⟩, .string ⟨#[105, 102, 102]⟩, .string ⟨#[115, 111, 109, 101]⟩, .string ⟨#[101, 118, 101, 114, 121]⟩] 9)
    have y0 := cell_of hb2 1
    simp only [List.getElem?_toArray, List.getElem?_cons_zero, List.getElem?_cons_succ] at y0
    clear hu2 hb2
    go_enter Tryz.func21, Tryz.ntmps21
    go_wp2_with fail
    go_ret
    exact ⟨rfl, HU2.out⟩
set_option maxRecDepth 100000 in
set_option maxHeartbeats 6400000 in
theorem full_one (w : World) (l1 : Option Addr) (n2 n3 l2 l3 : Nat) (so nn mm : Int) (g og : Nat) (x : List UInt8) (hn2 : 1 ≤ n2) (hlx : x.length ≤ 1000000000000) (hx : w.cell? ⟨g, og, none⟩ = some (sV x)) :
    Calls Tryz.prog 21 #[.agg #[.int .i64 9, .slice (some ⟨g, og, none⟩) n2 n3, .int .i64 so, .int .i64 nn, .int .i64 mm, .slice l1 l2 l3]] w fun e w' => e = .returned (.string ⟨([111, 110, 101, 32] ++ x).toArray⟩) ∧ Upto [] w w' := by
  have hu2 : Upto [] w ((w.alloc (.cells #[.int .i64 9, .slice (some ⟨g, og, none⟩) n2 n3, .int .i64 so, .int .i64 nn, .int .i64 mm, .slice l1 l2 l3] 25)).alloc (.cells #[.string ⟨#[116, 114, 117, 101]⟩, .string ⟨#[102, 97, 108, 115, 101]⟩, .string ⟨#[61]⟩, .string ⟨#[105, 110]⟩, .string ⟨#[115, 117, 98]⟩, .string ⟨#[97, 100, 106]⟩, .string ⟨#[111, 110]⟩, .string ⟨#[]⟩, .string ⟨#[]⟩, .string ⟨#[]⟩, .string ⟨#[]⟩, .string ⟨#[110, 111, 116]⟩, .string ⟨#[97, 110, 100]⟩, .string ⟨#[111, 114]⟩, .string ⟨#[105, 109, 112, 108, 105, 101, 115]⟩, .string ⟨#[105, 102, 102]⟩, .string ⟨#[115, 111, 109, 101]⟩, .string ⟨#[101, 118, 101, 114, 121]⟩] 9)) := ((Upto.refl [] w).alloc _).alloc _
  have HU2 := Lib.hid hu2
  have hb1 := alloc_old (new_at w (.cells #[.int .i64 9, .slice (some ⟨g, og, none⟩) n2 n3, .int .i64 so, .int .i64 nn, .int .i64 mm, .slice l1 l2 l3] 25)) (.cells #[.string ⟨#[116, 114, 117, 101]⟩, .string ⟨#[102, 97, 108, 115, 101]⟩, .string ⟨#[61]⟩, .string ⟨#[105, 110]⟩, .string ⟨#[115, 117, 98]⟩, .string ⟨#[97, 100, 106]⟩, .string ⟨#[111, 110]⟩, .string ⟨#[]⟩, .string ⟨#[]⟩, .string ⟨#[]⟩, .string ⟨#[]⟩, .string ⟨#[110, 111, 116]⟩, .string ⟨#[97, 110, 100]⟩, .string ⟨#[111, 114]⟩, .string ⟨#[105, 109, 112, 108, 105, 101, 115]⟩, .string ⟨#[105, 102, 102]⟩, .string ⟨#[115, 111, 109, 101]⟩, .string ⟨#[101, 118, 101, 114, 121]⟩] 9)
  obtain ⟨xa0, xa1, xa2, xa3, xa4, xa5⟩ := cells6 hb1
  replace hx := up_cell hu2 hx
  unfold sV at hx
  have q0 : (0 : Int) < n2 := by omega
  have s0 : (ByteArray.mk x.toArray).size = x.length := rfl
  have sm0 : 4 + x.length ≤ 9223372036854775807 := by omega
  clear hu2 hb1 hlx
  go_enter Tryz.func21, Tryz.ntmps21
  go_wp2_with fail
  go_ret
  exact ⟨congrArg (fun z => Ending.returned (.string z)) (show ByteArray.mk [111, 110, 101, 32].toArray ++ ByteArray.mk x.toArray = ⟨([111, 110, 101, 32] ++ x).toArray⟩ by rw [ByteArray.mk_append_mk]), HU2.out⟩
set_option maxRecDepth 100000 in
set_option maxHeartbeats 6400000 in
theorem full_size (w : World) (l1 : Option Addr) (n2 n3 l2 l3 : Nat) (so nn mm : Int) (g og : Nat) (x D E : List UInt8) (hn2 : 1 ≤ n2) (hlx : x.length ≤ 1000000000000) (hD : D.length ≤ 100) (hE : E.length ≤ 100) (hx : w.cell? ⟨g, og, none⟩ = some (sV x)) (hd : ∀ u, Calls Tryz.prog 55 #[.int .i64 mm] u fun e w' => e = .returned (.string ⟨D.toArray⟩) ∧ Upto [] u w') (he : ∀ u, Calls Tryz.prog 55 #[.int .i64 nn] u fun e w' => e = .returned (.string ⟨E.toArray⟩) ∧ Upto [] u w') :
    Calls Tryz.prog 21 #[.agg #[.int .i64 8, .slice (some ⟨g, og, none⟩) n2 n3, .int .i64 so, .int .i64 nn, .int .i64 mm, .slice l1 l2 l3]] w fun e w' => e = .returned (.string ⟨([115, 105, 122, 101, 32] ++ x ++ [32, 109, 111, 100, 32] ++ D ++ [32, 105, 115, 32] ++ E).toArray⟩) ∧ Upto [] w w' := by
  have hu2 : Upto [] w ((w.alloc (.cells #[.int .i64 8, .slice (some ⟨g, og, none⟩) n2 n3, .int .i64 so, .int .i64 nn, .int .i64 mm, .slice l1 l2 l3] 25)).alloc (.cells #[.string ⟨#[116, 114, 117, 101]⟩, .string ⟨#[102, 97, 108, 115, 101]⟩, .string ⟨#[61]⟩, .string ⟨#[105, 110]⟩, .string ⟨#[115, 117, 98]⟩, .string ⟨#[97, 100, 106]⟩, .string ⟨#[111, 110]⟩, .string ⟨#[]⟩, .string ⟨#[]⟩, .string ⟨#[]⟩, .string ⟨#[]⟩, .string ⟨#[110, 111, 116]⟩, .string ⟨#[97, 110, 100]⟩, .string ⟨#[111, 114]⟩, .string ⟨#[105, 109, 112, 108, 105, 101, 115]⟩, .string ⟨#[105, 102, 102]⟩, .string ⟨#[115, 111, 109, 101]⟩, .string ⟨#[101, 118, 101, 114, 121]⟩] 9)) := ((Upto.refl [] w).alloc _).alloc _
  have HU2 := Lib.hid hu2
  have hb1 := alloc_old (new_at w (.cells #[.int .i64 8, .slice (some ⟨g, og, none⟩) n2 n3, .int .i64 so, .int .i64 nn, .int .i64 mm, .slice l1 l2 l3] 25)) (.cells #[.string ⟨#[116, 114, 117, 101]⟩, .string ⟨#[102, 97, 108, 115, 101]⟩, .string ⟨#[61]⟩, .string ⟨#[105, 110]⟩, .string ⟨#[115, 117, 98]⟩, .string ⟨#[97, 100, 106]⟩, .string ⟨#[111, 110]⟩, .string ⟨#[]⟩, .string ⟨#[]⟩, .string ⟨#[]⟩, .string ⟨#[]⟩, .string ⟨#[110, 111, 116]⟩, .string ⟨#[97, 110, 100]⟩, .string ⟨#[111, 114]⟩, .string ⟨#[105, 109, 112, 108, 105, 101, 115]⟩, .string ⟨#[105, 102, 102]⟩, .string ⟨#[115, 111, 109, 101]⟩, .string ⟨#[101, 118, 101, 114, 121]⟩] 9)
  obtain ⟨xa0, xa1, xa2, xa3, xa4, xa5⟩ := cells6 hb1
  obtain ⟨ya0, ya1, ya2, ya3, ya4, ya5⟩ := frees6 hb1
  have HD := Lib.hid hd
  have HE := Lib.hid he
  have e0 : ∀ u : Ext ((w.alloc (.cells #[.int .i64 8, .slice (some ⟨g, og, none⟩) n2 n3, .int .i64 so, .int .i64 nn, .int .i64 mm, .slice l1 l2 l3] 25)).alloc (.cells #[.string ⟨#[116, 114, 117, 101]⟩, .string ⟨#[102, 97, 108, 115, 101]⟩, .string ⟨#[61]⟩, .string ⟨#[105, 110]⟩, .string ⟨#[115, 117, 98]⟩, .string ⟨#[97, 100, 106]⟩, .string ⟨#[111, 110]⟩, .string ⟨#[]⟩, .string ⟨#[]⟩, .string ⟨#[]⟩, .string ⟨#[]⟩, .string ⟨#[110, 111, 116]⟩, .string ⟨#[97, 110, 100]⟩, .string ⟨#[111, 114]⟩, .string ⟨#[105, 109, 112, 108, 105, 101, 115]⟩, .string ⟨#[105, 102, 102]⟩, .string ⟨#[115, 111, 109, 101]⟩, .string ⟨#[101, 118, 101, 114, 121]⟩] 9)), u.w.cell? ⟨w.heap.size, 0, none⟩ = some (.int .i64 8) := fun u => u.cell (cell_of hb1 0)
  have e1 : ∀ u : Ext ((w.alloc (.cells #[.int .i64 8, .slice (some ⟨g, og, none⟩) n2 n3, .int .i64 so, .int .i64 nn, .int .i64 mm, .slice l1 l2 l3] 25)).alloc (.cells #[.string ⟨#[116, 114, 117, 101]⟩, .string ⟨#[102, 97, 108, 115, 101]⟩, .string ⟨#[61]⟩, .string ⟨#[105, 110]⟩, .string ⟨#[115, 117, 98]⟩, .string ⟨#[97, 100, 106]⟩, .string ⟨#[111, 110]⟩, .string ⟨#[]⟩, .string ⟨#[]⟩, .string ⟨#[]⟩, .string ⟨#[]⟩, .string ⟨#[110, 111, 116]⟩, .string ⟨#[97, 110, 100]⟩, .string ⟨#[111, 114]⟩, .string ⟨#[105, 109, 112, 108, 105, 101, 115]⟩, .string ⟨#[105, 102, 102]⟩, .string ⟨#[115, 111, 109, 101]⟩, .string ⟨#[101, 118, 101, 114, 121]⟩] 9)), u.w.cell? ⟨w.heap.size, 1, none⟩ = some (.slice (some ⟨g, og, none⟩) n2 n3) := fun u => u.cell (cell_of hb1 1)
  have e3 : ∀ u : Ext ((w.alloc (.cells #[.int .i64 8, .slice (some ⟨g, og, none⟩) n2 n3, .int .i64 so, .int .i64 nn, .int .i64 mm, .slice l1 l2 l3] 25)).alloc (.cells #[.string ⟨#[116, 114, 117, 101]⟩, .string ⟨#[102, 97, 108, 115, 101]⟩, .string ⟨#[61]⟩, .string ⟨#[105, 110]⟩, .string ⟨#[115, 117, 98]⟩, .string ⟨#[97, 100, 106]⟩, .string ⟨#[111, 110]⟩, .string ⟨#[]⟩, .string ⟨#[]⟩, .string ⟨#[]⟩, .string ⟨#[]⟩, .string ⟨#[110, 111, 116]⟩, .string ⟨#[97, 110, 100]⟩, .string ⟨#[111, 114]⟩, .string ⟨#[105, 109, 112, 108, 105, 101, 115]⟩, .string ⟨#[105, 102, 102]⟩, .string ⟨#[115, 111, 109, 101]⟩, .string ⟨#[101, 118, 101, 114, 121]⟩] 9)), u.w.cell? ⟨w.heap.size, 3, none⟩ = some (.int .i64 nn) := fun u => u.cell (cell_of hb1 3)
  have e4 : ∀ u : Ext ((w.alloc (.cells #[.int .i64 8, .slice (some ⟨g, og, none⟩) n2 n3, .int .i64 so, .int .i64 nn, .int .i64 mm, .slice l1 l2 l3] 25)).alloc (.cells #[.string ⟨#[116, 114, 117, 101]⟩, .string ⟨#[102, 97, 108, 115, 101]⟩, .string ⟨#[61]⟩, .string ⟨#[105, 110]⟩, .string ⟨#[115, 117, 98]⟩, .string ⟨#[97, 100, 106]⟩, .string ⟨#[111, 110]⟩, .string ⟨#[]⟩, .string ⟨#[]⟩, .string ⟨#[]⟩, .string ⟨#[]⟩, .string ⟨#[110, 111, 116]⟩, .string ⟨#[97, 110, 100]⟩, .string ⟨#[111, 114]⟩, .string ⟨#[105, 109, 112, 108, 105, 101, 115]⟩, .string ⟨#[105, 102, 102]⟩, .string ⟨#[115, 111, 109, 101]⟩, .string ⟨#[101, 118, 101, 114, 121]⟩] 9)), u.w.cell? ⟨w.heap.size, 4, none⟩ = some (.int .i64 mm) := fun u => u.cell (cell_of hb1 4)
  have ex : ∀ u : Ext ((w.alloc (.cells #[.int .i64 8, .slice (some ⟨g, og, none⟩) n2 n3, .int .i64 so, .int .i64 nn, .int .i64 mm, .slice l1 l2 l3] 25)).alloc (.cells #[.string ⟨#[116, 114, 117, 101]⟩, .string ⟨#[102, 97, 108, 115, 101]⟩, .string ⟨#[61]⟩, .string ⟨#[105, 110]⟩, .string ⟨#[115, 117, 98]⟩, .string ⟨#[97, 100, 106]⟩, .string ⟨#[111, 110]⟩, .string ⟨#[]⟩, .string ⟨#[]⟩, .string ⟨#[]⟩, .string ⟨#[]⟩, .string ⟨#[110, 111, 116]⟩, .string ⟨#[97, 110, 100]⟩, .string ⟨#[111, 114]⟩, .string ⟨#[105, 109, 112, 108, 105, 101, 115]⟩, .string ⟨#[105, 102, 102]⟩, .string ⟨#[115, 111, 109, 101]⟩, .string ⟨#[101, 118, 101, 114, 121]⟩] 9)), u.w.cell? ⟨g, og, none⟩ = some (.string ⟨x.toArray⟩) := fun u => u.cell ((hu2.cell (p := ⟨g, og, none⟩) (World.block_lt_of_cell? w _ hx) (by simp)).trans hx)
  have q0 : (0 : Int) < n2 := by omega
  have sm0 : 5 + x.length ≤ 9223372036854775807 := by omega
  have sm1 : 5 + x.length + 5 ≤ 9223372036854775807 := by omega
  have sm2 : 5 + x.length + 5 + D.length ≤ 9223372036854775807 := by omega
  have sm3 : 5 + x.length + 5 + D.length + 4 ≤ 9223372036854775807 := by omega
  have sm4 : 5 + x.length + 5 + D.length + 4 + E.length ≤ 9223372036854775807 := by omega
  clear hu2 hb1 hx hlx hD hE hd he
  go_enter Tryz.func21, Tryz.ntmps21
  go_wp2_with fail
  refine wp_region_seg_all [8, 13] [] [0, 1, 2, 3, 4, 5, 6, 7, 8, 9, 10, 11, 12, 13, 14, 15] (by kernel_rfl) (by kernel_rfl) ?_
  iterate 8 (refine seg_plain rfl rfl rfl rfl rfl ?_; intro K' hK'; go_big_quiet_op; go_big_quiet_on)
  refine seg_call rfl rfl rfl rfl (fun w => by go_simp) (fun w hu hd => HD.out w) ?_
  simp only [Act.put, List.setIfInBounds_toArray, List.set_cons_zero, List.set_cons_succ]
  iterate 4 (refine seg_plain rfl rfl rfl rfl rfl ?_; intro K' hK'; go_big_quiet_op; go_big_quiet_on)
  refine seg_call rfl rfl rfl rfl (fun w => by go_simp) (fun w hu hd => HE.out w) ?_
  simp only [Act.put, List.setIfInBounds_toArray, List.set_cons_zero, List.set_cons_succ]
  iterate 2 (refine seg_plain rfl rfl rfl rfl rfl ?_; intro K' hK'; go_big_quiet_op; go_big_quiet_on)
  intro w9 hg
  have HU3 := Lib.hid (HU2.out.trans_ext hg.up)
  clear hg e0 e1 e3 e4 ex
  go_wp2_with fail
  go_ret
  exact ⟨congrArg (fun z => Ending.returned (.string z)) (show ByteArray.mk [115, 105, 122, 101, 32].toArray ++ ByteArray.mk x.toArray ++ ByteArray.mk [32, 109, 111, 100, 32].toArray ++ ByteArray.mk D.toArray ++ ByteArray.mk [32, 105, 115, 32].toArray ++ ByteArray.mk E.toArray = ⟨([115, 105, 122, 101, 32] ++ x ++ [32, 109, 111, 100, 32] ++ D ++ [32, 105, 115, 32] ++ E).toArray⟩ by simp only [ByteArray.mk_append_mk]), HU3.out⟩
set_option maxRecDepth 100000 in
set_option maxHeartbeats 6400000 in
theorem full_not (w : World) (n1 : Option Addr) (n2 n3 l2 l3 : Nat) (so nn mm : Int) (g og : Nat) (P : Nat → Prop) (a : Nd) (sa : List UInt8) (hl2 : 1 ≤ l2) (hx : NdsV w P g og [a]) (hly : sa.length ≤ 1000000000000) (ha : Says w P a sa) :
    Calls Tryz.prog 21 #[.agg #[.int .i64 11, .slice n1 n2 n3, .int .i64 so, .int .i64 nn, .int .i64 mm, .slice (some ⟨g, og, none⟩) l2 l3]] w fun e w' => e = .returned (.string ⟨([110, 111, 116, 32, 40] ++ sa ++ [41]).toArray⟩) ∧ Upto [] w w' := by
  have hu2 : Upto [] w ((w.alloc (.cells #[.int .i64 11, .slice n1 n2 n3, .int .i64 so, .int .i64 nn, .int .i64 mm, .slice (some ⟨g, og, none⟩) l2 l3] 25)).alloc (.cells #[.string ⟨#[116, 114, 117, 101]⟩, .string ⟨#[102, 97, 108, 115, 101]⟩, .string ⟨#[61]⟩, .string ⟨#[105, 110]⟩, .string ⟨#[115, 117, 98]⟩, .string ⟨#[97, 100, 106]⟩, .string ⟨#[111, 110]⟩, .string ⟨#[]⟩, .string ⟨#[]⟩, .string ⟨#[]⟩, .string ⟨#[]⟩, .string ⟨#[110, 111, 116]⟩, .string ⟨#[97, 110, 100]⟩, .string ⟨#[111, 114]⟩, .string ⟨#[105, 109, 112, 108, 105, 101, 115]⟩, .string ⟨#[105, 102, 102]⟩, .string ⟨#[115, 111, 109, 101]⟩, .string ⟨#[101, 118, 101, 114, 121]⟩] 9)) := ((Upto.refl [] w).alloc _).alloc _
  have HU2 := Lib.hid hu2
  have hb1 := alloc_old (new_at w (.cells #[.int .i64 11, .slice n1 n2 n3, .int .i64 so, .int .i64 nn, .int .i64 mm, .slice (some ⟨g, og, none⟩) l2 l3] 25)) (.cells #[.string ⟨#[116, 114, 117, 101]⟩, .string ⟨#[102, 97, 108, 115, 101]⟩, .string ⟨#[61]⟩, .string ⟨#[105, 110]⟩, .string ⟨#[115, 117, 98]⟩, .string ⟨#[97, 100, 106]⟩, .string ⟨#[111, 110]⟩, .string ⟨#[]⟩, .string ⟨#[]⟩, .string ⟨#[]⟩, .string ⟨#[]⟩, .string ⟨#[110, 111, 116]⟩, .string ⟨#[97, 110, 100]⟩, .string ⟨#[111, 114]⟩, .string ⟨#[105, 109, 112, 108, 105, 101, 115]⟩, .string ⟨#[105, 102, 102]⟩, .string ⟨#[115, 111, 109, 101]⟩, .string ⟨#[101, 118, 101, 114, 121]⟩] 9)
  obtain ⟨xa0, xa1, xa2, xa3, xa4, xa5⟩ := cells6 hb1
  unfold NdsV NdsV at hx
  obtain ⟨⟨_, _, _, _, _, _, ac0, ac1, ac2, ac3, ac4, ac5, an⟩, -⟩ := hx
  obtain ⟨ao, an1, an2, an3, aso, am, aq, al1, al2, al3, ae⟩ := an.six
  simp only [Value.agg.injEq, Array.mk.injEq, List.cons.injEq, and_true] at ae
  obtain ⟨rfl, rfl, rfl, rfl, rfl, rfl⟩ := ae
  replace ac0 := up_cell hu2 ac0
  replace ac1 := up_cell hu2 ac1
  replace ac2 := up_cell hu2 ac2
  replace ac3 := up_cell hu2 ac3
  replace ac4 := up_cell hu2 ac4
  replace ac5 := up_cell hu2 ac5
  have HC := Lib.hid (ha _ _ hu2 (an.ext hu2))
  have q0 : (0 : Int) < l2 := by omega
  have s0 : (ByteArray.mk sa.toArray).size = sa.length := rfl
  have sm0 : 5 + sa.length ≤ 9223372036854775807 := by omega
  have sm1 : 5 + sa.length + 1 ≤ 9223372036854775807 := by omega
  clear hu2 hb1 hly ha an
  go_enter Tryz.func21, Tryz.ntmps21
  go_wp2_with fail
  refine HC.out.mono ?_
  rintro e w5 ⟨rfl, hu5⟩
  have HU5 := Lib.hid (HU2.out.trans_ext hu5)
  clear hu5
  go_wp2_with fail
  go_ret
  exact ⟨congrArg (fun z => Ending.returned (.string z)) (show ByteArray.mk [110, 111, 116, 32, 40].toArray ++ ByteArray.mk sa.toArray ++ ByteArray.mk [41].toArray = ⟨([110, 111, 116, 32, 40] ++ sa ++ [41]).toArray⟩ by simp only [ByteArray.mk_append_mk]), HU5.out⟩
def comF : List (List UInt8) → List UInt8
  | [] => []
  | [x] => x
  | x :: y :: r => x ++ ([44, 32] ++ comF (y :: r))
theorem comF_snoc : ∀ (xs : List (List UInt8)) (y : List UInt8), comF (xs ++ [y]) = comF xs ++ (if xs = [] then y else [44, 32] ++ y)
  | [], y => by simp [comF]
  | [x], y => by simp [comF]
  | x :: z :: r, y => by
    have := comF_snoc (z :: r) y
    rw [if_neg (by simp)] at this
    simp only [List.cons_append] at this
    show x ++ ([44, 32] ++ comF (z :: (r ++ [y]))) = _
    rw [this]
    simp [comF]
theorem comF_len : ∀ (xs : List (List UInt8)) (z : Nat), (∀ x ∈ xs, x.length ≤ z) → (comF xs).length ≤ xs.length * (z + 2)
  | [], z, _ => by simp [comF]
  | [x], z, h => by have := h x (by simp); simp only [comF, List.length_cons, List.length_nil]; omega
  | x :: y :: r, z, h => by
    have h1 := h x (by simp)
    have h2 := comF_len (y :: r) z (fun u hu => h u (by simp [hu]))
    simp only [comF, List.length_append, List.length_cons, List.length_nil, Nat.add_mul, Nat.one_mul] at h2 ⊢
    omega
set_option maxRecDepth 100000 in
set_option maxHeartbeats 6400000 in
theorem full_call (w : World) (l1 : Option Addr) (n3 l2 l3 : Nat) (so nn mm : Int) (g og : Nat) (f : List UInt8) (ys : List (List UInt8)) (xs : List (List UInt8)) (hxs : xs = f :: ys) (hxl : xs.length ≤ 100) (hlx : ∀ x ∈ xs, x.length ≤ 1000000000) (hx : ∀ i x, xs[i]? = some x → w.cell? ⟨g, og + i, none⟩ = some (sV x)) :
    Calls Tryz.prog 21 #[.agg #[.int .i64 10, .slice (some ⟨g, og, none⟩) xs.length n3, .int .i64 so, .int .i64 nn, .int .i64 mm, .slice l1 l2 l3]] w fun e w' => e = .returned (.string ⟨(f ++ [40] ++ comF ys ++ [41]).toArray⟩) ∧ Upto [] w w' := by
  have hu2 : Upto [] w ((w.alloc (.cells #[.int .i64 10, .slice (some ⟨g, og, none⟩) xs.length n3, .int .i64 so, .int .i64 nn, .int .i64 mm, .slice l1 l2 l3] 25)).alloc (.cells #[.string ⟨#[116, 114, 117, 101]⟩, .string ⟨#[102, 97, 108, 115, 101]⟩, .string ⟨#[61]⟩, .string ⟨#[105, 110]⟩, .string ⟨#[115, 117, 98]⟩, .string ⟨#[97, 100, 106]⟩, .string ⟨#[111, 110]⟩, .string ⟨#[]⟩, .string ⟨#[]⟩, .string ⟨#[]⟩, .string ⟨#[]⟩, .string ⟨#[110, 111, 116]⟩, .string ⟨#[97, 110, 100]⟩, .string ⟨#[111, 114]⟩, .string ⟨#[105, 109, 112, 108, 105, 101, 115]⟩, .string ⟨#[105, 102, 102]⟩, .string ⟨#[115, 111, 109, 101]⟩, .string ⟨#[101, 118, 101, 114, 121]⟩] 9)) := ((Upto.refl [] w).alloc _).alloc _
  have HU2 := Lib.hid hu2
  have hb1 := alloc_old (new_at w (.cells #[.int .i64 10, .slice (some ⟨g, og, none⟩) xs.length n3, .int .i64 so, .int .i64 nn, .int .i64 mm, .slice l1 l2 l3] 25)) (.cells #[.string ⟨#[116, 114, 117, 101]⟩, .string ⟨#[102, 97, 108, 115, 101]⟩, .string ⟨#[61]⟩, .string ⟨#[105, 110]⟩, .string ⟨#[115, 117, 98]⟩, .string ⟨#[97, 100, 106]⟩, .string ⟨#[111, 110]⟩, .string ⟨#[]⟩, .string ⟨#[]⟩, .string ⟨#[]⟩, .string ⟨#[]⟩, .string ⟨#[110, 111, 116]⟩, .string ⟨#[97, 110, 100]⟩, .string ⟨#[111, 114]⟩, .string ⟨#[105, 109, 112, 108, 105, 101, 115]⟩, .string ⟨#[105, 102, 102]⟩, .string ⟨#[115, 111, 109, 101]⟩, .string ⟨#[101, 118, 101, 114, 121]⟩] 9)
  obtain ⟨xa0, xa1, xa2, xa3, xa4, xa5⟩ := cells6 hb1
  have HX := Lib.hid hx
  have HLX := Lib.hid hlx
  have HXS := Lib.hid hxs
  have HB1 := Lib.hid hb1
  have hf : xs[0]? = some f := by rw [hxs]; rfl
  have c0 := hx 0 f hf
  simp only [Nat.add_zero] at c0
  replace c0 := up_cell hu2 c0
  unfold sV at c0
  have hfl := hlx f (by rw [hxs]; simp)
  have hn1 : (1 : Int) ≤ xs.length := by rw [hxs]; simp; omega
  have hn2 : (xs.length : Int) ≤ 100 := by omega
  have q0 : (0 : Int) < xs.length := by omega
  have s0 : (ByteArray.mk f.toArray).size = f.length := rfl
  have sm0 : f.length + 1 ≤ 9223372036854775807 := by omega
  have HYL : Hid (∀ j, (comF (ys.take j)).length ≤ 200000000000) := Lib.hid (fun j => by
    have h1 := comF_len (ys.take j) 1000000000 (fun x hx' => hlx x (by rw [hxs]; simp [List.mem_of_mem_take hx']))
    have h2 : (ys.take j).length ≤ 100 := by rw [List.length_take]; have : ys.length + 1 = xs.length := by rw [hxs]; simp
                                             omega
    have h3 : (ys.take j).length * (1000000000 + 2) ≤ 100 * (1000000000 + 2) := Nat.mul_le_mul_right _ h2
    omega)
  clear hu2 hb1 hx hlx hxs hf
  go_enter Tryz.func21, Tryz.ntmps21
  go_wp2_with fail
  generalize hW : ((w.alloc (.cells #[.int .i64 10, .slice (some ⟨g, og, none⟩) xs.length n3, .int .i64 so, .int .i64 nn, .int .i64 mm, .slice l1 l2 l3] 25)).alloc (.cells #[.string ⟨#[116, 114, 117, 101]⟩, .string ⟨#[102, 97, 108, 115, 101]⟩, .string ⟨#[61]⟩, .string ⟨#[105, 110]⟩, .string ⟨#[115, 117, 98]⟩, .string ⟨#[97, 100, 106]⟩, .string ⟨#[111, 110]⟩, .string ⟨#[]⟩, .string ⟨#[]⟩, .string ⟨#[]⟩, .string ⟨#[]⟩, .string ⟨#[110, 111, 116]⟩, .string ⟨#[97, 110, 100]⟩, .string ⟨#[111, 114]⟩, .string ⟨#[105, 109, 112, 108, 105, 101, 115]⟩, .string ⟨#[105, 102, 102]⟩, .string ⟨#[115, 111, 109, 101]⟩, .string ⟨#[101, 118, 101, 114, 121]⟩] 9)) = W at *
  clear hW
  go_loopw [4, 5] (fun s i wr => ∃ k : Nat, 1 ≤ k ∧ k ≤ xs.length ∧ s = .string ⟨(f ++ [40] ++ comF (ys.take (k - 1))).toArray⟩ ∧ i = .int .i64 k ∧ Hid (Upto [] W wr)) (fun _ i _ => xs.length - (intOf i).toNat)
  case atStart => exact ⟨1, by omega, by omega, by simp only [Nat.sub_self, List.take_zero, comF, List.append_nil]; exact congrArg Value.string (by rw [show ByteArray.mk #[40] = ByteArray.mk [40].toArray from rfl, ByteArray.mk_append_mk]), rfl, Lib.hid (Upto.refl _ _)⟩
  case round =>
    clear xa0 xa1 xa2 xa3 xa4 xa5 c0
    obtain ⟨k, hk1, hk2, rfl, rfl, HU⟩ := hrel
    have hk0 : (0 : Int) ≤ k := by omega
    have hb := HU.out.at HB1.out (by simp)
    have y1 := cell_of hb 1
    simp only [List.getElem?_toArray, List.getElem?_cons_zero, List.getElem?_cons_succ] at y1
    have HW := Lib.hid (HU2.out.trans_ext HU.out)
    have hcl := HYL.out (k - 1)
    rcases Nat.lt_or_ge k xs.length with hlt | hge
    · have hltI : (k : Int) < xs.length := by omega
      obtain ⟨y, hy⟩ : ∃ y, xs[k]? = some y := ⟨_, List.getElem?_eq_getElem hlt⟩
      have c1 := HX.out k y hy
      replace c1 := up_cell HW.out c1
      unfold sV at c1
      have hyl := HLX.out y (List.mem_of_getElem? hy)
      have HY : Hid (ys[k - 1]? = some y) := Lib.hid (by
        rw [HXS.out] at hy
        obtain ⟨q, rfl⟩ : ∃ q, k = q + 1 := ⟨k - 1, by omega⟩
        simpa using hy)
      have HTK : Hid (ys.take k = ys.take (k - 1) ++ [y]) := Lib.hid (by
        obtain ⟨q, rfl⟩ : ∃ q, k = q + 1 := ⟨k - 1, by omega⟩
        obtain ⟨hi, h2⟩ := List.getElem?_eq_some_iff.1 HY.out
        simp only [Nat.add_sub_cancel] at hi h2 ⊢
        rw [List.take_succ_eq_append_getElem hi, h2])
      have s1 : (ByteArray.mk y.toArray).size = y.length := rfl
      by_cases hz : k = 1
      · subst hz
        have HCF : Hid (comF (ys.take 1) = y) := Lib.hid (by
          rw [HTK.out, Nat.sub_self, List.take_zero]
          rfl)
        have hE : f ++ [40] ++ comF (ys.take (1 - 1)) = f ++ [40] := by simp [comF]
        rw [hE]
        clear hE
        have s2 : (ByteArray.mk (f ++ [40]).toArray).size = f.length + 1 := by show (f ++ [40]).toArray.size = _; simp
        have sm1 : f.length + 1 + y.length ≤ 9223372036854775807 := by omega
        clear hb hy
        go_wp2_with fail
        go_roundw
        case rel =>
          refine ⟨2, by omega, by omega, ?_, by go_num, HU⟩
          rw [show 2 - 1 = 1 from rfl, HCF.out]
          exact congrArg Value.string (by first | (rw [ByteArray.mk_append_mk]; done) | (rw [ByteArray.mk_append_mk]; simp [comF]))
        case measure => simp [intOf]; omega
      · have hzI : (k : Int) > 1 := by omega
        have hzJ : (1 : Int) < (k : Int) := by omega
        have HCF : Hid (comF (ys.take k) = comF (ys.take (k - 1)) ++ ([44, 32] ++ y)) := Lib.hid (by
          rw [HTK.out, comF_snoc, if_neg]
          intro h
          have hi := (List.getElem?_eq_some_iff.1 HY.out).1
          have := congrArg List.length h
          simp only [List.length_take, List.length_nil] at this
          omega)
        generalize comF (ys.take (k - 1)) = T at *
        have s2 : (ByteArray.mk (f ++ [40] ++ T).toArray).size = f.length + 1 + T.length := by show (f ++ [40] ++ T).toArray.size = _; simp; omega
        have hc1 : ByteArray.mk (f ++ [40] ++ T).toArray ++ ByteArray.mk #[44, 32] = ⟨(f ++ [40] ++ T ++ [44, 32]).toArray⟩ := by
          show _ ++ ByteArray.mk [44, 32].toArray = _
          rw [ByteArray.mk_append_mk]
        have s3 : (ByteArray.mk (f ++ [40] ++ T ++ [44, 32]).toArray).size = f.length + 1 + T.length + 2 := by show (f ++ [40] ++ T ++ [44, 32]).toArray.size = _; simp; omega
        have sm1 : f.length + 1 + T.length + 2 ≤ 9223372036854775807 := by omega
        have sm2 : f.length + 1 + T.length + 2 + y.length ≤ 9223372036854775807 := by omega
        have HC1 := Lib.hid hc1
        clear hb hy hz
        go_wp2_with fail
        go_roundw
        case rel =>
          refine ⟨k + 1, by omega, by omega, ?_, by go_num, HU⟩
          rw [Nat.add_sub_cancel, HCF.out]
          exact congrArg Value.string (by first | (rw [ByteArray.mk_append_mk]; simp) | (rw [show ByteArray.mk #[44, 32] = ByteArray.mk [44, 32].toArray from rfl, ByteArray.mk_append_mk, ByteArray.mk_append_mk]; simp))
        case measure => simp [intOf]; omega
    · have hgeI : ¬ (k : Int) < xs.length := by omega
      have HTA : Hid (ys.take (k - 1) = ys) := Lib.hid (List.take_of_length_le (by
        have : ys.length + 1 = xs.length := by rw [HXS.out]; simp
        omega))
      rw [HTA.out] at hcl ⊢
      have s2 : (ByteArray.mk (f ++ [40] ++ comF ys).toArray).size = f.length + 1 + (comF ys).length := by show (f ++ [40] ++ comF ys).toArray.size = _; simp; omega
      have sm1 : f.length + 1 + (comF ys).length + 1 ≤ 9223372036854775807 := by omega
      clear hb
      go_wp2_with fail
      go_ret
      exact ⟨congrArg (fun z => Ending.returned (.string z)) (by rw [show ByteArray.mk #[41] = ByteArray.mk [41].toArray from rfl, ByteArray.mk_append_mk]; simp), HW.out⟩
theorem real_len {x : List UInt8} (h : Real 1 x 0) : x.length ≤ 16 := by
  rcases h with ⟨b, -, -, h4, -⟩ | ⟨h1, h2, h3⟩
  · cases h4
  · cases x with
    | nil => simp
    | cons b t =>
      simp only [classify] at h3
      split at h3
      · split at h3
        · cases h3
        · split at h3
          · cases h3
          · cases h3
      · split at h3
        · cases h3
        · split at h3
          · cases h3
          · split at h3
            · cases h3
            · omega
theorem dig_len (n : Nat) (h : n ≤ 99) : (digF 3 n).length ≤ 2 := by
  have key : ∀ m : _root_.Fin 100, (digF 3 m.val).length ≤ 2 := by decide
  exact key ⟨n, by omega⟩
theorem digits_calls (n : Nat) (h : n ≤ 64) (w : World) : Calls Tryz.prog 55 #[.int .i64 (n : Int)] w fun e w' => e = .returned (.string ⟨(digF 3 n).toArray⟩) ∧ Upto [] w w' := by
  by_cases h1 : n < 10
  · have e : digF 3 n = [UInt8.ofNat (48 + n)] := by simp [digF, h1]
    rw [e]
    exact digits1_calls n h1 w
  · have e : digF 3 n = [UInt8.ofNat (48 + n / 10), UInt8.ofNat (48 + n % 10)] := by
      have h2 : n / 10 < 10 := by omega
      simp [digF, h1, h2]
    rw [e]
    exact digits2_calls (n / 10) (n % 10) (by omega) (by omega) n (by omega) w
theorem fullB_flag (nd : Nd) : ∃ t r, ∀ b, fullB b nd = (b, t) :: r := by
  cases nd with
  | mk op names so n m l =>
    by_cases h0 : op = 0
    · exact ⟨_, _, fun b => by unfold fullB; rw [if_pos h0]⟩
    by_cases h1 : op = 1
    · exact ⟨_, _, fun b => by unfold fullB; rw [if_neg h0, if_pos h1]⟩
    by_cases h2 : op < 7
    · exact ⟨_, _, fun b => by unfold fullB; rw [if_neg h0, if_neg h1, if_pos h2]⟩
    by_cases h3 : op = 7
    · exact ⟨_, _, fun b => by unfold fullB; rw [if_neg h0, if_neg h1, if_neg h2, if_pos h3]⟩
    by_cases h4 : op = 8
    · exact ⟨_, _, fun b => by unfold fullB; rw [if_neg h0, if_neg h1, if_neg h2, if_neg h3, if_pos h4]⟩
    by_cases h5 : op = 9
    · exact ⟨_, _, fun b => by unfold fullB; rw [if_neg h0, if_neg h1, if_neg h2, if_neg h3, if_neg h4, if_pos h5]⟩
    by_cases h6 : op = 10
    · exact ⟨_, _, fun b => by unfold fullB; rw [if_neg h0, if_neg h1, if_neg h2, if_neg h3, if_neg h4, if_neg h5, if_pos h6]⟩
    by_cases h7 : op = 11
    · exact ⟨_, _, fun b => by unfold fullB; rw [if_neg h0, if_neg h1, if_neg h2, if_neg h3, if_neg h4, if_neg h5, if_neg h6, if_pos h7]⟩
    by_cases h8 : op < 16
    · exact ⟨_, _, fun b => by unfold fullB; rw [if_neg h0, if_neg h1, if_neg h2, if_neg h3, if_neg h4, if_neg h5, if_neg h6, if_neg h7, if_pos h8]⟩
    · exact ⟨_, _, fun b => by unfold fullB; rw [if_neg h0, if_neg h1, if_neg h2, if_neg h3, if_neg h4, if_neg h5, if_neg h6, if_neg h7, if_neg h8]⟩
theorem fullB_true (nd : Nd) : spB (fullB true nd) = 32 :: fullG nd := by
  obtain ⟨t, r, h⟩ := fullB_flag nd
  unfold fullG
  rw [h, h]
  simp [spB]
theorem arg_com : ∀ (ys : List (List UInt8)), spB (argB false ys) = comF ys ∧ spB (argB true ys) = (if ys = [] then [] else 32 :: comF ys)
  | [] => by simp [argB, spB, comF]
  | [x] => by simp [argB, spB, comF, idT]
  | x :: y :: r => by
    have h := arg_com (y :: r)
    rw [if_neg (by simp)] at h
    constructor
    · simp only [argB, spB_cons, comF, h.2]
      simp [idT, puT]
    · rw [if_neg (by simp)]
      simp only [argB, spB_cons, comF, h.2]
      simp [idT, puT]
theorem conW_word {k : Nat} (h : 12 ≤ k ∧ k < 16) : conW (k : Int) = wordsF.getD k [] := by
  have : k = 12 ∨ k = 13 ∨ k = 14 ∨ k = 15 := by omega
  rcases this with rfl | rfl | rfl | rfl <;> rfl
theorem quW_word {k : Nat} (h : 16 ≤ k ∧ k < 18) : quW (k : Int) = wordsF.getD k [] := by
  have : k = 16 ∨ k = 17 := by omega
  rcases this with rfl | rfl <;> rfl
theorem rel_word {k : Nat} (h : 2 ≤ k ∧ k < 7) : (relT ((k : Int) - 2).toNat).text = wordsF.getD k [] := by
  have : k = 2 ∨ k = 3 ∨ k = 4 ∨ k = 5 ∨ k = 6 := by omega
  rcases this with rfl | rfl | rfl | rfl | rfl <;> rfl
theorem sort_word {s : Int} (h0 : 0 ≤ s) (h4 : s < 4) : sortWords.getD s.toNat [] = sortW s := by
  have : s = 0 ∨ s = 1 ∨ s = 2 ∨ s = 3 := by omega
  rcases this with rfl | rfl | rfl | rfl <;> rfl
theorem nm_text {n : Int} : (nmT n).text = digF 3 n.toNat := rfl
set_option maxRecDepth 10000 in
theorem full_all : ∀ (k : Nat) (nd : Nd), sizeF nd ≤ k → okF nd → (fullG nd).length ≤ 1000000000000 → ∀ (w : World) (P : Nat → Prop), Says w P nd (fullG nd)
  | 0, nd, hn, _, _, _, _ => by have := sizeF_pos nd; omega
  | n + 1, .mk op names so nn mm l, hn, hok, hl, w, P => by
    intro v w1 hu h
    unfold NdV at h
    obtain ⟨vn, vl, rfl, hs, hll⟩ := h
    obtain ⟨na, nc, rfl, hg⟩ := hs.get
    simp only [sizeF] at hn
    unfold okF at hok
    obtain ⟨hnm, hc, hos⟩ := hok
    obtain ⟨a2, n2, c2, hvl⟩ : ∃ a n c, vl = .slice a n c := by
      rcases hll with ⟨-, a, c, rfl⟩ | ⟨g, o, c, rfl, -⟩
      · exact ⟨a, 0, c, rfl⟩
      · exact ⟨_, _, c, rfl⟩
    have name0 : ∀ x r, names = x :: r → ∃ g o, na = some ⟨g, o, none⟩ ∧ w1.cell? ⟨g, o, none⟩ = some (sV x) := by
      intro x r e
      obtain ⟨g, o, e1, c0⟩ := hg 0 (sV x) (by rw [e]; rfl)
      exact ⟨g, o, e1, c0⟩
    have hx16 : ∀ x ∈ names, x.length ≤ 16 := fun x hx => real_len (hnm x hx)
    rcases hc with ⟨h1 | h1, rfl, rfl, rfl, rfl, rfl⟩ | ⟨h1, h2, h3, rfl, rfl, rfl, rfl⟩ | ⟨rfl, h3, rfl, rfl, h4, h5, rfl⟩ | ⟨rfl, h3, rfl, rfl, h4, h5, h6⟩ | ⟨rfl, h3, rfl, rfl, rfl, rfl⟩ | ⟨rfl, h3, h4, rfl, rfl, rfl, rfl⟩ | ⟨rfl, rfl, h3, rfl, rfl, rfl⟩ | ⟨h1, h2, rfl, h3, rfl, rfl, rfl⟩ | ⟨h1, h2, h3, h4, h5, h6, rfl, rfl⟩
    · subst h1 hvl
      exact full_tf w1 0 (by decide) na _ nc a2 n2 c2 0 0 0
    · subst h1 hvl
      exact full_tf w1 1 (by decide) na _ nc a2 n2 c2 0 0 0
    · obtain ⟨k, rfl⟩ := Int.eq_ofNat_of_zero_le (show 0 ≤ op by omega)
      match names, h3 with
      | [x, y], _ =>
        obtain ⟨g, o, rfl, c0⟩ := name0 x _ rfl
        obtain ⟨g', o', e, c1⟩ := hg 1 (sV y) rfl
        simp at e
        obtain ⟨rfl, rfl⟩ := e
        subst hvl
        have e : fullG (.mk (k : Int) [x, y] 0 0 0 []) = x ++ [32] ++ wordsF.getD k [] ++ [32] ++ y := by
          unfold fullG fullB
          rw [if_neg (by omega), if_neg (by omega), if_pos h2]
          simp only [spB_cons, rel_word (show 2 ≤ k ∧ k < 7 by omega)]
          simp [spB, idT]
        rw [e]
        exact full_two w1 k a2 _ nc n2 c2 0 0 0 _ (word_at k (by omega)) ⟨by omega, by omega⟩ g o x y (by simp) (by have := hx16 x (by simp); omega) (by have := hx16 y (by simp); omega) c0 c1
    · match names, h3 with
      | [x], _ =>
        obtain ⟨g, o, rfl, c0⟩ := name0 x _ rfl
        subst hvl
        obtain ⟨q, rfl⟩ := Int.eq_ofNat_of_zero_le h4
        have e : fullG (.mk 7 [x] 0 (q : Int) 0 []) = x ++ [32, 105, 115, 32] ++ digF 3 q := by
          unfold fullG fullB
          rw [if_neg (by decide), if_neg (by decide), if_neg (by decide), if_pos rfl]
          simp only [spB_cons, nm_text]
          simp [spB, idT, kyT]
        rw [e]
        exact full_is w1 a2 _ nc n2 c2 0 q 0 g o x _ (by simp) (by have := hx16 x (by simp); omega) (by have := dig_len q (by omega); omega) c0 (fun u => digits_calls q (by omega) u)
    · match names, h3 with
      | [x], _ =>
        obtain ⟨g, o, rfl, c0⟩ := name0 x _ rfl
        subst hvl
        obtain ⟨q, rfl⟩ := Int.eq_ofNat_of_zero_le h4
        obtain ⟨p, rfl⟩ := Int.eq_ofNat_of_zero_le (show 0 ≤ mm by omega)
        have e : fullG (.mk 8 [x] 0 (q : Int) (p : Int) []) = [115, 105, 122, 101, 32] ++ x ++ [32, 109, 111, 100, 32] ++ digF 3 p ++ [32, 105, 115, 32] ++ digF 3 q := by
          unfold fullG fullB
          rw [if_neg (by decide), if_neg (by decide), if_neg (by decide), if_neg (by decide), if_pos rfl]
          simp only [spB_cons, nm_text]
          simp [spB, idT, kyT]
        rw [e]
        exact full_size w1 a2 _ nc n2 c2 0 q p g o x _ _ (by simp) (by have := hx16 x (by simp); omega) (by have := dig_len p (by omega); omega) (by have := dig_len q (by omega); omega) c0 (fun u => digits_calls p (by omega) u) (fun u => digits_calls q (by omega) u)
    · match names, h3 with
      | [x], _ =>
        obtain ⟨g, o, rfl, c0⟩ := name0 x _ rfl
        subst hvl
        have e : fullG (.mk 9 [x] 0 0 0 []) = [111, 110, 101, 32] ++ x := by
          unfold fullG fullB
          rw [if_neg (by decide), if_neg (by decide), if_neg (by decide), if_neg (by decide), if_neg (by decide), if_pos rfl]
          simp only [spB_cons]
          simp [spB, idT, kyT]
        rw [e]
        exact full_one w1 a2 _ nc n2 c2 0 0 0 g o x (by simp) (by have := hx16 x (by simp); omega) c0
    · match names, h3 with
      | f :: ys, _ =>
        obtain ⟨g, o, rfl, c0⟩ := name0 f _ rfl
        subst hvl
        have e : fullG (.mk 10 (f :: ys) 0 0 0 []) = f ++ [40] ++ comF ys ++ [41] := by
          unfold fullG fullB
          rw [if_neg (by decide), if_neg (by decide), if_neg (by decide), if_neg (by decide), if_neg (by decide), if_neg (by decide), if_pos rfl]
          simp only [spB_cons, List.tail_cons, List.getD_cons_zero, spB_append, (arg_com ys).1]
          simp [spB, idT, puT]
        rw [e]
        refine full_call w1 a2 nc n2 c2 0 0 0 g o f ys (f :: ys) rfl (by omega) (fun x hx => by have := hx16 x hx; omega) (fun i x hx => ?_)
        obtain ⟨g', o', e', c1⟩ := hg i (sV x) (by rw [List.getElem?_map, hx]; rfl)
        simp at e'
        obtain ⟨rfl, rfl⟩ := e'
        exact c1
    · match l, h3 with
      | [a], _ =>
        rcases hll with ⟨e, -⟩ | ⟨g, o, c, rfl, -, hds⟩
        · cases e
        have e : fullG (.mk 11 [] 0 0 0 [a]) = [110, 111, 116, 32, 40] ++ fullG a ++ [41] := by
          unfold fullG
          conv => lhs; unfold fullB
          rw [if_neg (by decide), if_neg (by decide), if_neg (by decide), if_neg (by decide), if_neg (by decide), if_neg (by decide), if_neg (by decide), if_pos rfl]
          simp only [spB_cons, spB_append, fullsB, List.getD_cons_zero]
          simp [spB, kyT, puT]
        rw [e] at hl ⊢
        simp only [List.length_append, sizesF] at hl hn
        unfold oksF at hos
        exact full_not w1 na _ nc _ c 0 0 0 g o P a _ (by simp) hds (by omega) (full_all n a (by omega) hos.1 (by omega) w1 P)
    · obtain ⟨k, rfl⟩ := Int.eq_ofNat_of_zero_le (show 0 ≤ op by omega)
      match l, h3 with
      | [a, b], _ =>
        rcases hll with ⟨e, -⟩ | ⟨g, o, c, rfl, -, hds⟩
        · cases e
        have e : fullG (.mk (k : Int) [] 0 0 0 [a, b]) = [40] ++ fullG a ++ [41, 32] ++ wordsF.getD k [] ++ [32, 40] ++ fullG b ++ [41] := by
          unfold fullG
          conv => lhs; unfold fullB
          rw [if_neg (by omega), if_neg (by omega), if_neg (by omega), if_neg (by omega), if_neg (by omega), if_neg (by omega), if_neg (by omega), if_neg (by omega), if_pos h2]
          simp only [spB_cons, spB_append, fullsB, List.getD_cons_zero, List.getD_cons_succ]
          rw [← conW_word (show 12 ≤ k ∧ k < 16 by omega)]
          simp [spB, kyT, puT]
        rw [e] at hl ⊢
        simp only [List.length_append, sizesF] at hl hn
        unfold oksF oksF at hos
        exact full_bin w1 k na _ nc _ c 0 0 0 _ (word_at k (by omega)) ⟨by omega, by omega⟩ g o P a b _ _ (by simp) hds (by omega) (by omega) (full_all n a (by omega) hos.1 (by omega) w1 P) (full_all n b (by omega) hos.2.1 (by omega) w1 P)
    · obtain ⟨k, rfl⟩ := Int.eq_ofNat_of_zero_le (show 0 ≤ op by omega)
      match l, h4, names, h3 with
      | [a], _, [x], _ =>
        rcases hll with ⟨e, -⟩ | ⟨g, o, c, rfl, -, hds⟩
        · cases e
        obtain ⟨gn, og, rfl, c0⟩ := name0 x _ rfl
        have e : fullG (.mk (k : Int) [x] so 0 0 [a]) = wordsF.getD k [] ++ [32] ++ sortW so ++ [32] ++ x ++ [58, 32] ++ fullG a := by
          conv => lhs; unfold fullG fullB
          rw [if_neg (by omega), if_neg (by omega), if_neg (by omega), if_neg (by omega), if_neg (by omega), if_neg (by omega), if_neg (by omega), if_neg (by omega), if_neg (by omega)]
          simp only [spB_cons, fullsB, List.getD_cons_zero, fullB_true]
          rw [← quW_word (show 16 ≤ k ∧ k < 18 by omega), ← sort_word h5 h6]
          simp [kyT, puT, idT]
        rw [e] at hl ⊢
        simp only [List.length_append, sizesF] at hl hn
        unfold oksF at hos
        exact full_quant w1 k _ nc _ c so 0 0 _ (word_at k (by omega)) ⟨by omega, by omega⟩ g o gn og P a x _ (by simp) (by simp) c0 (by have := hx16 x (by simp); omega) (by omega) hds (full_all n a (by omega) hos.1 (by omega) w1 P)
end Go.Proofs.YtkhbpebpljdifaaGreatDoor
