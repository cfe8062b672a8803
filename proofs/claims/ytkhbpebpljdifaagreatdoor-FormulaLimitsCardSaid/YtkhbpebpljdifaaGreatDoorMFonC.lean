/- Texts merged, in build order: FmP8. -/
import Derived.Test.YtkhbpebpljdifaaGreatDoorMFog
namespace Go.Proofs.YtkhbpebpljdifaaGreatDoor
open Go.PL
def trueN : Nd := .mk 0 [] 0 0 0 []
def lparT : PL.Tok := puT 40
def rparT : PL.Tok := puT 41
theorem parens_ok {l : List PL.Tok} : ∀ (k D d i : Nat) (t : PL.Tok) (rest : List PL.Tok), k + D ≤ 256 → d + D = 257 → l.drop i = List.replicate k lparT ++ kyT [116, 114, 117, 101] :: (List.replicate k rparT ++ t :: rest) → EndK t →
    ∃ j, ReadsD (formulaP l (operandP l d)) D i j trueN ∧ l.drop j = t :: rest
  | 0, D, d, i, t, rest, hk, hd, h, ht => by
    obtain ⟨d, rfl⟩ : ∃ d', d = d' + 1 := ⟨d - 1, by omega⟩
    simp only [List.replicate_zero, List.nil_append] at h
    obtain ⟨a0, h1⟩ := dropT_at h
    exact ⟨_, formula_none (operand_true a0) (sep_end (dropT_at h1).1 ht), h1⟩
  | k + 1, D, d, i, t, rest, hk, hd, h, ht => by
    obtain ⟨d, rfl⟩ : ∃ d', d = d' + 1 := ⟨d - 1, by omega⟩
    rw [List.replicate_succ, List.cons_append] at h
    obtain ⟨a0, h1⟩ := dropT_at h
    have e : List.replicate (k + 1) rparT ++ t :: rest = List.replicate k rparT ++ rparT :: (t :: rest) := by
      rw [List.replicate_succ', List.append_assoc]; rfl
    rw [e] at h1
    obtain ⟨j, hr, hj⟩ := parens_ok k (D + 1) d (i + 1) rparT (t :: rest) (by omega) (by omega) h1 (Or.inr rfl)
    obtain ⟨a1, h2⟩ := dropT_at hj
    exact ⟨_, formula_none (operand_paren a0 (by omega) hr a1) (sep_end (dropT_at h2).1 ht), h2⟩
section
variable {l : List PL.Tok} {of : Rd} {s s1 : PS} {n : Nd}
theorem is_err {x : List UInt8} (h : s1.er ≠ 0) : isF l x s1 = false := by unfold isF; simp [h]
theorem left_err {x : List UInt8} {op : Int} (h : of s = some (n, s1)) (he : s1.er ≠ 0) : leftP l x op of s = some (n, s1) := by
  unfold leftP
  rw [h, Option.bind_some]
  simp only [leftLoop]
  rw [is_err he]
  rfl
theorem impl_err (h : orsP l of s = some (n, s1)) (he : s1.er ≠ 0) : impliesP l of s = some (n, s1) := by
  unfold impliesP
  rw [h, Option.bind_some]
  simp only [implLoop]
  rw [is_err he]
  rfl
theorem formula_err (h : of s = some (n, s1)) (he : s1.er ≠ 0) : formulaP l of s = some (n, s1) := left_err (impl_err (left_err (left_err h he) he) he) he
end
theorem operand_par {l : List PL.Tok} {d i D : Nat} (h : l[i]? = some lparT) : operandP l (d + 1) ⟨i, 0, D⟩ = parenP l (formulaP l (operandP l d)) ⟨i, 0, D⟩ := by
  conv => lhs; unfold operandP
  simp only
  rw [tkAt_of h]
  simp [lparT, puT]
theorem parens_bad {l : List PL.Tok} : ∀ (m k D d i : Nat) (rest : List PL.Tok), m + D = 256 → m < k → d + D = 257 → l.drop i = List.replicate k lparT ++ rest →
    formulaP l (operandP l d) ⟨i, 0, D⟩ = some (.zero, ⟨i + m, 16, D⟩)
  | 0, k, D, d, i, rest, hm, hk, hd, h => by
    obtain ⟨d, rfl⟩ : ∃ d', d = d' + 1 := ⟨d - 1, by omega⟩
    obtain ⟨k, rfl⟩ : ∃ k', k = k' + 1 := ⟨k - 1, by omega⟩
    rw [List.replicate_succ, List.cons_append] at h
    obtain ⟨a0, h1⟩ := dropT_at h
    refine formula_err ?_ (by simp)
    rw [operand_par a0]
    have hD : D = 256 := by omega
    subst hD
    rfl
  | m + 1, k, D, d, i, rest, hm, hk, hd, h => by
    obtain ⟨d, rfl⟩ : ∃ d', d = d' + 1 := ⟨d - 1, by omega⟩
    obtain ⟨k, rfl⟩ : ∃ k', k = k' + 1 := ⟨k - 1, by omega⟩
    rw [List.replicate_succ, List.cons_append] at h
    obtain ⟨a0, h1⟩ := dropT_at h
    have ih := parens_bad m k (D + 1) d (i + 1) rest (by omega) (by omega) (by omega) h1
    refine formula_err ?_ (by simp)
    rw [operand_par a0]
    unfold parenP levelP
    have hD : ¬ D = 256 := by omega
    simp only [if_neg hD, if_true]
    rw [ih]
    simp only [Option.map_some]
    have hn : needF l [41] ⟨i + 1 + m, 16, D + 1⟩ = ⟨i + 1 + m, 16, D + 1⟩ := by
      unfold needF
      rw [is_err (by simp)]
      rfl
    rw [hn]
    simp only [Nat.add_sub_cancel]
    rw [show i + 1 + m = i + (m + 1) by omega]
def marksAt (x : UInt8) (l : Nat) : Nat → Nat → List PL.Tok
  | _, 0 => []
  | c, k + 1 => ⟨4, [x], 0, l, c⟩ :: marksAt x l (c + 1) k
theorem marksAt_get (x : UInt8) (l : Nat) : ∀ (k c j : Nat), j < k → (marksAt x l c k)[j]? = some ⟨4, [x], 0, l, c + j⟩
  | 0, _, _, h => by omega
  | k + 1, c, 0, _ => rfl
  | k + 1, c, j + 1, h => by
    have := marksAt_get x l k (c + 1) j (by omega)
    simp only [marksAt, List.getElem?_cons_succ]
    rw [this, show c + 1 + j = c + (j + 1) by omega]
theorem marksAt_len (x : UInt8) (l : Nat) : ∀ (k c : Nat), (marksAt x l c k).length = k
  | 0, _ => rfl
  | k + 1, c => by simp [marksAt, marksAt_len x l k (c + 1)]
theorem marksAt_key (x : UInt8) (l : Nat) : ∀ (k c : Nat), (marksAt x l c k).map PL.Tok.key = (List.replicate k (puT x)).map PL.Tok.key
  | 0, _ => rfl
  | k + 1, c => by simp only [marksAt, List.replicate_succ, List.map_cons, marksAt_key x l k (c + 1)]; rfl
theorem lexS_marks {x : UInt8} (hx : lxMark x = true) : ∀ (k : Nat) (r : List UInt8) (l c : Nat) , lexS (List.replicate k x ++ r) l c = (lexS r l (c + k)).map fun ts => marksAt x l c k ++ ts
  | 0, r, l, c => by
    simp only [List.replicate_zero, List.nil_append, Nat.add_zero, marksAt]
    cases lexS r l c <;> rfl
  | k + 1, r, l, c => by
    rw [List.replicate_succ, List.cons_append, lexS_mark (mark_not hx).2 hx, lexS_marks hx k r l (c + 1), show c + 1 + k = c + (k + 1) by omega]
    cases lexS r l (c + (k + 1)) <;> rfl
def parS (k : Nat) : List UInt8 := List.replicate k 40 ++ ([116, 114, 117, 101] ++ List.replicate k 41)
def parTs (k : Nat) : List PL.Tok := marksAt 40 1 1 k ++ (⟨3, [116, 114, 117, 101], 0, 1, 1 + k⟩ :: (marksAt 41 1 (5 + k) k ++ [⟨0, [], 0, 1, 5 + k + k⟩]))
theorem lex_pars (k : Nat) (hk : k ≤ 300) : lexT (parS k) = .ok (parTs k) := by
  have hl : ¬ 65536 < (parS k).length := by simp [parS]; omega
  unfold lexT
  rw [if_neg hl]
  unfold parS
  rw [lexS_marks (by decide)]
  have hreal : Real 3 [116, 114, 117, 101] 0 := Or.inr ⟨by decide, by decide, rfl⟩
  have hst : Starts (List.replicate k (41 : UInt8)) := by
    cases k with
    | zero => exact Starts.nil
    | succ k => exact Starts.cons (by decide) _
  rw [lexS_tok hreal hst]
  have h2 := lexS_marks (x := 41) (by decide) k [] 1 (1 + k + ([116, 114, 117, 101] : List UInt8).length)
  rw [List.append_nil] at h2
  rw [h2, lexS_nil]
  simp only [Except.map, List.length_cons, List.length_nil]
  unfold parTs
  rw [show 1 + k + (0 + 1 + 1 + 1 + 1) = 5 + k by omega]
theorem par_ok (k : Nat) (hk : k ≤ 256) : bareP (parTs k) = some (⟨[], trueN⟩, ⟨2 * k + 1, 0, 0⟩) ∧ endF (parTs k) ⟨[], trueN⟩ ⟨2 * k + 1, 0, 0⟩ = ⟨⟨[], trueN⟩, 0, 0, 0⟩ := by
  have ha : Alike (List.replicate k lparT ++ kyT [116, 114, 117, 101] :: (List.replicate k rparT ++ [⟨0, [], 0, 0, 0⟩])) (parTs k) := by
    unfold Alike parTs
    simp only [List.map_append, List.map_cons, marksAt_key]
    rfl
  obtain ⟨j, hr, hj⟩ := parens_ok (l := List.replicate k lparT ++ kyT [116, 114, 117, 101] :: (List.replicate k rparT ++ [⟨0, [], 0, 0, 0⟩])) k 0 257 0 ⟨0, [], 0, 0, 0⟩ [] (by omega) rfl rfl (Or.inl rfl)
  have hlen := congrArg List.length hj
  simp only [List.length_drop, List.length_cons, List.length_nil, List.length_append, List.length_replicate] at hlen
  have hj2 : j = 2 * k + 1 := by omega
  subst hj2
  refine ⟨?_, ?_⟩
  · rw [← al_bare ha]
    unfold bareP wholeP
    rw [show formulaP _ _ ⟨0, 0, 0⟩ = _ from hr]
    rfl
  · refine endF_done ?_ rfl
    rw [← al_kind ha, tkAt_of (dropT_at hj).1]
theorem par_bad (k : Nat) (h1 : 256 < k) : ∃ q s, bareP (parTs k) = some (q, s) ∧ endF (parTs k) q s = ⟨.zero, 1, 257, 16⟩ := by
  have ha : Alike (List.replicate k lparT ++ kyT [116, 114, 117, 101] :: (List.replicate k rparT ++ [⟨0, [], 0, 0, 0⟩])) (parTs k) := by
    unfold Alike parTs
    simp only [List.map_append, List.map_cons, marksAt_key]
    rfl
  have hr := parens_bad (l := List.replicate k lparT ++ kyT [116, 114, 117, 101] :: (List.replicate k rparT ++ [⟨0, [], 0, 0, 0⟩])) 256 k 0 257 0 _ rfl h1 rfl rfl
  refine ⟨⟨[], .zero⟩, ⟨256, 16, 0⟩, ?_, ?_⟩
  · rw [← al_bare ha]
    unfold bareP wholeP
    rw [hr]
    rfl
  · have hg : (parTs k)[256]? = some ⟨4, [40], 0, 1, 257⟩ := by
      unfold parTs
      rw [List.getElem?_append_left (by rw [marksAt_len]; exact h1), marksAt_get _ _ _ _ _ h1]
    unfold endF
    simp only
    rw [tkAt_of hg]
    simp only [wrongF]
    simp only [Nat.reduceEqDiff, if_false]
    rw [tkAt_of hg]
end Go.Proofs.YtkhbpebpljdifaaGreatDoor
