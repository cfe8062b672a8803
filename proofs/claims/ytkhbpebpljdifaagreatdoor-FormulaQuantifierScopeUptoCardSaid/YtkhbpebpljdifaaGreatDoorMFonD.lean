/- Texts merged, in build order: Cz, FmP7, Ck, Fm40, Fl. -/
import Derived.Test.YtkhbpebpljdifaaGreatDoorMFog
namespace Go.Proofs.YtkhbpebpljdifaaGreatDoor
open Go.RowKit Go.PL Go.Maps
theorem cells3 {w : World} {p : Nat} {a b c : Value} {r : List Value} {t : TypeId} {z : Nat × Nat} (h : w.heap[p]? = some (.cells (a :: b :: c :: r).toArray t z)) : w.cell? ⟨p, 0, none⟩ = some a ∧ w.cell? ⟨p, 1, none⟩ = some b ∧ w.cell? ⟨p, 2, none⟩ = some c :=
  ⟨by simpa using cell_of h 0, by simpa using cell_of h 1, by simpa using cell_of h 2⟩
end Go.Proofs.YtkhbpebpljdifaaGreatDoor
namespace Go.Proofs.YtkhbpebpljdifaaGreatDoor
open Go.PL
def onY : Nd := .mk 9 [[121]] 0 0 0 []
def quN (s : Nat) (n : Nd) : Nd := .mk 16 [[113, 39]] s 0 0 [n]
def quB (b : Bool) (s : Nat) (n : Nd) : List (Bool × PL.Tok) := (b, kyT [115, 111, 109, 101]) :: (true, kyT (sortWords.getD s [])) :: (true, idT [113, 39]) :: (true, puT 58) :: fullB true n
def scB (how op s : Nat) (n : Nd) : List (Bool × PL.Tok) := match how with
  | 0 => (false, kyT [111, 110, 101]) :: (true, idT [121]) :: (true, kyT (opWd op)) :: quB true s n
  | 1 => (false, kyT [110, 111, 116]) :: quB true s n
  | _ => (false, puT 40) :: (quB false s n ++ [(false, puT 41), (true, kyT (opWd op)), (true, kyT [111, 110, 101]), (true, idT [121])])
def scN (how op s : Nat) (n : Nd) : Nd := match how with
  | 0 => .mk (12 + op) [] 0 0 0 [onY, quN s n]
  | 1 => .mk 11 [] 0 0 0 [quN s n]
  | _ => .mk (12 + op) [] 0 0 0 [quN s n, onY]
def eT : PL.Tok := ⟨0, [], 0, 0, 0⟩
theorem qu_operand {n : Nd} (hok : okF n) {l : List PL.Tok} {b : Bool} {D d i s : Nat} {t : PL.Tok} {rest : List PL.Tok} (hs : s < 4) (hd : d + 1 + D = 257) (hD : D + 2 * depthF n ≤ 256) (h : l.drop i = (quB b s n).map Prod.snd ++ t :: rest) (ht : EndK t) :
    ∃ j, ReadsD (operandP l (d + 1)) D i j (quN s n) ∧ l.drop j = t :: rest := by
  have hda : 1 ≤ depthF n := by cases n; simp [depthF]
  unfold quB at h
  simp only [List.map_cons, List.cons_append] at h
  obtain ⟨a0, h0⟩ := dropT_at h
  obtain ⟨a1, h1⟩ := dropT_at h0
  obtain ⟨a2, h2⟩ := dropT_at h1
  obtain ⟨a3, h3⟩ := dropT_at h2
  obtain ⟨j, hr, hj⟩ := reads_full _ n (Nat.le_refl _) hok l true (D + 1) d (i + 1 + 1 + 1 + 1) t rest (by omega) (by omega) h3 ht
  exact ⟨j, operand_some hs (by omega) a0 a1 a2 a3 hr, hj⟩
theorem sc_whole {n : Nd} (hok : okF n) (hd : depthF n ≤ 100) {how op s : Nat} (hop : op < 4) (hs : s < 4) {l : List PL.Tok} (h : l = (scB how op s n).map Prod.snd ++ [eT]) : wholeP l ⟨0, 0, 0⟩ = some (scN how op s n, ⟨l.length - 1, 0, 0⟩) := by
  have hl1 : 1 ≤ l.length := by rw [h]; simp
  have hfin : ∀ {j : Nat}, l.drop j = [eT] → SepD l j 4 ∧ j = l.length - 1 := fun {j} hj => ⟨sep_end (dropT_at hj).1 (Or.inl rfl), by
    have hlen := congrArg List.length hj
    simp only [List.length_drop, List.length_cons, List.length_nil] at hlen
    omega⟩
  have h0 : l.drop 0 = (scB how op s n).map Prod.snd ++ [eT] := by rw [List.drop_zero]; exact h
  have done : ∀ {j : Nat} {N : Nd}, ReadsD (formulaP l (operandP l 257)) 0 0 j N → l.drop j = [eT] → wholeP l ⟨0, 0, 0⟩ = some (N, ⟨l.length - 1, 0, 0⟩) := by
    intro j N hr hj
    rw [← (hfin hj).2]
    exact hr
  unfold scB at h0
  unfold scN
  split at h0
  · simp only [List.map_cons, List.cons_append] at h0
    obtain ⟨a0, h1⟩ := dropT_at h0
    obtain ⟨a1, h2⟩ := dropT_at h1
    obtain ⟨a2, h3⟩ := dropT_at h2
    obtain ⟨j, hr, hj⟩ := qu_operand (D := 0) (d := 256) hok hs rfl (by omega) h3 (Or.inl rfl)
    exact done (formula_one op hop (operand_one a0 a1) (sep_op hop a2) hr (hfin hj).1 hl1) hj
  · simp only [List.map_cons, List.cons_append] at h0
    obtain ⟨a0, h1⟩ := dropT_at h0
    obtain ⟨j, hr, hj⟩ := qu_operand (D := 1) (d := 255) hok hs rfl (by omega) h1 (Or.inl rfl)
    exact done (formula_none (operand_not a0 (by decide) hr) (hfin hj).1) hj
  · simp only [List.map_cons, List.map_append, List.cons_append, List.append_assoc, List.nil_append, List.map_nil] at h0
    obtain ⟨a0, h1⟩ := dropT_at h0
    obtain ⟨j, hr, hj⟩ := qu_operand (D := 1) (d := 255) hok hs rfl (by omega) h1 (Or.inr rfl)
    obtain ⟨a1, h2⟩ := dropT_at hj
    obtain ⟨a2, h3⟩ := dropT_at h2
    obtain ⟨a3, h4⟩ := dropT_at h3
    obtain ⟨a4, h5⟩ := dropT_at h4
    exact done (formula_one op hop (operand_paren a0 (by decide) (formula_none hr (sep_end a1 (Or.inr rfl))) a1) (sep_op hop a2) (operand_one a3 a4) (hfin h5).1 hl1) h5
theorem real_op (e : Nat) : RealT (kyT (opWd e)) := by
  unfold opWd
  split <;> exact real_ky (by decide)
theorem sc_ok {n : Nd} (hok : okF n) {how op s : Nat} (hs : s < 4) : AllR (scB how op s n) ∧ glue true (scB how op s n) = true := by
  have hg := glue_true _ (glue_full _ n (Nat.le_refl _) hok true)
  have hr := allR_full _ n (Nat.le_refl _) hok true
  have hx : Real 1 [113, 39] 0 := Or.inr ⟨by decide, by decide, rfl⟩
  have hy : Real 1 [121] 0 := Or.inr ⟨by decide, by decide, rfl⟩
  have hq : ∀ b, AllR (quB b s n) := fun b => allR_cons (real_ky (by decide)) (allR_cons (real_sort hs) (allR_cons (real_id hx) (allR_cons (real_pu (by decide)) hr)))
  have gq : ∀ b, glue (!b) (quB b s n) = true := fun b => by
    unfold quB
    simp only [glue, puT, Bool.true_or, Bool.true_and, decide_true]
    cases b <;> simpa using hg
  unfold scB
  split
  · exact ⟨allR_cons (real_ky (by decide)) (allR_cons (real_id hy) (allR_cons (real_op _) (hq _))), by simpa [glue, kyT, idT] using gq true⟩
  · exact ⟨allR_cons (real_ky (by decide)) (hq _), by simpa [glue, kyT, idT] using gq true⟩
  · refine ⟨allR_cons (real_pu (by decide)) (allR_app (hq _) (allR_cons (real_pu (by decide)) (allR_cons (real_op _) (allR_cons (real_ky (by decide)) (allR_cons (real_id hy) allR_nil))))), ?_⟩
    simp only [glue, puT, Bool.or_true, Bool.true_and, decide_true]
    exact glue_app _ _ _ (gq false) (by simp [glue])
theorem sc_parse {n : Nd} (hok : okF n) (hd : depthF n ≤ 100) {how op s : Nat} (hop : op < 4) (hs : s < 4) (hl : (spB (scB how op s n)).length ≤ 65536) : ∃ ts, lexT (spB (scB how op s n)) = .ok ts ∧ bareP ts = some (⟨[], scN how op s n⟩, ⟨ts.length - 1, 0, 0⟩) ∧ (tkAt ts ⟨ts.length - 1, 0, 0⟩).kind = 0 := by
  obtain ⟨ts, h1, h2⟩ := lex_text (sc_ok hok hs).1 (sc_ok (how := how) (op := op) hok hs).2 hl
  have hlen := al_len h2
  refine ⟨ts, h1, ?_, ?_⟩
  · rw [← al_bare h2]
    unfold bareP
    have hw := sc_whole (how := how) hok hd hop hs (l := (scB how op s n).map Prod.snd ++ [⟨0, [], 0, 0, 0⟩]) rfl
    rw [hw, ← hlen]
    rfl
  · rw [← al_kind h2, ← hlen]
    rw [tkAt_of (t := ⟨0, [], 0, 0, 0⟩) (by simp)]
theorem check_ok {nm : List UInt8 → Bool} (hnm : ∀ x, nm x = true → Real 1 x 0) {n : Nd} (h : checkF nm n = 0) : okF n ∧ greatF n = 0 := by
  unfold checkF at h
  by_cases h3 : formF nm n ≠ 0
  · rw [if_pos h3] at h; exact absurd h h3
  rw [if_neg h3] at h
  exact ⟨form_ok hnm _ _ (Nat.le_refl _) (Decidable.not_not.1 h3), h⟩
end Go.Proofs.YtkhbpebpljdifaaGreatDoor
namespace Go.Proofs.YtkhbpebpljdifaaGreatDoor
open Go.RowKit Go.PL Go.Maps
mutual
def sameF : Nd → Nd → Bool
  | .mk op xs so n m l, .mk op' xs' so' n' m' l' => decide (op = op') && decide (so = so') && decide (n = n') && decide (m = m') && decide (xs = xs') && samesF l l'
def samesF : List Nd → List Nd → Bool
  | [], [] => true
  | x :: r, y :: t => sameF x y && samesF r t
  | [], _ :: _ => false
  | _ :: _, [] => false
end
mutual
theorem sameF_eq : ∀ (a b : Nd), sameF a b = true ↔ a = b
  | .mk op xs so n m l, .mk op' xs' so' n' m' l' => by
    unfold sameF
    simp only [Bool.and_eq_true, decide_eq_true_eq, samesF_eq l l', Nd.mk.injEq]
    constructor
    · rintro ⟨⟨⟨⟨⟨h1, h2⟩, h3⟩, h4⟩, h5⟩, h6⟩; exact ⟨h1, h5, h2, h3, h4, h6⟩
    · rintro ⟨h1, h5, h2, h3, h4, h6⟩; exact ⟨⟨⟨⟨⟨h1, h2⟩, h3⟩, h4⟩, h5⟩, h6⟩
theorem samesF_eq : ∀ (a b : List Nd), samesF a b = true ↔ a = b
  | [], [] => by simp [samesF]
  | x :: r, y :: t => by
    unfold samesF
    simp only [Bool.and_eq_true, sameF_eq x y, samesF_eq r t, List.cons.injEq]
  | [], _ :: _ => by simp [samesF]
  | _ :: _, [] => by simp [samesF]
end
mutual
def hugeN : Nd → Prop
  | .mk _ names _ _ _ l => names.length ≤ 281474976710656 ∧ l.length ≤ 281474976710656 ∧ hugesN l
def hugesN : List Nd → Prop
  | [] => True
  | x :: xs => hugeN x ∧ hugesN xs
end
theorem huges_mem : ∀ {l : List Nd} {x : Nd}, hugesN l → x ∈ l → hugeN x
  | a :: l, x, h, hx => by
    unfold hugesN at h
    rcases List.mem_cons.1 hx with rfl | hx
    · exact h.1
    · exact huges_mem h.2 hx
theorem len_size : ∀ (l : List Nd), l.length ≤ sizesF l
  | [] => by simp
  | x :: l => by have := len_size l; have := sizeF_pos x; simp only [sizesF, List.length_cons]; omega
mutual
theorem huge_of : ∀ (n : Nd), sizeF n ≤ 10000000 → bigN n → hugeN n
  | .mk _ names _ _ _ l, hs, hb => by
    unfold bigN at hb
    unfold hugeN
    simp only [sizeF] at hs
    have := len_size l
    exact ⟨by omega, by omega, huges_of l (by omega) hb.2⟩
theorem huges_of : ∀ (l : List Nd), sizesF l ≤ 10000000 → bigsN l → hugesN l
  | [], _, _ => by unfold hugesN; trivial
  | x :: l, hs, hb => by
    unfold bigsN at hb
    unfold hugesN
    simp only [sizesF] at hs
    exact ⟨huge_of x (by omega) hb.1, huges_of l (by omega) hb.2⟩
end
theorem nd_open {w : World} {P : Nat → Prop} {op so n m : Int} {xs : List (List UInt8)} {ls : List Nd} {v : Value} (h : NdV w P (.mk op xs so n m ls) v) : ∃ na nc la lc, v = .agg #[.int .i64 op, .slice na xs.length nc, .int .i64 so, .int .i64 n, .int .i64 m, .slice la ls.length lc] ∧
    (∀ i x, xs[i]? = some x → ∃ g o, na = some ⟨g, o, none⟩ ∧ w.cell? ⟨g, o + i, none⟩ = some (.string ⟨x.toArray⟩)) ∧
    (∀ i x, ls[i]? = some x → ∃ g o v0 v1 v2 v3 v4 v5, la = some ⟨g, o, none⟩ ∧ w.cell? ⟨g, o + i * 6, none⟩ = some v0 ∧ w.cell? ⟨g, o + i * 6 + 1, none⟩ = some v1 ∧ w.cell? ⟨g, o + i * 6 + 2, none⟩ = some v2 ∧ w.cell? ⟨g, o + i * 6 + 3, none⟩ = some v3 ∧ w.cell? ⟨g, o + i * 6 + 4, none⟩ = some v4 ∧ w.cell? ⟨g, o + i * 6 + 5, none⟩ = some v5 ∧ NdV w P x (.agg #[v0, v1, v2, v3, v4, v5])) := by
  unfold NdV at h
  obtain ⟨vn, vl, rfl, hs, hl⟩ := h
  obtain ⟨na, nc, rfl, hg⟩ := hs.get
  have hg' : ∀ i x, xs[i]? = some x → ∃ g o, na = some ⟨g, o, none⟩ ∧ w.cell? ⟨g, o + i, none⟩ = some (.string ⟨x.toArray⟩) := fun i x hi => hg i _ (by rw [List.getElem?_map, hi]; rfl)
  rcases hl with ⟨rfl, a, c, rfl⟩ | ⟨g, o, c, rfl, -, hd⟩
  · exact ⟨na, nc, a, c, rfl, hg', fun i x hi => by simp at hi⟩
  · refine ⟨na, nc, _, c, rfl, hg', fun i x hi => ?_⟩
    obtain ⟨v0, v1, v2, v3, v4, v5, c0, c1, c2, c3, c4, c5, hn⟩ := NdsV.get ls o i x hd hi
    exact ⟨g, o, v0, v1, v2, v3, v4, v5, rfl, c0, c1, c2, c3, c4, c5, hn⟩
theorem sizes_memb {x : Nd} : ∀ {l : List Nd}, x ∈ l → sizeF x ≤ sizesF l
  | a :: l, h => by
    simp only [sizesF]
    rcases List.mem_cons.1 h with rfl | h
    · omega
    · have := sizes_memb h; omega
theorem six_form {w : World} {P : Nat → Prop} {x : Nd} {v0 v1 v2 v3 v4 v5 : Value} (h : NdV w P x (.agg #[v0, v1, v2, v3, v4, v5])) : ∃ (op : Int) (a1 : Option Addr) (n1 c1 : Nat) (so n m : Int) (a2 : Option Addr) (n2 c2 : Nat), v0 = .int .i64 op ∧ v1 = .slice a1 n1 c1 ∧ v2 = .int .i64 so ∧ v3 = .int .i64 n ∧ v4 = .int .i64 m ∧ v5 = .slice a2 n2 c2 := by
  obtain ⟨op, a1, n1, c1, so, n, m, a2, n2, c2, e⟩ := h.six
  simp only [Value.agg.injEq, Array.mk.injEq, List.cons.injEq, and_true] at e
  exact ⟨op, a1, n1, c1, so, n, m, a2, n2, c2, e.1, e.2.1, e.2.2.1, e.2.2.2.1, e.2.2.2.2.1, e.2.2.2.2.2⟩
set_option maxRecDepth 100000 in
set_option maxHeartbeats 12800000 in
theorem same_calls : ∀ (k : Nat) (a : Nd), sizeF a ≤ k → hugeN a → ∀ (b : Nd) (P P' : Nat → Prop) (v v' : Value) (w : World), NdV w P a v → NdV w P' b v' → Calls Tryz.prog 23 #[v, v'] w fun e w' => e = .returned (.bool (sameF a b)) ∧ Upto [] w w'
  | 0, a, hn, _ => by have := sizeF_pos a; omega
  | k + 1, .mk op xs so n m ls, hn, hh => by
    intro b P P' v v' w h h'
    obtain ⟨op', xs', so', n', m', ls'⟩ := b
    obtain ⟨na, nc, la, lc, rfl, hgn, hgl⟩ := nd_open h
    obtain ⟨na', nc', la', lc', rfl, hgn', hgl'⟩ := nd_open h'
    clear h h'
    unfold hugeN at hh
    obtain ⟨hx48, hl48, hhs⟩ := hh
    simp only [sizeF] at hn
    have HIH : Hid (∀ (x : Nd), x ∈ ls → ∀ (b : Nd) (P P' : Nat → Prop) (v v' : Value) (w : World), NdV w P x v → NdV w P' b v' → Calls Tryz.prog 23 #[v, v'] w fun e w' => e = .returned (.bool (sameF x b)) ∧ Upto [] w w') := Lib.hid (fun x hx => same_calls k x (by have := sizes_memb hx; omega) (huges_mem hhs hx))
    clear hn hhs
    have hu2 : Upto [] w ((w.alloc (.cells #[.int .i64 op, .slice na xs.length nc, .int .i64 so, .int .i64 n, .int .i64 m, .slice la ls.length lc] 25)).alloc (.cells #[.int .i64 op', .slice na' xs'.length nc', .int .i64 so', .int .i64 n', .int .i64 m', .slice la' ls'.length lc'] 25)) := ((Upto.refl [] w).alloc _).alloc _
    have hb1 := alloc_old (new_at w (.cells #[.int .i64 op, .slice na xs.length nc, .int .i64 so, .int .i64 n, .int .i64 m, .slice la ls.length lc] 25)) (.cells #[.int .i64 op', .slice na' xs'.length nc', .int .i64 so', .int .i64 n', .int .i64 m', .slice la' ls'.length lc'] 25)
    have hb2 := new_at1 w (.cells #[.int .i64 op, .slice na xs.length nc, .int .i64 so, .int .i64 n, .int .i64 m, .slice la ls.length lc] 25) (.cells #[.int .i64 op', .slice na' xs'.length nc', .int .i64 so', .int .i64 n', .int .i64 m', .slice la' ls'.length lc'] 25)
    have HU2 := Lib.hid hu2
    have HB1 := Lib.hid hb1
    have HB2 := Lib.hid hb2
    have HN := Lib.hid hgn
    have HN' := Lib.hid hgn'
    have HL := Lib.hid hgl
    have HL' := Lib.hid hgl'
    obtain ⟨xa0, xa1, xa2, xa3, xa4, xa5⟩ := cells6 hb1
    obtain ⟨xb0, xb1, xb2, xb3, xb4, xb5⟩ := cells6 hb2
    have n0 : (0 : Int) ≤ xs.length := by omega
    have n1 : (xs.length : Int) ≤ 281474976710656 := by omega
    have l0 : (0 : Int) ≤ ls.length := by omega
    have l1 : (ls.length : Int) ≤ 281474976710656 := by omega
    clear hu2 hb1 hb2 hgn hgn' hgl hgl'
    by_cases e0 : ¬ (op = op')
    · have HF : Hid (sameF (.mk op xs so n m ls) (.mk op' xs' so' n' m' ls') = false) := Lib.hid (by unfold sameF; simp [e0])
      have q1 : (op == op') = false := by rw [beq_eq_false_iff_ne]; exact e0
      have q2 : (op != op') = true := by rw [bne, q1]; rfl
      clear e0
      go_enter Tryz.func23, Tryz.ntmps23
      go_wp2_with fail
      go_ret
      rw [HF.out]
      exact ⟨rfl, HU2.out⟩
    have e0 := Decidable.not_not.1 e0
    subst e0
    by_cases e1 : ¬ (so = so')
    · have HF : Hid (sameF (.mk op xs so n m ls) (.mk op xs' so' n' m' ls') = false) := Lib.hid (by unfold sameF; simp [e1])
      have q1 : (so == so') = false := by rw [beq_eq_false_iff_ne]; exact e1
      have q2 : (so != so') = true := by rw [bne, q1]; rfl
      clear e1
      go_enter Tryz.func23, Tryz.ntmps23
      go_wp2_with fail
      go_ret
      rw [HF.out]
      exact ⟨rfl, HU2.out⟩
    have e1 := Decidable.not_not.1 e1
    subst e1
    by_cases e2 : ¬ (n = n')
    · have HF : Hid (sameF (.mk op xs so n m ls) (.mk op xs' so n' m' ls') = false) := Lib.hid (by unfold sameF; simp [e2])
      have q1 : (n == n') = false := by rw [beq_eq_false_iff_ne]; exact e2
      have q2 : (n != n') = true := by rw [bne, q1]; rfl
      clear e2
      go_enter Tryz.func23, Tryz.ntmps23
      go_wp2_with fail
      go_ret
      rw [HF.out]
      exact ⟨rfl, HU2.out⟩
    have e2 := Decidable.not_not.1 e2
    subst e2
    by_cases e3 : ¬ (m = m')
    · have HF : Hid (sameF (.mk op xs so n m ls) (.mk op xs' so n m' ls') = false) := Lib.hid (by unfold sameF; simp [e3])
      have q1 : (m == m') = false := by rw [beq_eq_false_iff_ne]; exact e3
      have q2 : (m != m') = true := by rw [bne, q1]; rfl
      clear e3
      go_enter Tryz.func23, Tryz.ntmps23
      go_wp2_with fail
      go_ret
      rw [HF.out]
      exact ⟨rfl, HU2.out⟩
    have e3 := Decidable.not_not.1 e3
    subst e3
    by_cases e4 : ¬ (xs.length = xs'.length)
    · have HF : Hid (sameF (.mk op xs so n m ls) (.mk op xs' so n m ls') = false) := Lib.hid (by
        unfold sameF
        have : xs ≠ xs' := fun h => e4 (by rw [h])
        simp [this])
      have q1 : ((xs.length : Int) == (xs'.length : Int)) = false := by rw [beq_eq_false_iff_ne]; omega
      have q2 : ((xs.length : Int) != (xs'.length : Int)) = true := by rw [bne, q1]; rfl
      clear e4
      go_enter Tryz.func23, Tryz.ntmps23
      go_wp2_with fail
      go_ret
      rw [HF.out]
      exact ⟨rfl, HU2.out⟩
    have e4 := Decidable.not_not.1 e4
    by_cases e5 : ¬ (ls.length = ls'.length)
    · have HF : Hid (sameF (.mk op xs so n m ls) (.mk op xs' so n m ls') = false) := Lib.hid (by
        unfold sameF
        have : samesF ls ls' = false := by
          rw [Bool.eq_false_iff]
          intro h
          rw [samesF_eq] at h
          exact e5 (by rw [h])
        simp [this])
      have q0 : ((xs.length : Int) != (xs'.length : Int)) = false := by rw [e4]; simp
      have q1 : ((ls.length : Int) == (ls'.length : Int)) = false := by rw [beq_eq_false_iff_ne]; omega
      have q2 : ((ls.length : Int) != (ls'.length : Int)) = true := by rw [bne, q1]; rfl
      clear e4 e5
      go_enter Tryz.func23, Tryz.ntmps23
      go_wp2_with fail
      go_ret
      rw [HF.out]
      exact ⟨rfl, HU2.out⟩
    have e5 := Decidable.not_not.1 e5
    have q0 : ((xs.length : Int) != (xs'.length : Int)) = false := by rw [e4]; simp
    have q00 : ((ls.length : Int) != (ls'.length : Int)) = false := by rw [e5]; simp
    have E4 := Lib.hid e4
    have E5 := Lib.hid e5
    clear e4 e5
    go_enter Tryz.func23, Tryz.ntmps23
    go_wp2_with fail
    generalize hW2 : (w.alloc (.cells #[.int .i64 op, .slice na xs.length nc, .int .i64 so, .int .i64 n, .int .i64 m, .slice la ls.length lc] 25)).alloc (.cells #[.int .i64 op, .slice na' xs'.length nc', .int .i64 so, .int .i64 n, .int .i64 m, .slice la' ls'.length lc'] 25) = W2 at *
    clear hW2
    go_loopw [5] (fun t5 wr => ∃ j : Nat, j ≤ xs.length ∧ t5 = .int .i64 j ∧ Hid (∀ i, i < j → xs[i]? = xs'[i]?) ∧ Hid (Upto [] W2 wr)) (fun t5 _ => xs.length - (intOf t5).toNat)
    case atStart => exact ⟨0, by omega, rfl, Lib.hid (fun i hi => by omega), Lib.hid (Upto.refl _ _)⟩
    case round =>
      obtain ⟨j, hj, rfl, HE, HU⟩ := hrel
      have hj0 : (0 : Int) ≤ j := by omega
      have h1 := HU.out.at HB1.out (by simp)
      have h2 := HU.out.at HB2.out (by simp)
      have hd := (Upto.refl [] wr).drew
      have h3 := hd.at h1 (by simp)
      have h4 := hd.at h2 (by simp)
      have y1 := cell_of h1 1
      have y2 := cell_of h2 1
      have y3 := cell_of h3 1
      have y4 := cell_of h4 1
      have z1 := cell_of h1 5
      have z2 := cell_of h2 5
      simp only [List.getElem?_toArray, List.getElem?_cons_zero, List.getElem?_cons_succ] at y1 y2 y3 y4 z1 z2
      rcases Nat.lt_or_ge j xs.length with hlt | hge
      · have hltI : (j : Int) < xs.length := by omega
        have hltJ : (j : Int) < xs'.length := by have := E4.out; omega
        obtain ⟨x, hx⟩ : ∃ x, xs[j]? = some x := ⟨_, List.getElem?_eq_getElem hlt⟩
        obtain ⟨y, hy⟩ : ∃ y, xs'[j]? = some y := ⟨_, List.getElem?_eq_getElem (by have := E4.out; omega)⟩
        obtain ⟨g, og, rfl, c0⟩ := HN.out j x hx
        obtain ⟨g', og', rfl, c1⟩ := HN'.out j y hy
        have hw := HU2.out.trans_ext HU.out
        replace c0 := up_cell hw c0
        replace c1 := up_cell hw c1
        have d0 := (hd.cell (p := ⟨g, og + j, none⟩) (World.block_lt_of_cell? wr _ c0) (by simp)).trans c0
        have d1 := (hd.cell (p := ⟨g', og' + j, none⟩) (World.block_lt_of_cell? wr _ c1) (by simp)).trans c1
        have HD := Lib.hid (HU.out.trans_ext hd)
        by_cases hxy : x = y
        · subst hxy
          have HE2 : Hid (∀ i, i < j + 1 → xs[i]? = xs'[i]?) := Lib.hid (fun i hi => by
            by_cases hij : i = j
            · subst hij; rw [hx, hy]
            · exact HE.out i (by omega))
          clear hx hy hd h1 h2 h3 h4 HE hw
          go_wp2_with fail
          go_region
          all_goals (
            go_wp2_with fail
            go_roundw
            case rel => exact ⟨j + 1, by omega, by go_num, HE2, HD⟩
            case measure => simp [intOf]; omega)
        · have HF : Hid (sameF (.mk op xs so n m ls) (.mk op xs' so n m ls') = false) := Lib.hid (by
            unfold sameF
            have : xs ≠ xs' := fun h => by
              rw [h, hy] at hx
              exact hxy (Option.some.inj hx).symm
            simp [this])
          have q1 : (x == y) = false := by simpa using hxy
          have q2 : (x != y) = true := by rw [bne, q1]; rfl
          have HW := Lib.hid (HU2.out.trans_ext HD.out)
          clear hx hy hd h1 h2 h3 h4 HE hw hxy
          go_wp2_with fail
          go_region
          all_goals (
            go_wp2_with fail
            go_ret
            rw [HF.out]
            exact ⟨rfl, HW.out⟩)
      · have hgeI : ¬ (j : Int) < xs.length := by omega
        obtain rfl : xs = xs' := by
          apply List.ext_getElem?
          intro i
          by_cases hi : i < j
          · exact HE.out i hi
          · rw [List.getElem?_eq_none (by omega), List.getElem?_eq_none (by have := E4.out; omega)]
        have HUA := Lib.hid (HU2.out.trans_ext HU.out)
        have HA1 := Lib.hid h1
        have HA2 := Lib.hid h2
        clear hd h1 h2 h3 h4 y3 y4 HE HU HB1 HB2
        go_wp2_with fail
        go_loopw [6] (fun t6 wx => ∃ i : Nat, i ≤ ls.length ∧ t6 = .int .i64 i ∧ Hid (∀ q x y, q < i → ls[q]? = some x → ls'[q]? = some y → x = y) ∧ Hid (Upto [] wr wx)) (fun t6 _ => ls.length - (intOf t6).toNat)
        case atStart => exact ⟨0, by omega, rfl, Lib.hid (fun q x y hq => by omega), Lib.hid (Upto.refl _ _)⟩
        case round =>
          clear y1 y2 z1 z2
          obtain ⟨i, hi, rfl, HE, HU⟩ := hrel
          have hi0 : (0 : Int) ≤ i := by omega
          have h1 := HU.out.at HA1.out (by simp)
          have h2 := HU.out.at HA2.out (by simp)
          have z1 := cell_of h1 5
          have z2 := cell_of h2 5
          simp only [List.getElem?_toArray, List.getElem?_cons_zero, List.getElem?_cons_succ] at z1 z2
          have HW := Lib.hid (HUA.out.trans_ext HU.out)
          rcases Nat.lt_or_ge i ls.length with hlt | hge
          · have hltI : (i : Int) < ls.length := by omega
            have hltJ : (i : Int) < ls'.length := by have := E5.out; omega
            obtain ⟨x, hx⟩ : ∃ x, ls[i]? = some x := ⟨_, List.getElem?_eq_getElem hlt⟩
            obtain ⟨y, hy⟩ : ∃ y, ls'[i]? = some y := ⟨_, List.getElem?_eq_getElem (by have := E5.out; omega)⟩
            obtain ⟨g, og, v0, v1, v2, v3, v4, v5, rfl, c0, c1, c2, c3, c4, c5, hnx⟩ := HL.out i x hx
            obtain ⟨g', og', u0, u1, u2, u3, u4, u5, rfl, d0, d1, d2, d3, d4, d5, hny⟩ := HL'.out i y hy
            obtain ⟨r1, r2, r3, r4, r5, r6, r7, r8, r9, r10, rfl, rfl, rfl, rfl, rfl, rfl⟩ := six_form hnx
            obtain ⟨s1, s2, s3, s4, s5, s6, s7, s8, s9, s10, rfl, rfl, rfl, rfl, rfl, rfl⟩ := six_form hny
            have hC : ∀ u, Upto [] wr u → Calls Tryz.prog 23 #[.agg #[.int .i64 r1, .slice r2 r3 r4, .int .i64 r5, .int .i64 r6, .int .i64 r7, .slice r8 r9 r10], .agg #[.int .i64 s1, .slice s2 s3 s4, .int .i64 s5, .int .i64 s6, .int .i64 s7, .slice s8 s9 s10]] u fun e w' => e = .returned (.bool (sameF x y)) ∧ Upto [] u w' := fun u hu => HIH.out x (List.mem_of_getElem? hx) y _ _ _ _ u (hnx.ext (HW.out.trans_ext hu)) (hny.ext (HW.out.trans_ext hu))
            replace c0 := up_cell HW.out c0
            replace c1 := up_cell HW.out c1
            replace c2 := up_cell HW.out c2
            replace c3 := up_cell HW.out c3
            replace c4 := up_cell HW.out c4
            replace c5 := up_cell HW.out c5
            replace d0 := up_cell HW.out d0
            replace d1 := up_cell HW.out d1
            replace d2 := up_cell HW.out d2
            replace d3 := up_cell HW.out d3
            replace d4 := up_cell HW.out d4
            replace d5 := up_cell HW.out d5
            have ec0 := fun u : Ext wr => u.cell c0
            have ec1 := fun u : Ext wr => u.cell c1
            have ec2 := fun u : Ext wr => u.cell c2
            have ec3 := fun u : Ext wr => u.cell c3
            have ec4 := fun u : Ext wr => u.cell c4
            have ec5 := fun u : Ext wr => u.cell c5
            have ed0 := fun u : Ext wr => u.cell d0
            have ed1 := fun u : Ext wr => u.cell d1
            have ed2 := fun u : Ext wr => u.cell d2
            have ed3 := fun u : Ext wr => u.cell d3
            have ed4 := fun u : Ext wr => u.cell d4
            have ed5 := fun u : Ext wr => u.cell d5
            have ez1 := fun u : Ext wr => u.cell z1
            have ez2 := fun u : Ext wr => u.cell z2
            have HC := Lib.hid hC
            have hbb : sameF x y = true ∨ sameF x y = false := by cases sameF x y <;> simp
            rcases hbb with hb | hb
            · have HE2 : Hid (∀ q x y, q < i + 1 → ls[q]? = some x → ls'[q]? = some y → x = y) := Lib.hid (fun q x' y' hq hx' hy' => by
                by_cases hqi : q = i
                · subst hqi
                  rw [hx] at hx'
                  rw [hy] at hy'
                  cases hx'
                  cases hy'
                  exact (sameF_eq x y).1 hb
                · exact HE.out q x' y' (by omega) hx' hy')
              rw [hb] at HC
              clear hx hy hnx hny h1 h2 HE hC hb
              go_wp2_with fail
              refine wp_region_seg_all [10] [] [0, 1, 2, 3, 4, 5, 6, 7, 8, 9, 10, 11] (by kernel_rfl) (by kernel_rfl) ?_
              iterate 10 (refine seg_plain rfl rfl rfl rfl rfl ?_; intro K' hK'; go_big_quiet_op; go_big_quiet_on)
              refine seg_call rfl rfl rfl rfl (fun w => by go_simp) (fun w hu hd => HC.out w hu) ?_
              simp only [Act.put, List.setIfInBounds_toArray, List.set_cons_zero, List.set_cons_succ]
              (refine seg_plain rfl rfl rfl rfl rfl ?_; intro K' hK'; go_big_quiet_op; go_big_quiet_on)
              intro w9 hg
              have HW9 := Lib.hid (HU.out.trans_ext hg.up)
              clear hg
              go_wp2_with fail
              go_roundw
              case rel => exact ⟨i + 1, by omega, by go_num, HE2, HW9⟩
              case measure => simp [intOf]; omega
            · have HF : Hid (sameF (.mk op xs so n m ls) (.mk op xs so n m ls') = false) := Lib.hid (by
                rw [Bool.eq_false_iff]
                intro h
                rw [sameF_eq] at h
                injection h with _ _ _ _ _ h6
                rw [h6, hy] at hx
                have := Option.some.inj hx
                subst this
                rw [(sameF_eq y y).2 rfl] at hb
                cases hb)
              rw [hb] at HC
              clear hx hy hnx hny h1 h2 HE hC hb
              go_wp2_with fail
              refine wp_region_seg_all [10] [] [0, 1, 2, 3, 4, 5, 6, 7, 8, 9, 10, 11] (by kernel_rfl) (by kernel_rfl) ?_
              iterate 10 (refine seg_plain rfl rfl rfl rfl rfl ?_; intro K' hK'; go_big_quiet_op; go_big_quiet_on)
              refine seg_call rfl rfl rfl rfl (fun w => by go_simp) (fun w hu hd => HC.out w hu) ?_
              simp only [Act.put, List.setIfInBounds_toArray, List.set_cons_zero, List.set_cons_succ]
              (refine seg_plain rfl rfl rfl rfl rfl ?_; intro K' hK'; go_big_quiet_op; go_big_quiet_on)
              intro w9 hg
              have HW9 := Lib.hid (HW.out.trans_ext hg.up)
              clear hg
              go_wp2_with fail
              go_ret
              rw [HF.out]
              exact ⟨rfl, HW9.out⟩
          · have hgeI : ¬ (i : Int) < ls.length := by omega
            obtain rfl : ls = ls' := by
              apply List.ext_getElem?
              intro q
              by_cases hq : q < ls.length
              · rw [List.getElem?_eq_getElem hq, List.getElem?_eq_getElem (by have := E5.out; omega)]
                congr 1
                exact HE.out q _ _ (by omega) (List.getElem?_eq_getElem hq) (List.getElem?_eq_getElem _)
              · rw [List.getElem?_eq_none (by omega), List.getElem?_eq_none (by have := E5.out; omega)]
            clear h1 h2 HE
            go_wp2_with fail
            go_ret
            rw [(sameF_eq _ _).2 rfl]
            exact ⟨rfl, HW.out⟩
theorem comF_len16 : ∀ (ys : List (List UInt8)), (∀ x ∈ ys, x.length ≤ 16) → (comF ys).length ≤ 18 * ys.length
  | [], _ => by simp [comF]
  | [x], h => by have := h x (by simp); simp only [comF, List.length_cons, List.length_nil]; omega
  | x :: y :: r, h => by
    have h1 := h x (by simp)
    have h2 := comF_len16 (y :: r) (fun z hz => h z (List.mem_cons_of_mem _ hz))
    simp only [comF, List.length_append, List.length_cons, List.length_nil] at h2 ⊢
    omega
theorem wordsF_len : ∀ k : Nat, (wordsF.getD k []).length ≤ 10 := by
  intro k
  by_cases h : k < 18
  · have key : ∀ m : _root_.Fin 18, (wordsF.getD m.val []).length ≤ 10 := by decide
    exact key ⟨k, h⟩
  · rw [List.getD_eq_getElem?_getD, List.getElem?_eq_none (by show wordsF.length ≤ k; simp [wordsF]; omega)]
    simp
theorem sortW_len : ∀ k : Nat, (sortWords.getD k []).length ≤ 10 := by
  intro k
  by_cases h : k < 4
  · have key : ∀ m : _root_.Fin 4, (sortWords.getD m.val []).length ≤ 10 := by decide
    exact key ⟨k, h⟩
  · rw [List.getD_eq_getElem?_getD, List.getElem?_eq_none (by show sortWords.length ≤ k; simp [sortWords]; omega)]
    simp
set_option maxRecDepth 10000 in
theorem full_len : ∀ (k : Nat) (nd : Nd), sizeF nd ≤ k → okF nd → (fullG nd).length ≤ 500 * sizeF nd
  | 0, nd, hn, _ => by have := sizeF_pos nd; omega
  | n + 1, .mk op names so nn mm l, hn, hok => by
    simp only [sizeF] at hn ⊢
    unfold okF at hok
    obtain ⟨hnm, hc, hos⟩ := hok
    have hx16 : ∀ x ∈ names, x.length ≤ 16 := fun x hx => real_len (hnm x hx)
    unfold fullG
    rcases hc with ⟨h1 | h1, rfl, rfl, rfl, rfl, rfl⟩ | ⟨h1, h2, h3, rfl, rfl, rfl, rfl⟩ | ⟨rfl, h3, rfl, rfl, h4, h5, rfl⟩ | ⟨rfl, h3, rfl, rfl, h4, h5, h6⟩ | ⟨rfl, h3, rfl, rfl, rfl, rfl⟩ | ⟨rfl, h3, h4, rfl, rfl, rfl, rfl⟩ | ⟨rfl, rfl, h3, rfl, rfl, rfl⟩ | ⟨h1, h2, rfl, h3, rfl, rfl, rfl⟩ | ⟨h1, h2, h3, h4, h5, h6, rfl, rfl⟩
    · subst h1
      unfold fullB
      rw [if_pos rfl]
      simp [spB, kyT, sizesF]
    · subst h1
      unfold fullB
      rw [if_neg (by decide), if_pos rfl]
      simp [spB, kyT, sizesF]
    · obtain ⟨k, rfl⟩ := Int.eq_ofNat_of_zero_le (show 0 ≤ op by omega)
      match names, h3 with
      | [x, y], _ =>
        unfold fullB
        rw [if_neg (by omega), if_neg (by omega), if_pos h2]
        simp only [spB_cons, rel_word (show 2 ≤ k ∧ k < 7 by omega)]
        have a := hx16 x (by simp)
        have b := hx16 y (by simp)
        have c := wordsF_len k
        simp only [spB, idT, List.getD_cons_zero, List.getD_cons_succ, List.length_append, List.length_cons, List.length_nil, List.flatMap_nil, if_true, if_false, Bool.false_eq_true]
        omega
    · match names, h3 with
      | [x], _ =>
        obtain ⟨q, rfl⟩ := Int.eq_ofNat_of_zero_le h4
        unfold fullB
        rw [if_neg (by decide), if_neg (by decide), if_neg (by decide), if_pos rfl]
        simp only [spB_cons, nm_text]
        have a := hx16 x (by simp)
        have b := dig_len q (by omega)
        simp only [spB, idT, kyT, Int.toNat_natCast, List.getD_cons_zero, List.length_append, List.length_cons, List.length_nil, List.flatMap_nil, if_true, if_false, Bool.false_eq_true]
        omega
    · match names, h3 with
      | [x], _ =>
        obtain ⟨q, rfl⟩ := Int.eq_ofNat_of_zero_le h4
        obtain ⟨p, rfl⟩ := Int.eq_ofNat_of_zero_le (show 0 ≤ mm by omega)
        unfold fullB
        rw [if_neg (by decide), if_neg (by decide), if_neg (by decide), if_neg (by decide), if_pos rfl]
        simp only [spB_cons, nm_text]
        have a := hx16 x (by simp)
        have b := dig_len q (by omega)
        have c := dig_len p (by omega)
        simp only [spB, idT, kyT, Int.toNat_natCast, List.getD_cons_zero, List.length_append, List.length_cons, List.length_nil, List.flatMap_nil, if_true, if_false, Bool.false_eq_true]
        omega
    · match names, h3 with
      | [x], _ =>
        unfold fullB
        rw [if_neg (by decide), if_neg (by decide), if_neg (by decide), if_neg (by decide), if_neg (by decide), if_pos rfl]
        simp only [spB_cons]
        have a := hx16 x (by simp)
        simp only [spB, idT, kyT, List.getD_cons_zero, List.length_append, List.length_cons, List.length_nil, List.flatMap_nil, if_true, if_false, Bool.false_eq_true]
        omega
    · match names, h3, h4, hx16 with
      | f :: ys, _, h4, hx16 =>
        unfold fullB
        rw [if_neg (by decide), if_neg (by decide), if_neg (by decide), if_neg (by decide), if_neg (by decide), if_neg (by decide), if_pos rfl]
        simp only [spB_cons, List.tail_cons, List.getD_cons_zero, spB_append, (arg_com ys).1]
        have a := hx16 f (by simp)
        have b := comF_len16 ys (fun x hx => hx16 x (List.mem_cons_of_mem _ hx))
        simp only [List.length_cons] at h4
        simp only [spB, idT, puT, List.length_append, List.length_cons, List.length_nil, List.flatMap_nil, if_false, Bool.false_eq_true]
        omega
    · match l, h3 with
      | [a], _ =>
        unfold fullB
        rw [if_neg (by decide), if_neg (by decide), if_neg (by decide), if_neg (by decide), if_neg (by decide), if_neg (by decide), if_neg (by decide), if_pos rfl]
        simp only [spB_cons, spB_append, fullsB, List.getD_cons_zero]
        simp only [sizesF] at hn ⊢
        unfold oksF at hos
        have h := full_len n a (by omega) hos.1
        unfold fullG at h
        simp only [spB, kyT, puT, List.length_append, List.length_cons, List.length_nil, List.flatMap_nil, if_true, if_false, Bool.false_eq_true] at h ⊢
        omega
    · obtain ⟨k, rfl⟩ := Int.eq_ofNat_of_zero_le (show 0 ≤ op by omega)
      match l, h3 with
      | [a, c], _ =>
        unfold fullB
        rw [if_neg (by omega), if_neg (by omega), if_neg (by omega), if_neg (by omega), if_neg (by omega), if_neg (by omega), if_neg (by omega), if_neg (by omega), if_pos h2]
        simp only [spB_cons, spB_append, fullsB, List.getD_cons_zero, List.getD_cons_succ, conW_word (show 12 ≤ k ∧ k < 16 by omega)]
        simp only [sizesF] at hn ⊢
        unfold oksF oksF at hos
        have h := full_len n a (by omega) hos.1
        have h' := full_len n c (by omega) hos.2.1
        have hw := wordsF_len k
        unfold fullG at h h'
        simp only [spB, kyT, puT, List.length_append, List.length_cons, List.length_nil, List.flatMap_nil, if_true, if_false, Bool.false_eq_true] at h h' ⊢
        omega
    · match l, h4, names, h3 with
      | [a], _, [x], _ =>
        obtain ⟨k, rfl⟩ := Int.eq_ofNat_of_zero_le (show 0 ≤ op by omega)
        unfold fullB
        rw [if_neg (by omega), if_neg (by omega), if_neg (by omega), if_neg (by omega), if_neg (by omega), if_neg (by omega), if_neg (by omega), if_neg (by omega), if_neg (by omega)]
        simp only [spB_cons, fullsB, List.getD_cons_zero, quW_word (show 16 ≤ k ∧ k < 18 by omega), fullB_true]
        simp only [sizesF] at hn ⊢
        unfold oksF at hos
        have h := full_len n a (by omega) hos.1
        have hw := wordsF_len k
        have hq := sortW_len so.toNat
        have hx := hx16 x (by simp)
        simp only [kyT, puT, idT, List.length_append, List.length_cons, List.length_nil, if_true, if_false, Bool.false_eq_true] at h ⊢
        omega
end Go.Proofs.YtkhbpebpljdifaaGreatDoor
