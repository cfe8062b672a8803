/- Tokenize: what it holds at a round's head. -/
import Derived.Test.YtkhbpebpljdifaaDoorRun
import Derived.Test.YtkhbpebpljdifaaDoorSeg
namespace Go.Proofs.YtkhbpebpljdifaaDoor
open Go.RowKit Go.PL Go.Maps

theorem Keys.upto {S : List Nat} {w w' : World} {v : Value} (h : Keys w v) (hu : Upto S w w') (hS : ∀ g ∈ S, ∃ cs t z, w.heap[g]? = some (.cells cs t z)) : Keys w' v := by
  obtain ⟨b, h1, h2⟩ := h
  refine ⟨b, h1, h2.upto hu (fun hm => ?_)⟩
  obtain ⟨cs, t, z, hc⟩ := hS b hm
  obtain ⟨es, c, h3, _⟩ := h2
  rw [hc] at h3
  cases h3

/-- the lexer's memory: the result's place, the position, the set of keywords, the tokens so far -/
structure TkM (w : World) (B3 B7 : Nat) (m : Value) (acc : List Tok) (l : Value) (L c : Nat) (wr : World) : Prop where
  row : wr.ownsRow 0 36 5 l acc.length (acc.flatMap tkC)
  own : ∀ g, l.ownBlock = some g → w.heap.size ≤ g
  b3 : wr.heap[B3]? = some (.cells #[.int .i64 0, .int .i64 0] 24 (0, 0))
  b7 : wr.heap[B7]? = some (.cells #[.int .i64 L, .int .i64 c] 24 (0, 0))
  up : Upto [] w wr
  keys : Keys wr m
  env : Env wr
  n3 : w.heap.size ≤ B3
  n7 : w.heap.size ≤ B7
  ne : B3 ≠ B7

section
variable {w wr wr' : World} {B3 B7 : Nat} {m : Value} {acc : List Tok} {l : Value} {L c : Nat}
theorem TkM.ext (h : TkM w B3 B7 m acc l L c wr) (hu : Upto [] wr wr') : TkM w B3 B7 m acc l L c wr' :=
  ⟨ownsRow_upto h.row hu (by simp), h.own, hu.at h.b3 (by simp), hu.at h.b7 (by simp), h.up.trans_ext hu, h.keys.ext hu, h.env.ext hu, h.n3, h.n7, h.ne⟩
theorem TkM.no7 (h : TkM w B3 B7 m acc l L c wr) : ∀ g, l.ownBlock = some g → g ≠ B7 ∧ g ≠ B3 := fun g hg =>
  ⟨fun e => row_ne h.row (g := g) (Option.mem_toList.2 hg) (cs := #[.int .i64 L, .int .i64 c]) (t := 24) (fz := (0, 0)) (by rw [e]; exact h.b7) (by decide), fun e => row_ne h.row (g := g) (Option.mem_toList.2 hg) (cs := #[.int .i64 0, .int .i64 0]) (t := 24) (fz := (0, 0)) (by rw [e]; exact h.b3) (by decide)⟩
/-- the facts of the world stay where only new blocks are written -/
theorem Env.upto {S : List Nat} {w0 w1 w2 : World} (h : Env w0) (h1 : Upto [] w0 w1) (h2 : Upto S w1 w2) (hS : ∀ k ∈ S, w0.heap.size ≤ k) : Env w2 := h.ext (h1.trans h2 (fun k hk => Or.inr (hS k hk)))
theorem TkM.set (h : TkM w B3 B7 m acc l L c wr) (h0 : Env w) {L' c' : Nat} (hu : Upto [B7] wr wr') (hb : wr'.heap[B7]? = some (.cells #[.int .i64 L', .int .i64 c'] 24 (0, 0))) : TkM w B3 B7 m acc l L' c' wr' := by
  refine ⟨ownsRow_upto h.row hu (fun g hg => by simpa using (h.no7 g hg).1), h.own, hu.at h.b3 (by simpa using h.ne), hb, h.up.trans hu (fun k hk => by simp at hk; subst hk; exact Or.inr h.n7), h.keys.upto hu (fun g hg => by simp at hg; subst hg; exact ⟨_, _, _, h.b7⟩), h0.upto h.up hu (fun k hk => by simp at hk; subst hk; exact h.n7), h.n3, h.n7, h.ne⟩
theorem TkM.at (h : TkM w B3 B7 m acc l L c wr) (h0 : Env w) (c' : Nat) : TkM w B3 B7 m acc l L c' ((wr.setCell ⟨B7, 0, none⟩ (.int .i64 L)).setCell ⟨B7, 1, none⟩ (.int .i64 c')) :=
  h.set h0 (((Upto.refl _ wr).setCell (Or.inl (by simp)) _).setCell (Or.inl (by simp)) _) (by
    have := set_same (set_same h.b7 0 (.int .i64 L)) 1 (.int .i64 c')
    simpa using this)
theorem TkM.line (h : TkM w B3 B7 m acc l L c wr) (h0 : Env w) (L' : Nat) : TkM w B3 B7 m acc l L' c (wr.setCell ⟨B7, 0, none⟩ (.int .i64 L')) :=
  h.set h0 ((Upto.refl _ wr).setCell (Or.inl (by simp)) _) (by
    have := set_same h.b7 0 (.int .i64 L')
    simpa using this)
/-- one token more -/
theorem TkM.app {t : Tok} {src : Obj} {n' : Nat} {b' : Option Addr} {c' : Nat} (h : TkM w B3 B7 m acc l L c wr) (h0 : Env w) (hn : n' = acc.length + 1)
    (ho : wr'.ownsRow 0 36 5 (.slice b' n' c') n' (acc.flatMap tkC ++ tkC t)) (hu : Upto l.ownBlock.toList (wr.alloc src) wr') (hw : ∀ g, (Value.slice b' n' c').ownBlock = some g → l.ownBlock = some g ∨ (wr.alloc src).heap.size ≤ g) :
    TkM w B3 B7 m (acc ++ [t]) (.slice b' (acc.length + 1) c') L c wr' := by
  subst hn
  have h' := h.ext ((Upto.refl [] wr).alloc src)
  have hs : w.heap.size ≤ (wr.alloc src).heap.size := h'.up.size
  have hS : ∀ k ∈ l.ownBlock.toList, w.heap.size ≤ k := fun k hk => h.own k (Option.mem_toList.1 hk)
  refine ⟨?_, fun g hg => (hw g hg).elim (h.own g) (fun h => Nat.le_trans hs h), hu.at h'.b3 (fun hm => (h'.no7 B3 (Option.mem_toList.1 hm)).2 rfl), hu.at h'.b7 (fun hm => (h'.no7 B7 (Option.mem_toList.1 hm)).1 rfl), h'.up.trans hu (fun k hk => Or.inr (hS k hk)), h'.keys.upto hu (fun g hg => ?_), h0.upto h'.up hu hS, h.n3, h.n7, h.ne⟩
  · rw [toks_snoc]
    simpa using ho
  · obtain ⟨cur, hc⟩ := ownsRow_block h'.row (Option.mem_toList.1 hg)
    exact ⟨_, _, _, hc⟩
theorem TkM.fin (h : TkM w B3 B7 m acc l L c wr) (x y : Value) : Toks ((wr.setCell ⟨B3, 0, none⟩ x).setCell ⟨B3, 1, none⟩ y) l acc ∧ Upto [] w ((wr.setCell ⟨B3, 0, none⟩ x).setCell ⟨B3, 1, none⟩ y) := by
  have hu : Upto [B3] wr ((wr.setCell ⟨B3, 0, none⟩ x).setCell ⟨B3, 1, none⟩ y) := ((Upto.refl _ wr).setCell (Or.inl (by simp)) _).setCell (Or.inl (by simp)) _
  refine ⟨(Toks.of_row h.row).upto hu (fun g o n c' e hg => ?_), h.up.trans hu (fun k hk => by simp at hk; subst hk; exact Or.inr h.n3)⟩
  rcases h.row.2 with ⟨rfl, -⟩ | ⟨g', cap, cur, rfl, -⟩
  · cases e
  · cases e
    exact (h.no7 g rfl).2 (by simpa using hg)
end

/-- the cells of a new block -/
theorem cells_at {w : World} {B : Nat} {l : List Value} {t : TypeId} {fr : Nat × Nat} (hb : w.heap[B]? = some (.cells l.toArray t fr)) : ∀ (j : Nat) (u : Value), l[j]? = some u → w.cell? ((⟨B, 0, none⟩ : Addr).add j) = some u := by
  intro j u hj
  simp only [Addr.add_lit, Nat.zero_add]
  rw [cell_of hb]
  simpa using hj
theorem tkC_one {t : Tok} : ∀ u ∈ tkC t, u.oneCell' = true := by
  intro u h
  simp only [tkC, List.mem_cons, List.not_mem_nil, or_false] at h
  rcases h with rfl | rfl | rfl | rfl | rfl <;> rfl

/-- what Tokenize comes to -/
def TokR (s : List UInt8) (e : Ending) (w' : World) : Prop :=
  (∃ ts v, lexT s = .ok ts ∧ e = .returned (.tuple #[v, .agg #[.int .i64 0, .int .i64 0], .int .i64 0]) ∧ Toks w' v ts) ∨
  ∃ l c n : Nat, lexT s = .error (l, c, n) ∧ n ≠ 0 ∧ e = .returned (.tuple #[.slice none 0 0, .agg #[.int .i64 l, .int .i64 c], .int .i64 n])

theorem ext_from {s : List UInt8} (k : Nat) : (ByteArray.mk s.toArray).extract k s.length = ⟨(s.drop k).toArray⟩ := by
  rw [ByteArray.extract_mk, List.take_of_length_le (by simp)]
theorem ext_to {s : List UInt8} (k n : Nat) : (ByteArray.mk s.toArray).extract k (k + n) = ⟨((s.drop k).take n).toArray⟩ := by
  rw [ByteArray.extract_mk, Nat.add_sub_cancel_left]
theorem drop_at {s : List UInt8} {k : Nat} {b : UInt8} (h : s[k]? = some b) : s.drop k = b :: s.drop (k + 1) := by
  obtain ⟨h1, h2⟩ := List.getElem?_eq_some_iff.1 h
  rw [List.drop_eq_getElem_cons h1, h2]
end Go.Proofs.YtkhbpebpljdifaaDoor
