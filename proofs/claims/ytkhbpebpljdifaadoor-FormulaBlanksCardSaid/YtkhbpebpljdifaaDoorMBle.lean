/- Texts merged, in build order: Fm33, Fm30, Fm27, Fm31, Fm32, Fm34, Fm35, Fm39. -/
import Derived.Test.YtkhbpebpljdifaaDoorMBld
import Derived.Deep.QuietTactic
/- The law's Back: a formula as the reference's node. -/
namespace Go.Proofs.YtkhbpebpljdifaaDoor
open Go.RowKit Go.PL Go.Maps

/-- append onto an empty slice, as an opaque step -/
theorem opq_apps {P : Program} (w : World) {o : Oper} {ac : Act} {post : Value → World → Prop} (s x : Operand) (t : TypeId) (ho : o.op = .call { callee := .builtin .append, args := #[s, x], argTypes := #[t, t] })
    (e : TypeId) (i : TypeInfo) (z : Value) (bytes : Nat) (ht : P.underlying t = some (.slice e)) (hi : P.info? e = some i) (hz : i.zero = some z)
    (hsize : i.size = 1) (hby : i.bytes = bytes) (hzs : z.cells.size = 1)
    (b : Nat) (hs : ac.eval s = .slice (some ⟨b, 0, none⟩) 0 0)
    (y : Value) (news : List Value) (n : Nat) (hn : news.length = n) (hx : ac.eval x = y) (hnews : SlC w y news)
    (h63 : n ≤ maxLen) (hbytes : n * bytes ≤ 140737488355328)
    (h : ∀ b' c' w', Upto [] w w' → SlP w' (New w) (.slice b' n c') n news → post (.slice b' n c') w') :
    opqUpon P post ((execOp ac.eval o).run P w) := by
  subst hn
  have hzero : news = [] → (∃ a c, y = .slice a 0 c) → opqUpon P post ((execOp ac.eval o).run P w) := by
    rintro rfl ⟨a, c, rfl⟩
    have hr : (Builtin.append_ #[t, t] o.type #[.slice (some ⟨b, 0, none⟩) 0 0, .slice a 0 c]).run P w = .ok (.slice (some ⟨b, 0, none⟩) 0 0) w := by
      cases a <;> simp [Builtin.append_, run_underlying ht, sizeOf, typeInfo, hi, Builtin.lenOf, Builtin.firstCells, loadCells, loadCellsFrom, storeCells]
    simp only [execOp, ho, resolve, invoke, builtin, Sem.run_bind, Sem.run_pure, Result.andThen_ok, List.map_toArray, List.map_cons, List.map_nil, hs, hx, hr]
    exact h _ _ w (Upto.refl _ _) (Or.inl ⟨rfl, rfl, _, _, rfl⟩)
  rcases hnews with ⟨h0, a, c, h2⟩ | ⟨g, off, c, h2, hc⟩
  · exact hzero h0 ⟨a, c, h2⟩
  · cases news with
    | nil => exact hzero rfl ⟨_, _, h2⟩
    | cons u us =>
      obtain ⟨v', w', hr, hrow, hgr⟩ := run_append_arg_grows (P := P) w t o.type e i z 1 bytes ht hi hz hsize hby hzs (by decide) ⟨b, 0, none⟩ 0 0 [] rfl (by simp) ⟨g, off, none⟩ (u :: us).length c (u :: us) (by simp) (fun j u hj => by simpa [Addr.add_lit] using hc j u hj) (by simp) (by simpa using h63) (by simpa using hbytes)
      simp only [execOp, ho, resolve, invoke, builtin, Sem.run_bind, Sem.run_pure, Result.andThen_ok, List.map_toArray, List.map_cons, List.map_nil, hs, hx, h2, hr]
      rcases hrow.2 with ⟨-, h0⟩ | ⟨g', cap, cur, rfl, hge, hh, _, _, _, htk⟩
      · simp at h0
      · rw [Nat.zero_add] at htk ⊢
        refine h _ _ w' ((Upto.refl [] w).grown hgr (fun k e => by cases e)) (Or.inr ⟨g', 0, cap, rfl, ⟨hge, _, _, _, hh⟩, ?_⟩)
        intro j u' hj
        rw [cell_of hh, Nat.zero_add]
        rw [← List.nil_append (u :: us), ← htk, List.getElem?_take] at hj
        split at hj
        · simpa using hj
        · cases hj
theorem SlP.slc {w : World} {P : Nat → Prop} {v : Value} {xs : List Value} (h : SlP w P v xs.length xs) : SlC w v xs := by
  rcases h with ⟨h0, rfl, a, c, rfl⟩ | ⟨g, o, c, rfl, -, hc⟩
  · exact Or.inl ⟨rfl, a, c, by rfl⟩
  · exact Or.inr ⟨g, o, c, rfl, hc⟩
theorem ownsRow_none (w : World) (e : TypeId) : (w.alloc (.cells #[] e)).ownsRow 0 e 1 (.slice (some ⟨w.heap.size, 0, none⟩) 0 0) 0 [] :=
  ⟨rfl, Or.inr ⟨w.heap.size, 0, #[], rfl, Nat.zero_le _, heap_alloc_new w _, Nat.le_refl _, by decide, rfl, rfl⟩⟩
def BkPost (w : World) (nd : Nd) (e : Ending) (w' : World) : Prop := ∃ v, e = .returned v ∧ NdV w' (New w) nd v ∧ Upto [] w w'
/-- a slice of one's own that holds these formulas -/
structure BkRow (w0 w : World) (B : Nat) (c : Nat → Nat → Value) (v : Value) (ms : List Nd) : Prop where
  row : w.ownsRow 0 54 6 v ms.length (cellsN c ms.length)
  nd : ∀ i m, ms[i]? = some m → NdV w (Lr w0 B v) m (.agg #[c i 0, c i 1, c i 2, c i 3, c i 4, c i 5])
  own : ∀ g, v.ownBlock = some g → w0.heap.size ≤ g ∧ g ≠ B
theorem BkRow.upto {w0 w w' : World} {S : List Nat} {B : Nat} {c : Nat → Nat → Value} {v : Value} {ms : List Nd} (h : BkRow w0 w B c v ms) (hu : Upto S w w') (hS : ∀ k ∈ S, k < w0.heap.size ∨ k = B) : BkRow w0 w' B c v ms :=
  ⟨ownsRow_upto h.row hu (fun g hg hm => by have h1 := h.own g hg; rcases hS g hm with h2 | h2 <;> omega),
   fun i m hi => (h.nd i m hi).upto hu (fun b hb _ hm => by have h1 := hb.1; unfold New at h1; rcases hS b hm with h2 | h2; omega; exact hb.2.1 h2), h.own⟩
theorem BkRow.app {w0 w w5 : World} {B : Nat} {c : Nat → Nat → Value} {v : Value} {ms : List Nd} {m : Nd} {v0 v1 v2 v3 v4 v5 : Value} {b' : Option Addr} {c' : Nat} (h : BkRow w0 w B c v ms) (hsz : w0.heap.size ≤ w.heap.size) (hBw : B < w.heap.size)
    (hm : NdV w (Lr w0 B v) m (.agg #[v0, v1, v2, v3, v4, v5])) (ho : w5.ownsRow 0 54 6 (.slice b' (ms.length + 1) c') (ms.length + 1) (cellsN c ms.length ++ [v0, v1, v2, v3, v4, v5])) (hu : Upto v.ownBlock.toList w w5)
    (hw : ∀ g, (Value.slice b' (ms.length + 1) c').ownBlock = some g → v.ownBlock = some g ∨ w.heap.size ≤ g) : BkRow w0 w5 B (addC c ms.length v0 v1 v2 v3 v4 v5) (.slice b' (ms.length + 1) c') (ms ++ [m]) := by
  have key : ∀ x u, NdV w (Lr w0 B v) x u → NdV w5 (Lr w0 B (.slice b' (ms.length + 1) c')) x u := fun x u hx =>
    NdV.keep ⟨hu.size, fun b hb hl => ⟨⟨hb.1, hb.2.1, fun e => by
      rcases hw b e with h1 | h1
      · exact hb.2.2 h1
      · have := hl.lt; omega⟩, hu.block b hl.lt (fun hmm => hb.2.2 (Option.mem_toList.1 hmm))⟩⟩ x u hx
  refine ⟨?_, ?_, ?_⟩
  · rw [List.length_append, List.length_singleton, cellsN_add]
    exact ho
  · intro i x hi
    by_cases hlt : i < ms.length
    · rw [List.getElem?_append_left hlt] at hi
      have := key _ _ (h.nd i x hi)
      simpa [addC, Nat.ne_of_lt hlt] using this
    · rw [List.getElem?_append_right (by omega)] at hi
      cases hd : i - ms.length with
      | zero =>
        rw [hd] at hi
        simp at hi
        subst hi
        have : i = ms.length := by omega
        subst this
        simpa [addC] using key _ _ hm
      | succ z => rw [hd] at hi; simp at hi
  · intro g hg
    rcases hw g hg with h1 | h1
    · exact h.own g h1
    · exact ⟨by omega, by omega⟩
theorem nds_of {w : World} {P : Nat → Prop} {g : Nat} : ∀ (l : List Nd) (o : Nat), (∀ i x, l[i]? = some x → ∃ v0 v1 v2 v3 v4 v5, w.cell? ⟨g, o + i * 6, none⟩ = some v0 ∧ w.cell? ⟨g, o + i * 6 + 1, none⟩ = some v1 ∧ w.cell? ⟨g, o + i * 6 + 2, none⟩ = some v2 ∧ w.cell? ⟨g, o + i * 6 + 3, none⟩ = some v3 ∧ w.cell? ⟨g, o + i * 6 + 4, none⟩ = some v4 ∧ w.cell? ⟨g, o + i * 6 + 5, none⟩ = some v5 ∧ NdV w P x (.agg #[v0, v1, v2, v3, v4, v5])) → NdsV w P g o l
  | [], _, _ => by unfold NdsV; trivial
  | y :: ys, o, h => by
    unfold NdsV
    refine ⟨by simpa using h 0 y rfl, nds_of ys (o + 6) fun i x hi => ?_⟩
    have := h (i + 1) x (by simpa using hi)
    rwa [show o + (i + 1) * 6 = o + 6 + i * 6 by omega] at this
/-- the row, as a formula's list -/
theorem BkRow.list {w0 w : World} {B : Nat} {c : Nat → Nat → Value} {v : Value} {ms : List Nd} {Q : Nat → Prop} (h : BkRow w0 w B c v ms) (h1 : ∀ b, Lr w0 B v b → Q b) (h2 : ∀ g, v.ownBlock = some g → Q g) : (ms = [] ∧ ∃ a c, v = .slice a 0 c) ∨ ∃ g o c, v = .slice (some ⟨g, o, none⟩) ms.length c ∧ (Q g ∧ IsC w g) ∧ NdsV w Q g o ms := by
  rcases h.row.2 with ⟨e, h0⟩ | ⟨g, cap, cur, e, _, hh, _, _, _, ht⟩
  · exact Or.inl ⟨List.eq_nil_of_length_eq_zero h0, none, 0, e⟩
  · refine Or.inr ⟨g, 0, cap, e, ⟨h2 g (by rw [e]; rfl), _, _, _, hh⟩, nds_of ms 0 fun i x hi => ?_⟩
    have hil : i < ms.length := (List.getElem?_eq_some_iff.1 hi).1
    have cl : ∀ j, j < 6 → w.cell? ⟨g, 0 + i * 6 + j, none⟩ = some (c i j) := fun j hj => by
      rw [cell_of hh]
      have := cellsN_at c hil hj
      rw [← ht, List.getElem?_take] at this
      split at this
      · simpa using this
      · cases this
    exact ⟨_, _, _, _, _, _, cl 0 (by omega), cl 1 (by omega), cl 2 (by omega), cl 3 (by omega), cl 4 (by omega), cl 5 (by omega), (h.nd i x hi).mono fun b hb _ => h1 b hb⟩
theorem info54 : (Tryd.prog.info? 54).map (fun i => (i.zero, i.size, i.bytes)) = some (some (.agg #[.int .i64 0, .slice none 0 0, .int .i64 0, .int .i64 0, .int .i64 0, .slice none 0 0]), 6, 80) := by kernel_rfl
theorem info54' : ∃ i, Tryd.prog.info? 54 = some i ∧ i.zero = some (.agg #[.int .i64 0, .slice none 0 0, .int .i64 0, .int .i64 0, .int .i64 0, .slice none 0 0]) ∧ i.size = 6 ∧ i.bytes = 80 := by
  have h := info54
  cases hi : Tryd.prog.info? 54 with
  | none => rw [hi] at h; cases h
  | some i =>
    rw [hi] at h
    simp only [Option.map_some, Option.some.injEq, Prod.mk.injEq] at h
    exact ⟨i, rfl, h.1, h.2.1, h.2.2⟩
/-- what stands between two rounds -/
structure BkI (w w9 : World) (bn : Nat) (op so nn mm : Int) (na : Option Addr) (nl nc : Nat) (ns : List Value) (l : List Nd) (j : Nat) (wr : World) : Prop where
  up : Upto [bn] w9 wr
  old : Upto [] w wr
  st : ∃ (va : Option Addr) (vn vc : Nat) (c : Nat → Nat → Value), wr.heap[bn]? = some (.cells #[.int .i64 op, .slice na nl nc, .int .i64 so, .int .i64 nn, .int .i64 mm, .slice va vn vc] 54 (0, 0)) ∧ BkRow w9 wr bn c (.slice va vn vc) (l.take j)
theorem back_step {w w9 wr w10 w5 W : World} {bn : Nat} {op so nn mm : Int} {na : Option Addr} {nl nc : Nat} {ns : List Value} {l : List Nd} {vn : Nat} {va : Option Addr} {vc : Nat} {c : Nat → Nat → Value} {x : Nd} {v0 v1 v2 v3 v4 v5 : Value} {b5 : Option Addr} {c5 : Nat}
    (HI : BkI w w9 bn op so nn mm na nl nc ns l vn wr) (HLT : W.heap.size ≤ bn ∧ bn < w9.heap.size) (HWL : w.heap.size < W.heap.size) (HUP : Upto [] W w9)
    (hbk : wr.heap[bn]? = some (.cells #[.int .i64 op, .slice na nl nc, .int .i64 so, .int .i64 nn, .int .i64 mm, .slice va vn vc] 54 (0, 0))) (hrow : BkRow w9 wr bn c (.slice va vn vc) (l.take vn))
    (hu : Upto [] wr w10) (hn : NdV w10 (New wr) x (.agg #[v0, v1, v2, v3, v4, v5])) (hjl : (l.take vn).length = vn) (htk : l.take (vn + 1) = l.take vn ++ [x])
    (ho5 : w5.ownsRow 0 54 6 (.slice b5 (vn + 1) c5) (vn + 1) (cellsN c vn ++ [v0, v1, v2, v3, v4, v5])) (hu5 : Upto (Value.slice va vn vc).ownBlock.toList w10 w5) (hw5 : ∀ g, (Value.slice b5 (vn + 1) c5).ownBlock = some g → (Value.slice va vn vc).ownBlock = some g ∨ w10.heap.size ≤ g) :
    w5.heap[bn]? = some (.cells #[.int .i64 op, .slice na nl nc, .int .i64 so, .int .i64 nn, .int .i64 mm, .slice va vn vc] 54 (0, 0)) ∧ BkI w w9 bn op so nn mm na nl nc ns l (vn + 1) (w5.setCell ⟨bn, 5, none⟩ (.slice b5 (vn + 1) c5)) := by
  have hown : ∀ g, g ∈ (Value.slice va vn vc).ownBlock.toList → w9.heap.size ≤ g ∧ g ≠ bn := fun g hg => hrow.own g (Option.mem_toList.1 hg)
  have hold : ∀ g, (Value.slice va vn vc).ownBlock = some g → g < wr.heap.size := fun g hg => by
    obtain ⟨cur, hh⟩ := ownsRow_block hrow.row hg
    exact lt_of_heap hh
  have hb5 := hu5.at (hu.at hbk (by simp)) (fun hm => (hown _ hm).2 rfl)
  have hst : Upto [bn] w5 (w5.setCell ⟨bn, 5, none⟩ (.slice b5 (vn + 1) c5)) := (Upto.refl [bn] w5).setCell (p := ⟨bn, 5, none⟩) (Or.inl (by simp)) _
  have hs9 := HI.up.size
  have hs10 := hu.size
  have hW := HUP.size
  have hbw := lt_of_heap hbk
  refine ⟨hb5, ⟨?_, ?_, b5, vn + 1, c5, addC c vn v0 v1 v2 v3 v4 v5, ?_, ?_⟩⟩
  · exact ((HI.up.trans_ext hu).trans hu5 (fun k hk => Or.inr (hown k hk).1)).setCell (p := ⟨bn, 5, none⟩) (Or.inl (by simp)) _
  · exact ((HI.old.trans_ext hu).trans hu5 (fun k hk => Or.inr (by have := (hown k hk).1; omega))).setCell (p := ⟨bn, 5, none⟩) (Or.inr (by simp; omega)) _
  · have := set_same hb5 5 (.slice b5 (vn + 1) c5)
    simpa using this
  · have happ := BkRow.app (m := x) (v0 := v0) (v1 := v1) (v2 := v2) (v3 := v3) (v4 := v4) (v5 := v5) (b' := b5) (c' := c5) (w5 := w5) (hrow.upto hu (by simp)) (by omega) (by omega)
      (hn.mono (fun b hb _ => ⟨by unfold New at hb ⊢; omega, by unfold New at hb; omega, fun e => by have := hold b e; unfold New at hb; omega⟩)) (by rw [hjl]; exact ho5) hu5 (by rw [hjl]; exact hw5)
    rw [hjl] at happ
    rw [htk]
    exact happ.upto hst (fun k hk => Or.inr (by simpa using hk))
/-- what was laid for the names is no node's block -/
theorem names_ne {w : World} {P : Nat → Prop} {v : Value} {n : Nat} {names : List (List UInt8)} (h : SlP w P v n (names.map sV)) (hn : n = names.length) {bn : Nat} {T : TypeId} {z : Nat × Nat} (hb : w.heap[bn]? = some (.cells #[.int .i64 0, .slice none 0 0, .int .i64 0, .int .i64 0, .int .i64 0, .slice none 0 0] T z)) : SlP w (fun b => P b ∧ b ≠ bn) v n (names.map sV) := by
  rcases h with h | ⟨g, o, c, rfl, ⟨hg, hi⟩, hc⟩
  · exact Or.inl h
  · cases names with
    | nil => subst hn; exact Or.inl ⟨rfl, rfl, _, c, rfl⟩
    | cons x r =>
      refine Or.inr ⟨g, o, c, rfl, ⟨⟨hg, fun e => ?_⟩, hi⟩, hc⟩
      subst e
      have h0 := hc 0 (sV x) rfl
      rw [cell_of hb] at h0
      have : o + 0 = 0 ∨ o + 0 = 1 ∨ o + 0 = 2 ∨ o + 0 = 3 ∨ o + 0 = 4 ∨ o + 0 = 5 ∨ 6 ≤ o + 0 := by omega
      rcases this with e | e | e | e | e | e | e
      · rw [e] at h0; simp [sV] at h0
      · rw [e] at h0; simp [sV] at h0
      · rw [e] at h0; simp [sV] at h0
      · rw [e] at h0; simp [sV] at h0
      · rw [e] at h0; simp [sV] at h0
      · rw [e] at h0; simp [sV] at h0
      · rw [Array.getElem?_eq_none (by simpa using e)] at h0; cases h0
theorem back_end {w w9 wr W : World} {bn : Nat} {op so nn mm : Int} {na : Option Addr} {nc : Nat} {ns : List Value} {names : List (List UInt8)} {l : List Nd} {vn : Nat} {va : Option Addr} {vc : Nat} {c : Nat → Nat → Value} {P : Nat → Prop}
    (HI : BkI w w9 bn op so nn mm na names.length nc ns l vn wr) (HLT : W.heap.size ≤ bn ∧ bn < w9.heap.size) (HWL : w.heap.size < W.heap.size) (HW2 : w.heap.size + 1 < W.heap.size) (HUP : Upto [] W w9)
    (hbn : w9.heap[bn]? = some (.cells #[.int .i64 0, .slice none 0 0, .int .i64 0, .int .i64 0, .int .i64 0, .slice none 0 0] 54 (0, 0)))
    (hsl : SlP w9 (New W) (.slice na names.length nc) names.length (names.map sV))
    (hz2 : wr.heap[w.heap.size + 1]? = some (.cells #[.int .i64 0, .slice none 0 0, .int .i64 0, .int .i64 0, .int .i64 0, .slice none 0 0] 54 (0, 0)))
    (hrow : BkRow w9 wr bn c (.slice va vn vc) (l.take vn)) (htk : l.take vn = l) (hll : l.length = vn) :
    BkPost w (.mk op names so nn mm l) (.returned (.agg #[.int .i64 op, .slice na names.length nc, .int .i64 so, .int .i64 nn, .int .i64 mm, .slice va vn vc])) ((((((wr.setCell ⟨w.heap.size + 1, 0, none⟩ (.int .i64 op)).setCell ⟨w.heap.size + 1, 1, none⟩ (.slice na names.length nc)).setCell ⟨w.heap.size + 1, 2, none⟩ (.int .i64 so)).setCell ⟨w.heap.size + 1, 3, none⟩ (.int .i64 nn)).setCell ⟨w.heap.size + 1, 4, none⟩ (.int .i64 mm)).setCell ⟨w.heap.size + 1, 5, none⟩ (.slice va vn vc)) := by
  have hst := nd_self wr (w.heap.size + 1) (.int .i64 op) (.slice na names.length nc) (.int .i64 so) (.int .i64 nn) (.int .i64 mm) (.slice va vn vc)
  have hW := HUP.size
  have hrow2 := hrow.upto hst (fun k hk => Or.inl (by simp at hk; omega))
  rw [htk] at hrow2
  have hs2 := ((names_ne hsl rfl hbn).upto HI.up (fun b hb _ => by simpa using hb.2)).upto hst (fun b hb _ => by have := hb.1; unfold New at this; simp; omega)
  refine ⟨_, rfl, ?_, nd_up HI.old (Or.inr (by omega)) ..⟩
  unfold NdV
  refine ⟨_, _, rfl, hs2.mono (fun b hb _ => by have := hb.1; unfold New at this ⊢; omega), ?_⟩
  have := hrow2.list (Q := New w) (fun b hb => by have := hb.1; unfold New at this ⊢; omega) (fun g hg => by have := (hrow.own g hg).1; unfold New; omega)
  exact this

set_option maxRecDepth 100000 in
set_option maxHeartbeats 6400000 in
theorem back_calls : ∀ (k : Nat) (nd : Nd), sizeF nd ≤ k → k ≤ 10000000 → bigN nd → ∀ (P : Nat → Prop) (v : Value) (w : World), NdV w P nd v → Calls Tryd.prog 29 #[v] w (BkPost w nd)
  | 0, nd, hk, _, _, _, _, _, _ => by have := sizeF_pos nd; omega
  | k + 1, .mk op names so nn mm l, hk, hk7, hbg, P, v, w, h => by
    obtain ⟨a1, c1, a2, c2, rfl, hs, hls⟩ := h.open
    unfold bigN at hbg
    have hsz : sizesF l ≤ k := by simp only [sizeF] at hk; omega
    have hln := sizes_len l
    have hu2 : Upto [] w ((w.alloc (.cells #[.int .i64 op, .slice a1 names.length c1, .int .i64 so, .int .i64 nn, .int .i64 mm, .slice a2 l.length c2] 59)).alloc (.cells #[.int .i64 0, .slice none 0 0, .int .i64 0, .int .i64 0, .int .i64 0, .slice none 0 0] 54)) := ((Upto.refl [] w).alloc _).alloc _
    have hb1 := alloc_old (new_at w (.cells #[.int .i64 op, .slice a1 names.length c1, .int .i64 so, .int .i64 nn, .int .i64 mm, .slice a2 l.length c2] 59)) (.cells #[.int .i64 0, .slice none 0 0, .int .i64 0, .int .i64 0, .int .i64 0, .slice none 0 0] 54)
    have hb2 := new_at1 w (.cells #[.int .i64 op, .slice a1 names.length c1, .int .i64 so, .int .i64 nn, .int .i64 mm, .slice a2 l.length c2] 59) (.cells #[.int .i64 0, .slice none 0 0, .int .i64 0, .int .i64 0, .int .i64 0, .slice none 0 0] 54)
    obtain ⟨W, hW⟩ : ∃ W, W = ((w.alloc (.cells #[.int .i64 op, .slice a1 names.length c1, .int .i64 so, .int .i64 nn, .int .i64 mm, .slice a2 l.length c2] 59)).alloc (.cells #[.int .i64 0, .slice none 0 0, .int .i64 0, .int .i64 0, .int .i64 0, .slice none 0 0] 54)) := ⟨_, rfl⟩
    rw [← hW] at hu2 hb1 hb2
    have HU2 := Lib.hid hu2
    have HB1 := Lib.hid hb1
    have HB2 := Lib.hid hb2
    have hns : SlP W P (.slice a1 names.length c1) (names.map sV).length (names.map sV) := by rw [List.length_map]; exact hs.ext hu2
    have HNS := Lib.hid hns.slc
    have HNL := Lib.hid hbg.1
    obtain ⟨i0, hi0, hz0, hz1, hz2⟩ := info9'
    have x0 := cell_of hb1 0
    have x1 := cell_of hb1 1
    have x2 := cell_of hb1 2
    have x3 := cell_of hb1 3
    have x4 := cell_of hb1 4
    have x5 := cell_of hb1 5
    simp only [List.getElem?_toArray, List.getElem?_cons_zero, List.getElem?_cons_succ] at x0 x1 x2 x3 x4 x5
    have hwl : w.heap.size < W.heap.size := lt_of_heap hb1
    have hwr := Upto.refl [] W
    clear hs h hu2 hb1 hb2 hns
    go_enter Tryd.func29, Tryd.ntmps29
    go_wp2_with fail
    simp only [← hW]
    clear hW
    have e0 : ∀ u : Ext W, u.w.cell? ⟨w.heap.size, 0, none⟩ = some _ := fun u => u.cell x0
    have e1 : ∀ u : Ext W, u.w.cell? ⟨w.heap.size, 1, none⟩ = some _ := fun u => u.cell x1
    have e2 : ∀ u : Ext W, u.w.cell? ⟨w.heap.size, 2, none⟩ = some _ := fun u => u.cell x2
    have e3 : ∀ u : Ext W, u.w.cell? ⟨w.heap.size, 3, none⟩ = some _ := fun u => u.cell x3
    have e4 : ∀ u : Ext W, u.w.cell? ⟨w.heap.size, 4, none⟩ = some _ := fun u => u.cell x4
    refine wp_region_seg_at [2, 5] [13] [0, 1, 2, 3, 4, 5, 6, 7, 8, 9, 10, 11, 12, 13] [14] 14 (by kernel_rfl) (by kernel_rfl) (by kernel_rfl) ?_
    refine seg_plain rfl rfl rfl rfl rfl ?_
    intro K' hK'
    go_big_quiet_op
    go_big_quiet_on
    refine seg_plain rfl rfl rfl rfl rfl ?_
    intro K' hK'
    go_big_quiet_op
    go_big_quiet_on
    refine seg_opq (Y := Nat) (fun b => .slice (some ⟨b, 0, none⟩) 0 0) (fun _ _ => True) (fun _ => []) rfl rfl rfl rfl (fun _ _ _ h _ => h) (fun _ => List.nodup_nil) (fun w' post hu hd hp => (congrArg (opqUpon Tryd.prog post) (show _ = Result.ok (Next.value (.slice (some ⟨w'.heap.size, 0, none⟩) 0 0)) (w'.alloc (.cells #[] 9)) from by go_simp)).mpr (hp w'.heap.size _ ((Upto.refl [] w').alloc _) trivial (fun b hb => by cases hb))) ?_
    intro be
    simp only [Act.put, List.setIfInBounds_toArray, List.set_cons_zero, List.set_cons_succ]
    refine seg_plain rfl rfl rfl rfl rfl ?_
    intro K' hK'
    go_big_quiet_op
    go_big_quiet_on
    refine seg_plain rfl rfl rfl rfl rfl ?_
    intro K' hK'
    go_big_quiet_op
    go_big_quiet_on
    refine seg_opq (Y := Option Addr × Nat) (fun y => .slice y.1 names.length y.2) (fun y u => SlP u (New W) (.slice y.1 names.length y.2) names.length (names.map sV)) (fun _ => []) rfl rfl rfl rfl (fun _ _ _ h hu => h.ext hu) (fun _ => List.nodup_nil) (fun w' post hu hd hp => opq_apps w' (.tmp 7) (.tmp 9) 40 rfl 9 i0 (.string ⟨#[]⟩) 16 Tryd.underlying40 hi0 hz0 hz1 hz2 rfl be rfl (.slice a1 names.length c1) (names.map sV) names.length (by simp) rfl (HNS.out.ext hu) (by have := HNL.out; unfold maxLen; omega) (by have := HNL.out; omega) (fun b' c' w2 hu2 hsl => hp (b', c') w2 hu2 (hsl.mono (fun b hb _ => New.mono hu b hb)) (fun b hb => by cases hb))) ?_
    rintro ⟨na, nc⟩
    simp only [Act.put, List.setIfInBounds_toArray, List.set_cons_zero, List.set_cons_succ]
    refine seg_plain rfl rfl rfl rfl rfl ?_
    intro K' hK'
    go_big_quiet_op
    go_big_quiet_on
    refine seg_plain rfl rfl rfl rfl rfl ?_
    intro K' hK'
    go_big_quiet_op
    go_big_quiet_on
    refine seg_plain rfl rfl rfl rfl rfl ?_
    intro K' hK'
    go_big_quiet_op
    go_big_quiet_on
    refine seg_plain rfl rfl rfl rfl rfl ?_
    intro K' hK'
    go_big_quiet_op
    go_big_quiet_on
    refine seg_plain rfl rfl rfl rfl rfl ?_
    intro K' hK'
    go_big_quiet_op
    go_big_quiet_on
    refine seg_plain rfl rfl rfl rfl rfl ?_
    intro K' hK'
    go_big_quiet_op
    go_big_quiet_on
    refine seg_plain rfl rfl rfl rfl rfl ?_
    intro K' hK'
    go_big_quiet_op
    go_big_quiet_on
    refine seg_alloc (.cells #[.int .i64 0, .slice none 0 0, .int .i64 0, .int .i64 0, .int .i64 0, .slice none 0 0] 54) rfl rfl rfl (fun w => by go_simp) ?_
    intro bn
    simp only [Act.put, List.setIfInBounds_toArray, List.set_cons_zero, List.set_cons_succ]
    intro w9 hg
    have hup := hg.up
    have hnb := hg.hold.1
    have hsl := hg.hold.2.1
    have hin := hg.inb
    simp only [List.drop_succ_cons, List.drop_zero]
    have hbn : W.heap.size ≤ bn ∧ bn < w9.heap.size := hin _ (List.Mem.head _) bn (List.Mem.head _)
    have HSL := Lib.hid hsl
    have HUP := Lib.hid hup
    have HBN := Lib.hid hnb
    have HLT := Lib.hid hbn
    have HWL := Lib.hid hwl
    have hw2 : w.heap.size + 1 < W.heap.size := lt_of_heap HB2.out
    have HW2 := Lib.hid hw2
    have n0 := cell_of hnb 0
    have n1 := cell_of hnb 1
    have n2 := cell_of hnb 2
    have n3 := cell_of hnb 3
    have n4 := cell_of hnb 4
    have n5 := cell_of hnb 5
    have f0 := free_of hnb 0
    have f1 := free_of hnb 1
    have f2 := free_of hnb 2
    have f3 := free_of hnb 3
    have f4 := free_of hnb 4
    have f5 := free_of hnb 5
    simp only [List.getElem?_toArray, List.getElem?_cons_zero, List.getElem?_cons_succ] at n0 n1 n2 n3 n4 n5
    have hset := set_same (set_same (set_same (set_same (set_same (set_same hnb 0 (.int .i64 op)) 1 (.slice na names.length nc)) 2 (.int .i64 so)) 3 (.int .i64 nn)) 4 (.int .i64 mm)) 5 (.slice none 0 0)
    simp only [List.setIfInBounds_toArray, List.set_cons_zero, List.set_cons_succ] at hset
    have hsu : Upto [bn] w9 ((((((w9.setCell ⟨bn, 0, none⟩ (.int .i64 op)).setCell ⟨bn, 1, none⟩ (.slice na names.length nc)).setCell ⟨bn, 2, none⟩ (.int .i64 so)).setCell ⟨bn, 3, none⟩ (.int .i64 nn)).setCell ⟨bn, 4, none⟩ (.int .i64 mm)).setCell ⟨bn, 5, none⟩ (.slice none 0 0)) := nd_self ..
    have HI0 : Hid (BkI w w9 bn op so nn mm na names.length nc (names.map sV) l 0 ((((((w9.setCell ⟨bn, 0, none⟩ (.int .i64 op)).setCell ⟨bn, 1, none⟩ (.slice na names.length nc)).setCell ⟨bn, 2, none⟩ (.int .i64 so)).setCell ⟨bn, 3, none⟩ (.int .i64 nn)).setCell ⟨bn, 4, none⟩ (.int .i64 mm)).setCell ⟨bn, 5, none⟩ (.slice none 0 0))) := Lib.hid
      ⟨hsu, (HU2.out.trans_ext hup).trans hsu (fun k hk => Or.inr (by simp at hk; omega)), none, 0, 0, fun _ _ => undef, hset, ⟨by simpa [cellsN] using World.ownsRow_nil _ 0 54 6, by simp, by intro g hg; cases hg⟩⟩
    clear hg hup hnb hsl hin hset hsu e0 e1 e2 e3 e4
    go_wp2_with fail
    have HLS := Lib.hid hls
    have HLN : Hid (l.length ≤ 10000000) := Lib.hid (by omega)
    generalize hll : l.length = ll at *
    have HLL := Lib.hid hll
    have hL0 : (0 : Int) ≤ ll := by omega
    have hL1 : (ll : Int) ≤ 10000000 := by have := HLN.out; omega
    clear hls hll
    go_loopw [4] (fun v wr => ∃ j : Nat, j ≤ ll ∧ v = .int .i64 j ∧ Hid (BkI w w9 bn op so nn mm na names.length nc (names.map sV) l j wr)) (fun v _ => ll - (intOf v).toNat)
    case atStart => exact ⟨0, by omega, rfl, HI0⟩
    case round =>
      obtain ⟨j, hj, rfl, HI⟩ := hrel
      obtain ⟨va, vn, vc, c, hbk, hrow⟩ := HI.out.st
      have hbox := HI.out.up.at (HUP.out.at HB1.out (by simp)) (by have := HLT.out; have := HWL.out; simp; omega)
      have z5 := cell_of hbox 5
      have y5 := cell_of hbk 5
      have g5 := free_of hbk 5
      simp only [List.getElem?_toArray, List.getElem?_cons_zero, List.getElem?_cons_succ] at z5 y5
      obtain ⟨va', vc', hve, -⟩ := ownsRow_len hrow.row
      simp only [Value.slice.injEq] at hve
      have hvn : vn = j := by have := HLL.out; rw [hve.2.1, List.length_take]; omega
      clear hve
      subst hvn
      rcases Nat.lt_or_ge vn ll with hlt | hge
      · obtain ⟨x, hx⟩ : ∃ x, l[vn]? = some x := ⟨_, List.getElem?_eq_getElem (by have := HLL.out; omega)⟩
        obtain ⟨g, o, xo, xn1, xn2, xn3, xs, xm, xq, xl1, xl2, xl3, rfl, c0, c1', c2', c3, c4, c5, hn⟩ := (HLS.out.ext HI.out.old) vn x hx
        have hjl : (l.take vn).length = vn := by have := HLL.out; rw [List.length_take]; omega
        have HJL := Lib.hid hjl
        have HTK : Hid (l.take (vn + 1) = l.take vn ++ [x]) := Lib.hid (by
          obtain ⟨hi, rfl⟩ := List.getElem?_eq_some_iff.1 hx
          exact List.take_succ_eq_append_getElem hi)
        have HROW := Lib.hid hrow
        have HBK := Lib.hid hbk
        have hxs := sizesF_mem (List.mem_of_getElem? hx)
        have HC := Lib.hid (fun w1 (hu : Upto [] wr w1) => back_calls k x (by omega) (by omega) (bigs_mem hbg.2 (List.mem_of_getElem? hx)) P _ w1 (hn.ext hu))
        have hltI : (vn : Int) < ll := by omega
        have hj0 : (0 : Int) ≤ vn := by omega
        clear hrow hbk hbox hn hx
        go_wp2_with fail
        have e0 : ∀ u : Ext wr, u.w.cell? ⟨bn, 5, none⟩ = some (.slice va vn vc) := fun u => u.cell y5
        have e1 : ∀ u : Ext wr, u.w.cell? ⟨w.heap.size, 5, none⟩ = some _ := fun u => u.cell z5
        have k0 : ∀ u : Ext wr, u.w.cell? ⟨g, o + vn * 6, none⟩ = some _ := fun u => u.cell c0
        have k1 : ∀ u : Ext wr, u.w.cell? ⟨g, o + vn * 6 + 1, none⟩ = some _ := fun u => u.cell c1'
        have k2 : ∀ u : Ext wr, u.w.cell? ⟨g, o + vn * 6 + 2, none⟩ = some _ := fun u => u.cell c2'
        have k3 : ∀ u : Ext wr, u.w.cell? ⟨g, o + vn * 6 + 3, none⟩ = some _ := fun u => u.cell c3
        have k4 : ∀ u : Ext wr, u.w.cell? ⟨g, o + vn * 6 + 4, none⟩ = some _ := fun u => u.cell c4
        have k5 : ∀ u : Ext wr, u.w.cell? ⟨g, o + vn * 6 + 5, none⟩ = some _ := fun u => u.cell c5
        clear y5 z5 g5 c0 c1' c2' c3 c4 c5
        refine wp_region_seg_at [7, 8] [] [0, 1, 2, 3, 4, 5, 6, 7, 8] [9, 10, 11] 9 (by kernel_rfl) (by kernel_rfl) (by kernel_rfl) ?_
        refine seg_plain rfl rfl rfl rfl rfl ?_
        intro K' hK'
        go_big_quiet_op
        go_big_quiet_on
        refine seg_plain rfl rfl rfl rfl rfl ?_
        intro K' hK'
        go_big_quiet_op
        go_big_quiet_on
        refine seg_plain rfl rfl rfl rfl rfl ?_
        intro K' hK'
        go_big_quiet_op
        go_big_quiet_on
        refine seg_plain rfl rfl rfl rfl rfl ?_
        intro K' hK'
        go_big_quiet_op
        go_big_quiet_on
        refine seg_plain rfl rfl rfl rfl rfl ?_
        intro K' hK'
        go_big_quiet_op
        go_big_quiet_on
        refine seg_plain rfl rfl rfl rfl rfl ?_
        intro K' hK'
        go_big_quiet_op
        go_big_quiet_on
        refine seg_plain rfl rfl rfl rfl rfl ?_
        intro K' hK'
        go_big_quiet_op
        go_big_quiet_on
        refine seg_callO (Y := (Int × Option Addr × Nat × Nat) × Int × Int × Int × Option Addr × Nat × Nat) (fun y => .agg #[.int .i64 y.1.1, .slice y.1.2.1 y.1.2.2.1 y.1.2.2.2, .int .i64 y.2.1, .int .i64 y.2.2.1, .int .i64 y.2.2.2.1, .slice y.2.2.2.2.1 y.2.2.2.2.2.1 y.2.2.2.2.2.2]) (fun y u => NdV u (New wr) x (.agg #[.int .i64 y.1.1, .slice y.1.2.1 y.1.2.2.1 y.1.2.2.2, .int .i64 y.2.1, .int .i64 y.2.2.1, .int .i64 y.2.2.2.1, .slice y.2.2.2.2.1 y.2.2.2.2.2.1 y.2.2.2.2.2.2])) (fun _ => []) rfl rfl rfl rfl (fun _ _ _ h hu => h.ext hu) (fun _ => List.nodup_nil) (fun w => by go_simp) (fun w' hu hd => (HC.out w' hu).mono fun e w2 ⟨v, h1, h2, h3⟩ => by
          obtain ⟨ro, rn1, rn2, rn3, rs, rm, rq, rl1, rl2, rl3, rfl⟩ := h2.six
          exact ⟨((ro, rn1, rn2, rn3), rs, rm, rq, rl1, rl2, rl3), h1, h3, h2.mono (fun b hb _ => New.mono hu b hb), fun b hb => by cases hb⟩) ?_
        rintro ⟨⟨ro, rn1, rn2, rn3⟩, rs, rm, rq, rl1, rl2, rl3⟩
        simp only [Act.put, List.setIfInBounds_toArray, List.set_cons_zero, List.set_cons_succ]
        refine seg_opq (Y := Nat) (fun b => .slice (some ⟨b, 0, none⟩) 1 1) (fun b u => u.heap[b]? = some (.cells #[.int .i64 ro, .slice rn1 rn2 rn3, .int .i64 rs, .int .i64 rm, .int .i64 rq, .slice rl1 rl2 rl3] 54 (0, 0))) (fun _ => []) rfl rfl rfl rfl (fun _ _ _ h hu => hu.at h (by simp)) (fun _ => List.nodup_nil) (fun w' post hu hd hp => (congrArg (opqUpon Tryd.prog post) (show _ = Result.ok (Next.value (.slice (some ⟨w'.heap.size, 0, none⟩) 1 1)) (w'.alloc (.cells #[.int .i64 ro, .slice rn1 rn2 rn3, .int .i64 rs, .int .i64 rm, .int .i64 rq, .slice rl1 rl2 rl3] 54)) from by go_simp)).mpr (hp w'.heap.size _ ((Upto.refl [] w').alloc _) (new_at _ _) (fun b hb => by cases hb))) ?_
        intro b8
        simp only [Act.put, List.setIfInBounds_toArray, List.set_cons_zero, List.set_cons_succ]
        intro w10 hg
        have HU10 := Lib.hid hg.up
        have HB8 : Hid (w10.heap[b8]? = some (.cells #[.int .i64 ro, .slice rn1 rn2 rn3, .int .i64 rs, .int .i64 rm, .int .i64 rq, .slice rl1 rl2 rl3] 54 (0, 0))) := Lib.hid hg.hold.1
        have HND : Hid (NdV w10 (New wr) x (.agg #[.int .i64 ro, .slice rn1 rn2 rn3, .int .i64 rs, .int .i64 rm, .int .i64 rq, .slice rl1 rl2 rl3])) := Lib.hid hg.hold.2.1
        simp only [List.drop_succ_cons, List.drop_zero]
        clear hg e0 e1 k0 k1 k2 k3 k4 k5
        have HR10 := Lib.hid (HROW.out.upto HU10.out (by simp))
        have hr10 := HR10.out.row
        rw [hjl] at hr10
        have HRR := Lib.hid hr10
        obtain ⟨i1, hi1, hy0, hy1, hy2⟩ := info54'
        have hL7 := HLN.out
        have HA := Lib.hid (fun b5 c5 w5 (ho5 : w5.ownsRow 0 54 6 (.slice b5 (vn + 1) c5) (vn + 1) (cellsN c vn ++ [.int .i64 ro, .slice rn1 rn2 rn3, .int .i64 rs, .int .i64 rm, .int .i64 rq, .slice rl1 rl2 rl3])) (hu5 : Upto (Value.slice va vn vc).ownBlock.toList w10 w5) (hw5 : ∀ g, (Value.slice b5 (vn + 1) c5).ownBlock = some g → (Value.slice va vn vc).ownBlock = some g ∨ w10.heap.size ≤ g) => back_step HI.out HLT.out HWL.out HUP.out HBK.out HROW.out HU10.out HND.out HJL.out HTK.out ho5 hu5 hw5)
        clear hr10 hjl
        go_wp2_with (at_builtin
                     refine wpList_app _ rfl (.tmp 26) (.tmp 33) 52 rfl 54 i1 (.agg #[.int .i64 0, .slice none 0 0, .int .i64 0, .int .i64 0, .int .i64 0, .slice none 0 0]) 6 80 Tryd.underlying52 hi1 hy0 hy1 hy2 rfl (by decide) (.slice va vn vc) vn (cellsN c vn) rfl HRR.out ⟨b8, 0, none⟩ 1 1 [.int .i64 ro, .slice rn1 rn2 rn3, .int .i64 rs, .int .i64 rm, .int .i64 rq, .slice rl1 rl2 rl3] rfl rfl (six_at HB8.out) (by simp [Value.oneCell']) (by unfold maxLen; omega) (by omega) ?_
                     intro b5 c5 w5 ho5 hu5 hw5
                     obtain ⟨hbk5, hI5⟩ := HA.out b5 c5 w5 ho5 hu5 hw5
                     have y5 := cell_of hbk5 5
                     have g5 := free_of hbk5 5
                     simp only [List.getElem?_toArray, List.getElem?_cons_zero, List.getElem?_cons_succ] at y5
                     have HI5 := Lib.hid hI5
                     clear ho5 hu5 hw5 hbk5 hI5)
        go_roundw
        case rel => exact ⟨vn + 1, by omega, by go_num, HI5⟩
        case measure => simp [intOf]; omega
      · obtain rfl : vn = ll := by omega
        have hgeI : ¬ ((vn : Int) < vn) := by omega
        have HROW := Lib.hid hrow
        have HBK := Lib.hid hbk
        have hz2 := HI.out.up.at (HUP.out.at HB2.out (by simp)) (by have h1 := HLT.out; have h2 := HW2.out; simp; omega)
        have HZ2 := Lib.hid hz2
        have p0 := cell_of hbk 0
        have p1 := cell_of hbk 1
        have p2 := cell_of hbk 2
        have p3 := cell_of hbk 3
        have p4 := cell_of hbk 4
        have p5 := cell_of hbk 5
        simp only [List.getElem?_toArray, List.getElem?_cons_zero, List.getElem?_cons_succ] at p0 p1 p2 p3 p4 p5
        have r0 := cell_of hz2 0
        have r1 := cell_of hz2 1
        have r2 := cell_of hz2 2
        have r3 := cell_of hz2 3
        have r4 := cell_of hz2 4
        have r5 := cell_of hz2 5
        simp only [List.getElem?_toArray, List.getElem?_cons_zero, List.getElem?_cons_succ] at r0 r1 r2 r3 r4 r5
        have t0 := free_of hz2 0
        have t1 := free_of hz2 1
        have t2 := free_of hz2 2
        have t3 := free_of hz2 3
        have t4 := free_of hz2 4
        have t5 := free_of hz2 5
        have hF := back_end (names := names) (P := P) HI.out HLT.out HWL.out HW2.out HUP.out HBN.out HSL.out HZ2.out HROW.out (List.take_of_length_le (by have := HLL.out; omega)) HLL.out
        have HF := Lib.hid hF
        clear hrow hbk hz2 hbox hF
        go_wp2_with fail
        have hst := nd_store HZ2.out (.int .i64 op) (.slice na names.length nc) (.int .i64 so) (.int .i64 nn) (.int .i64 mm) (.slice va vn vc)
        have q0 := cell_of hst 0
        have q1 := cell_of hst 1
        have q2 := cell_of hst 2
        have q3 := cell_of hst 3
        have q4 := cell_of hst 4
        have q5 := cell_of hst 5
        simp only [List.getElem?_toArray, List.getElem?_cons_zero, List.getElem?_cons_succ] at q0 q1 q2 q3 q4 q5
        exact bodyPost_ret (v := .agg #[.int .i64 op, .slice na names.length nc, .int .i64 so, .int .i64 nn, .int .i64 mm, .slice va vn vc]) (by simp [results, Tryd.results29, go_sem, q0, q1, q2, q3, q4, q5]) rfl HF.out

end Go.Proofs.YtkhbpebpljdifaaDoor

/- EqualQueries, at equal questions. -/
namespace Go.Proofs.YtkhbpebpljdifaaDoor
open Go.RowKit Go.PL Go.Maps

theorem QnV.open {w : World} {P : Nat → Prop} {q : Qn} {v : Value} (h : QnV w P q v) : ∃ (f1 : Option Addr) (f3 : Nat) (op : Int) (a1 : Option Addr) (n1 c1 : Nat) (so n m : Int) (a2 : Option Addr) (n2 c2 : Nat), v = .agg #[.slice f1 q.free.length f3, .int .i64 op, .slice a1 n1 c1, .int .i64 so, .int .i64 n, .int .i64 m, .slice a2 n2 c2] ∧ VarsV w P (.slice f1 q.free.length f3) q.free ∧ NdV w P q.body (.agg #[.int .i64 op, .slice a1 n1 c1, .int .i64 so, .int .i64 n, .int .i64 m, .slice a2 n2 c2]) := by
  obtain ⟨vf, a0, a1, a2, a3, a4, a5, rfl, h1, h2⟩ := h
  obtain ⟨fa, fc, rfl⟩ := h1.len
  obtain ⟨op, x1, x2, x3, so, n, m, y1, y2, y3, hs⟩ := h2.six
  simp only [Value.agg.injEq, Array.mk.injEq, List.cons.injEq, and_true] at hs
  obtain ⟨rfl, rfl, rfl, rfl, rfl, rfl⟩ := hs
  exact ⟨fa, fc, op, x1, x2, x3, so, n, m, y1, y2, y3, rfl, h1, h2⟩

set_option maxRecDepth 100000 in
set_option maxHeartbeats 6400000 in
theorem equalq_same (q : Qn) (P P' : Nat → Prop) (v v' : Value) (w : World) (hf : q.free.length ≤ 10000000) (hs : sizeF q.body ≤ 10000000) (hb : bigN q.body) (h : QnV w P q v) (h' : QnV w P' q v') :
    Calls Tryd.prog 31 #[v, v'] w fun e w' => e = .returned (.bool true) ∧ Upto [] w w' := by
  obtain ⟨f1, f3, o1, a1, a2, a3, s1, n1, m1, l1, l2, l3, rfl, hv, hn⟩ := h.open
  obtain ⟨g1, g3, o2, b1, b2, b3, s2, n2, m2, k1, k2, k3, rfl, hv', hn'⟩ := h'.open
  have hu2 : Upto [] w ((w.alloc (.cells #[.slice f1 q.free.length f3, .int .i64 o1, .slice a1 a2 a3, .int .i64 s1, .int .i64 n1, .int .i64 m1, .slice l1 l2 l3] 67)).alloc (.cells #[.slice g1 q.free.length g3, .int .i64 o2, .slice b1 b2 b3, .int .i64 s2, .int .i64 n2, .int .i64 m2, .slice k1 k2 k3] 67)) := ((Upto.refl [] w).alloc _).alloc _
  have HN := Lib.hid (vars_same q.free _ _ P P' _ hf (SlP.ext hv hu2) (SlP.ext hv' hu2))
  have HF := Lib.hid (fun w1 (hu : Upto [] w w1) => equal_same _ q.body (Nat.le_refl _) hs P P' _ _ w1 hb (hn.ext hu) (hn'.ext hu))
  have HU2 := Lib.hid hu2
  have hb1 := alloc_old (new_at w (.cells #[.slice f1 q.free.length f3, .int .i64 o1, .slice a1 a2 a3, .int .i64 s1, .int .i64 n1, .int .i64 m1, .slice l1 l2 l3] 67)) (.cells #[.slice g1 q.free.length g3, .int .i64 o2, .slice b1 b2 b3, .int .i64 s2, .int .i64 n2, .int .i64 m2, .slice k1 k2 k3] 67)
  have hb2 := new_at1 w (.cells #[.slice f1 q.free.length f3, .int .i64 o1, .slice a1 a2 a3, .int .i64 s1, .int .i64 n1, .int .i64 m1, .slice l1 l2 l3] 67) (.cells #[.slice g1 q.free.length g3, .int .i64 o2, .slice b1 b2 b3, .int .i64 s2, .int .i64 n2, .int .i64 m2, .slice k1 k2 k3] 67)
  have HB1 := Lib.hid hb1
  have HB2 := Lib.hid hb2
  have xa0 := cell_of hb1 0
  have xa1 := cell_of hb1 1
  have xa2 := cell_of hb1 2
  have xa3 := cell_of hb1 3
  have xa4 := cell_of hb1 4
  have xa5 := cell_of hb1 5
  have xa6 := cell_of hb1 6
  have ya0 := free_of hb1 0
  have ya1 := free_of hb1 1
  have ya2 := free_of hb1 2
  have ya3 := free_of hb1 3
  have ya4 := free_of hb1 4
  have ya5 := free_of hb1 5
  have ya6 := free_of hb1 6
  simp only [List.getElem?_toArray, List.getElem?_cons_zero, List.getElem?_cons_succ] at xa0 xa1 xa2 xa3 xa4 xa5 xa6
  have xb0 := cell_of hb2 0
  have xb1 := cell_of hb2 1
  have xb2 := cell_of hb2 2
  have xb3 := cell_of hb2 3
  have xb4 := cell_of hb2 4
  have xb5 := cell_of hb2 5
  have xb6 := cell_of hb2 6
  have yb0 := free_of hb2 0
  have yb1 := free_of hb2 1
  have yb2 := free_of hb2 2
  have yb3 := free_of hb2 3
  have yb4 := free_of hb2 4
  have yb5 := free_of hb2 5
  have yb6 := free_of hb2 6
  simp only [List.getElem?_toArray, List.getElem?_cons_zero, List.getElem?_cons_succ] at xb0 xb1 xb2 xb3 xb4 xb5 xb6
  clear hv hn hv' hn' hu2 h h' hb1 hb2 hb hf hs
  go_enter Tryd.func31, Tryd.ntmps31
  go_wp2_with fail
  refine HN.out.mono ?_
  rintro e w2 ⟨rfl, hu2⟩
  have hb1 := hu2.at HB1.out (by simp)
  have hb2 := hu2.at HB2.out (by simp)
  have pa0 := cell_of hb1 0
  have pa1 := cell_of hb1 1
  have pa2 := cell_of hb1 2
  have pa3 := cell_of hb1 3
  have pa4 := cell_of hb1 4
  have pa5 := cell_of hb1 5
  have pa6 := cell_of hb1 6
  have qa0 := free_of hb1 0
  have qa1 := free_of hb1 1
  have qa2 := free_of hb1 2
  have qa3 := free_of hb1 3
  have qa4 := free_of hb1 4
  have qa5 := free_of hb1 5
  have qa6 := free_of hb1 6
  simp only [List.getElem?_toArray, List.getElem?_cons_zero, List.getElem?_cons_succ] at pa0 pa1 pa2 pa3 pa4 pa5 pa6
  have pb0 := cell_of hb2 0
  have pb1 := cell_of hb2 1
  have pb2 := cell_of hb2 2
  have pb3 := cell_of hb2 3
  have pb4 := cell_of hb2 4
  have pb5 := cell_of hb2 5
  have pb6 := cell_of hb2 6
  have qb0 := free_of hb2 0
  have qb1 := free_of hb2 1
  have qb2 := free_of hb2 2
  have qb3 := free_of hb2 3
  have qb4 := free_of hb2 4
  have qb5 := free_of hb2 5
  have qb6 := free_of hb2 6
  simp only [List.getElem?_toArray, List.getElem?_cons_zero, List.getElem?_cons_succ] at pb0 pb1 pb2 pb3 pb4 pb5 pb6
  have HC := Lib.hid (HF.out w2 (HU2.out.trans_ext hu2))
  have HU3 := Lib.hid (HU2.out.trans_ext hu2)
  clear hu2 hb1 hb2
  go_wp2_with fail
  refine HC.out.mono ?_
  rintro e w3 ⟨rfl, hu3⟩
  have HU4 := Lib.hid (HU3.out.trans_ext hu3)
  clear hu3
  go_wp2_with fail
  go_ret
  exact ⟨rfl, HU4.out⟩
end Go.Proofs.YtkhbpebpljdifaaDoor

/- The reader of formulas: Parse, ParseFormula. -/
namespace Go.Proofs.YtkhbpebpljdifaaDoor
open Go.RowKit Go.PL Go.Maps

set_option maxRecDepth 100000 in
set_option maxHeartbeats 6400000 in
/-- Parse -/
theorem parse_calls (x : List UInt8) (hl : x.length ≤ 281474976710656) (w : World) (he : Env w) (hs : SEnv w) : Calls Tryd.prog 30 #[.string ⟨x.toArray⟩] w (PRPost w (readF queryP x)) := by
  have hu0 : Upto [] w ((w.alloc (.cells #[.slice none 0 0, .int .i64 0, .slice none 0 0, .int .i64 0, .int .i64 0, .int .i64 0, .slice none 0 0] 67)).alloc (.cells #[.int .i64 0, .int .i64 0] 24)) := ((Upto.refl [] w).alloc _).alloc _
  have HU0 := Lib.hid hu0
  have HBQ : Hid (((w.alloc (.cells #[.slice none 0 0, .int .i64 0, .slice none 0 0, .int .i64 0, .int .i64 0, .int .i64 0, .slice none 0 0] 67)).alloc (.cells #[.int .i64 0, .int .i64 0] 24)).heap[w.heap.size]? = some (.cells #[.slice none 0 0, .int .i64 0, .slice none 0 0, .int .i64 0, .int .i64 0, .int .i64 0, .slice none 0 0] 67 (0, 0))) := Lib.hid (alloc_old (new_at _ _) _)
  have HBP : Hid (((w.alloc (.cells #[.slice none 0 0, .int .i64 0, .slice none 0 0, .int .i64 0, .int .i64 0, .int .i64 0, .slice none 0 0] 67)).alloc (.cells #[.int .i64 0, .int .i64 0] 24)).heap[w.heap.size + 1]? = some (.cells #[.int .i64 0, .int .i64 0] 24 (0, 0))) := Lib.hid (new_at1 _ _ _)
  have HC := Lib.hid (read_calls x hl 53 queryP ((w.alloc (.cells #[.slice none 0 0, .int .i64 0, .slice none 0 0, .int .i64 0, .int .i64 0, .int .i64 0, .slice none 0 0] 67)).alloc (.cells #[.int .i64 0, .int .i64 0] 24)) (he.ext hu0) (hs.upto hu0 (by simp)) (run_enter Tryd.func53 (by kernel_rfl) rfl)
    (fun l hf h0 => by obtain ⟨q, s', e, a, z, -⟩ := queryP_ok hf h0; exact ⟨q, s', e, a, z⟩)
    (fun w p l q s' htx hX hR hqp => query1_calls w p l htx ⟨0, 0, 0⟩ s' q hX hR (by decide) hqp))
  clear hu0 he hs
  go_enter Tryd.func30, Tryd.ntmps30
  go_wp2_with fail
  refine HC.out.mono ?_
  rintro e w2 ⟨vv, rfl, hqv, hu2⟩
  obtain ⟨g1, g2, g3, oa, na1, na2, na3, sa, ma, qa, la1, la2, la3, rfl⟩ := hqv.seven
  have hbq := hu2.at HBQ.out (by simp)
  have hbp := hu2.at HBP.out (by simp)
  have z0 := cell_of hbq 0
  have z1 := cell_of hbq 1
  have z2 := cell_of hbq 2
  have z3 := cell_of hbq 3
  have z4 := cell_of hbq 4
  have z5 := cell_of hbq 5
  have z6 := cell_of hbq 6
  have y0 := free_of hbq 0
  have y1 := free_of hbq 1
  have y2 := free_of hbq 2
  have y3 := free_of hbq 3
  have y4 := free_of hbq 4
  have y5 := free_of hbq 5
  have y6 := free_of hbq 6
  simp only [List.getElem?_toArray, List.getElem?_cons_zero, List.getElem?_cons_succ] at z0 z1 z2 z3 z4 z5 z6
  have d0 := cell_of hbp 0
  have d1 := cell_of hbp 1
  have f0 := free_of hbp 0
  have f1 := free_of hbp 1
  simp only [List.getElem?_toArray, List.getElem?_cons_zero, List.getElem?_cons_succ] at d0 d1
  have HF := Lib.hid (prpost_fin (r := readF queryP x) (P := New ((w.alloc (.cells #[.slice none 0 0, .int .i64 0, .slice none 0 0, .int .i64 0, .int .i64 0, .int .i64 0, .slice none 0 0] 67)).alloc (.cells #[.int .i64 0, .int .i64 0] 24))) (li := (readF queryP x).line) (ci := (readF queryP x).col) (ei := (readF queryP x).er) (HU0.out.trans_ext hu2) (Nat.le_refl _) (by omega : w.heap.size ≤ w.heap.size + 1) (by omega) hqv (fun b hb _ => by unfold New at hb ⊢; simp at hb; omega) hbq hbp rfl rfl ⟨rfl, rfl, rfl, rfl⟩)
  clear hbq hbp hu2 hqv HC
  go_wp2_with fail
  have hb7 := HF.out.2.1
  have hb2 := HF.out.2.2
  have q0 := cell_of hb7 0
  have q1 := cell_of hb7 1
  have q2 := cell_of hb7 2
  have q3 := cell_of hb7 3
  have q4 := cell_of hb7 4
  have q5 := cell_of hb7 5
  have q6 := cell_of hb7 6
  have p0 := cell_of hb2 0
  have p1 := cell_of hb2 1
  simp only [List.getElem?_toArray, List.getElem?_cons_zero, List.getElem?_cons_succ] at q0 q1 q2 q3 q4 q5 q6 p0 p1
  exact bodyPost_ret (v := .tuple #[.agg #[.slice g1 g2 g3, .int .i64 oa, .slice na1 na2 na3, .int .i64 sa, .int .i64 ma, .int .i64 qa, .slice la1 la2 la3], .agg #[.int .i64 (readF queryP x).line, .int .i64 (readF queryP x).col], .int .i64 (readF queryP x).er]) (by simp [results, Tryd.results30, go_sem, q0, q1, q2, q3, q4, q5, q6, p0, p1]) rfl HF.out.1

/-- a formula's answer as a value -/
def FmPost (w : World) (r : PR) (e : Ending) (w' : World) : Prop :=
  ∃ v, e = .returned (.tuple #[v, .agg #[.int .i64 r.line, .int .i64 r.col], .int .i64 r.er]) ∧ NdV w' (New w) r.q.body v ∧ Upto [] w w'
theorem fmpost_fin {w W : World} {Bq Bp : Nat} {r : PR} {P : Nat → Prop} {a b c d e f x0 x1 x2 x3 x4 x5 y0 y1 : Value} (hu : Upto [] w W) (hBq : w.heap.size ≤ Bq) (hBp : w.heap.size ≤ Bp) (hne : Bq ≠ Bp) (hn : NdV W P r.q.body (.agg #[a, b, c, d, e, f]))
    (hP : ∀ b, P b → IsC W b → New w b ∧ b ≠ Bq ∧ b ≠ Bp) (hz : W.heap[Bq]? = some (.cells #[x0, x1, x2, x3, x4, x5] 59 (0, 0))) (hy : W.heap[Bp]? = some (.cells #[y0, y1] 24 (0, 0))) :
    FmPost w r (.returned (.tuple #[.agg #[a, b, c, d, e, f], .agg #[.int .i64 r.line, .int .i64 r.col], .int .i64 r.er])) ((((((((W.setCell ⟨Bq, 0, none⟩ a).setCell ⟨Bq, 1, none⟩ b).setCell ⟨Bq, 2, none⟩ c).setCell ⟨Bq, 3, none⟩ d).setCell ⟨Bq, 4, none⟩ e).setCell ⟨Bq, 5, none⟩ f).setCell ⟨Bp, 0, none⟩ (.int .i64 r.line)).setCell ⟨Bp, 1, none⟩ (.int .i64 r.col)) ∧
    ((((((((W.setCell ⟨Bq, 0, none⟩ a).setCell ⟨Bq, 1, none⟩ b).setCell ⟨Bq, 2, none⟩ c).setCell ⟨Bq, 3, none⟩ d).setCell ⟨Bq, 4, none⟩ e).setCell ⟨Bq, 5, none⟩ f).setCell ⟨Bp, 0, none⟩ (.int .i64 r.line)).setCell ⟨Bp, 1, none⟩ (.int .i64 r.col)).heap[Bq]? = some (.cells #[a, b, c, d, e, f] 59 (0, 0)) ∧ ((((((((W.setCell ⟨Bq, 0, none⟩ a).setCell ⟨Bq, 1, none⟩ b).setCell ⟨Bq, 2, none⟩ c).setCell ⟨Bq, 3, none⟩ d).setCell ⟨Bq, 4, none⟩ e).setCell ⟨Bq, 5, none⟩ f).setCell ⟨Bp, 0, none⟩ (.int .i64 r.line)).setCell ⟨Bp, 1, none⟩ (.int .i64 r.col)).heap[Bp]? = some (.cells #[.int .i64 r.line, .int .i64 r.col] 24 (0, 0)) := by
  have h7 := nd_store hz a b c d e f
  have u7 := nd_self W Bq a b c d e f
  have hy7 := u7.at hy (by simp; omega)
  have u2 : Upto [Bp] ((((((W.setCell ⟨Bq, 0, none⟩ a).setCell ⟨Bq, 1, none⟩ b).setCell ⟨Bq, 2, none⟩ c).setCell ⟨Bq, 3, none⟩ d).setCell ⟨Bq, 4, none⟩ e).setCell ⟨Bq, 5, none⟩ f) ((((((((W.setCell ⟨Bq, 0, none⟩ a).setCell ⟨Bq, 1, none⟩ b).setCell ⟨Bq, 2, none⟩ c).setCell ⟨Bq, 3, none⟩ d).setCell ⟨Bq, 4, none⟩ e).setCell ⟨Bq, 5, none⟩ f).setCell ⟨Bp, 0, none⟩ (.int .i64 r.line)).setCell ⟨Bp, 1, none⟩ (.int .i64 r.col)) := ((Upto.refl _ _).setCell (Or.inl (by simp)) _).setCell (Or.inl (by simp)) _
  have h2 := p_store hy7 (.int .i64 r.line) (.int .i64 r.col)
  refine ⟨⟨_, rfl, NdV.keep ⟨Nat.le_trans u7.size u2.size, fun b hb hl => ?_⟩ _ _ hn, ((nd_up hu (Or.inr hBq) a b c d e f).setCell (Or.inr (by simpa using hBp)) _).setCell (Or.inr (by simpa using hBp)) _⟩, u2.at h7 (by simpa using hne), h2⟩
  obtain ⟨k1, k2, k3⟩ := hP b hb hl
  exact ⟨k1, (u2.block b (Nat.lt_of_lt_of_le hl.lt u7.size) (by simpa using k3)).trans (u7.block b hl.lt (by simpa using k2))⟩
theorem FmPost.drew {w w' : World} {r : PR} {e : Ending} (h : FmPost w r e w') : FmPost w r e w'.drew := by
  obtain ⟨v, he, hq, hu⟩ := h
  exact ⟨v, he, NdV.keep (w := w') (w' := w'.drew) ⟨Nat.le_refl _, fun b hb _ => ⟨hb, rfl⟩⟩ _ _ hq, hu.drew⟩

set_option maxRecDepth 100000 in
set_option maxHeartbeats 6400000 in
/-- ParseFormula -/
theorem parseFormula_calls (x : List UInt8) (hl : x.length ≤ 281474976710656) (w : World) (he : Env w) (hs : SEnv w) : Calls Tryd.prog 27 #[.string ⟨x.toArray⟩] w (FmPost w (readF bareP x)) := by
  have hu0 : Upto [] w ((w.alloc (.cells #[.int .i64 0, .slice none 0 0, .int .i64 0, .int .i64 0, .int .i64 0, .slice none 0 0] 59)).alloc (.cells #[.int .i64 0, .int .i64 0] 24)) := ((Upto.refl [] w).alloc _).alloc _
  have HU0 := Lib.hid hu0
  have HBQ : Hid (((w.alloc (.cells #[.int .i64 0, .slice none 0 0, .int .i64 0, .int .i64 0, .int .i64 0, .slice none 0 0] 59)).alloc (.cells #[.int .i64 0, .int .i64 0] 24)).heap[w.heap.size]? = some (.cells #[.int .i64 0, .slice none 0 0, .int .i64 0, .int .i64 0, .int .i64 0, .slice none 0 0] 59 (0, 0))) := Lib.hid (alloc_old (new_at _ _) _)
  have HBP : Hid (((w.alloc (.cells #[.int .i64 0, .slice none 0 0, .int .i64 0, .int .i64 0, .int .i64 0, .slice none 0 0] 59)).alloc (.cells #[.int .i64 0, .int .i64 0] 24)).heap[w.heap.size + 1]? = some (.cells #[.int .i64 0, .int .i64 0] 24 (0, 0))) := Lib.hid (new_at1 _ _ _)
  have HC := Lib.hid (read_calls x hl 51 bareP ((w.alloc (.cells #[.int .i64 0, .slice none 0 0, .int .i64 0, .int .i64 0, .int .i64 0, .slice none 0 0] 59)).alloc (.cells #[.int .i64 0, .int .i64 0] 24)) (he.ext hu0) (hs.upto hu0 (by simp)) (run_enter Tryd.func51 (by kernel_rfl) rfl)
    (fun l hf h0 => by obtain ⟨q, s', e, a, z, -⟩ := bareP_ok hf h0; exact ⟨q, s', e, a, z⟩)
    (fun w p l q s' htx hX hR hqp => bare1_calls w p l htx ⟨0, 0, 0⟩ s' q hX hR (by decide) hqp))
  clear hu0 he hs
  go_enter Tryd.func27, Tryd.ntmps27
  go_wp2_with fail
  refine HC.out.mono ?_
  rintro e w2 ⟨vv, rfl, hqv, hu2⟩
  obtain ⟨g1, g2, g3, oa, na1, na2, na3, sa, ma, qa, la1, la2, la3, rfl⟩ := hqv.seven
  obtain ⟨vf, a0, a1, a2, a3, a4, a5, eqn, -, hnv⟩ := hqv
  simp only [Value.agg.injEq, Array.mk.injEq, List.cons.injEq, and_true] at eqn
  obtain ⟨rfl, rfl, rfl, rfl, rfl, rfl, rfl⟩ := eqn
  have hua := ((Upto.refl [] w2).alloc (.cells #[.slice g1 g2 g3, .int .i64 oa, .slice na1 na2 na3, .int .i64 sa, .int .i64 ma, .int .i64 qa, .slice la1 la2 la3] 67)).alloc (.cells #[.int .i64 (readF bareP x).line, .int .i64 (readF bareP x).col] 24)
  have hbq := hua.at (hu2.at HBQ.out (by simp)) (by simp)
  have hbp := hua.at (hu2.at HBP.out (by simp)) (by simp)
  have hb5 : ((w2.alloc (.cells #[.slice g1 g2 g3, .int .i64 oa, .slice na1 na2 na3, .int .i64 sa, .int .i64 ma, .int .i64 qa, .slice la1 la2 la3] 67)).alloc (.cells #[.int .i64 (readF bareP x).line, .int .i64 (readF bareP x).col] 24)).heap[w2.heap.size]? = some (.cells #[.slice g1 g2 g3, .int .i64 oa, .slice na1 na2 na3, .int .i64 sa, .int .i64 ma, .int .i64 qa, .slice la1 la2 la3] 67 (0, 0)) := alloc_old (new_at _ _) _
  have hb6 : ((w2.alloc (.cells #[.slice g1 g2 g3, .int .i64 oa, .slice na1 na2 na3, .int .i64 sa, .int .i64 ma, .int .i64 qa, .slice la1 la2 la3] 67)).alloc (.cells #[.int .i64 (readF bareP x).line, .int .i64 (readF bareP x).col] 24)).heap[w2.heap.size + 1]? = some (.cells #[.int .i64 (readF bareP x).line, .int .i64 (readF bareP x).col] 24 (0, 0)) := new_at1 _ _ _
  have z0 := cell_of hbq 0
  have z1 := cell_of hbq 1
  have z2 := cell_of hbq 2
  have z3 := cell_of hbq 3
  have z4 := cell_of hbq 4
  have z5 := cell_of hbq 5
  have y0 := free_of hbq 0
  have y1 := free_of hbq 1
  have y2 := free_of hbq 2
  have y3 := free_of hbq 3
  have y4 := free_of hbq 4
  have y5 := free_of hbq 5
  simp only [List.getElem?_toArray, List.getElem?_cons_zero, List.getElem?_cons_succ] at z0 z1 z2 z3 z4 z5
  have d0 := cell_of hbp 0
  have d1 := cell_of hbp 1
  have f0 := free_of hbp 0
  have f1 := free_of hbp 1
  simp only [List.getElem?_toArray, List.getElem?_cons_zero, List.getElem?_cons_succ] at d0 d1
  have g0 := cell_of hb5 0
  have g1 := cell_of hb5 1
  have g2 := cell_of hb5 2
  have g3 := cell_of hb5 3
  have g4 := cell_of hb5 4
  have g5 := cell_of hb5 5
  have g6 := cell_of hb5 6
  have h0 := free_of hb5 0
  have h1 := free_of hb5 1
  have h2 := free_of hb5 2
  have h3 := free_of hb5 3
  have h4 := free_of hb5 4
  have h5 := free_of hb5 5
  have h6 := free_of hb5 6
  simp only [List.getElem?_toArray, List.getElem?_cons_zero, List.getElem?_cons_succ] at g0 g1 g2 g3 g4 g5 g6
  have i0 := cell_of hb6 0
  have i1 := cell_of hb6 1
  have j0 := free_of hb6 0
  have j1 := free_of hb6 1
  simp only [List.getElem?_toArray, List.getElem?_cons_zero, List.getElem?_cons_succ] at i0 i1
  have hbqd := ((Upto.refl [] _).drew).at hbq (by simp)
  have zz0 := cell_of hbqd 0
  have zz1 := cell_of hbqd 1
  have zz2 := cell_of hbqd 2
  have zz3 := cell_of hbqd 3
  have zz4 := cell_of hbqd 4
  have zz5 := cell_of hbqd 5
  have yy0 := free_of hbqd 0
  have yy1 := free_of hbqd 1
  have yy2 := free_of hbqd 2
  have yy3 := free_of hbqd 3
  have yy4 := free_of hbqd 4
  have yy5 := free_of hbqd 5
  simp only [List.getElem?_toArray, List.getElem?_cons_zero, List.getElem?_cons_succ] at zz0 zz1 zz2 zz3 zz4 zz5
  clear hbqd
  have hbpd := ((Upto.refl [] _).drew).at hbp (by simp)
  have dd0 := cell_of hbpd 0
  have dd1 := cell_of hbpd 1
  have ff0 := free_of hbpd 0
  have ff1 := free_of hbpd 1
  simp only [List.getElem?_toArray, List.getElem?_cons_zero, List.getElem?_cons_succ] at dd0 dd1
  clear hbpd
  have hb5d := ((Upto.refl [] _).drew).at hb5 (by simp)
  have gg0 := cell_of hb5d 0
  have gg1 := cell_of hb5d 1
  have gg2 := cell_of hb5d 2
  have gg3 := cell_of hb5d 3
  have gg4 := cell_of hb5d 4
  have gg5 := cell_of hb5d 5
  have gg6 := cell_of hb5d 6
  have hh0 := free_of hb5d 0
  have hh1 := free_of hb5d 1
  have hh2 := free_of hb5d 2
  have hh3 := free_of hb5d 3
  have hh4 := free_of hb5d 4
  have hh5 := free_of hb5d 5
  have hh6 := free_of hb5d 6
  simp only [List.getElem?_toArray, List.getElem?_cons_zero, List.getElem?_cons_succ] at gg0 gg1 gg2 gg3 gg4 gg5 gg6
  clear hb5d
  have hb6d := ((Upto.refl [] _).drew).at hb6 (by simp)
  have ii0 := cell_of hb6d 0
  have ii1 := cell_of hb6d 1
  have jj0 := free_of hb6d 0
  have jj1 := free_of hb6d 1
  simp only [List.getElem?_toArray, List.getElem?_cons_zero, List.getElem?_cons_succ] at ii0 ii1
  clear hb6d
  have hz2 := lt_of_heap (hu2.at HBP.out (by simp))
  have n1 : w.heap.size ≠ w2.heap.size := by omega
  have n2 : w.heap.size ≠ w2.heap.size + 1 := by omega
  have n3 : w.heap.size + 1 ≠ w2.heap.size := by omega
  have n4 : w.heap.size + 1 ≠ w2.heap.size + 1 := by omega
  have n5 := n1.symm
  have n6 := n2.symm
  have n7 := n3.symm
  have n8 := n4.symm
  have HF := Lib.hid (fmpost_fin (r := readF bareP x) (P := New ((w.alloc (.cells #[.int .i64 0, .slice none 0 0, .int .i64 0, .int .i64 0, .int .i64 0, .slice none 0 0] 59)).alloc (.cells #[.int .i64 0, .int .i64 0] 24))) ((HU0.out.trans_ext hu2).trans_ext hua) (Nat.le_refl _) (by omega : w.heap.size ≤ w.heap.size + 1) (by omega) (hnv.ext hua) (fun b hb _ => by unfold New at hb ⊢; simp at hb; omega) hbq hbp)
  clear hbq hbp hb5 hb6 hu2 hnv hua hz2 HC
  go_wp2_with fail
  go_region
  all_goals (
    go_wp2_with fail
    have hb7 := ((Upto.refl [] _).drew).at HF.out.2.1 (by simp)
    have hb2 := ((Upto.refl [] _).drew).at HF.out.2.2 (by simp)
    have q0 := cell_of hb7 0
    have q1 := cell_of hb7 1
    have q2 := cell_of hb7 2
    have q3 := cell_of hb7 3
    have q4 := cell_of hb7 4
    have q5 := cell_of hb7 5
    have p0 := cell_of hb2 0
    have p1 := cell_of hb2 1
    simp only [List.getElem?_toArray, List.getElem?_cons_zero, List.getElem?_cons_succ] at q0 q1 q2 q3 q4 q5 p0 p1
    exact bodyPost_ret (v := .tuple #[.agg #[.int .i64 oa, .slice na1 na2 na3, .int .i64 sa, .int .i64 ma, .int .i64 qa, .slice la1 la2 la3], .agg #[.int .i64 (readF bareP x).line, .int .i64 (readF bareP x).col], .int .i64 (readF bareP x).er]) (by simp [results, Tryd.results27, go_sem, q0, q1, q2, q3, q4, q5, p0, p1]) rfl HF.out.1.drew)
end Go.Proofs.YtkhbpebpljdifaaDoor

/- The reference's full text of a formula. -/
namespace Go.Proofs.YtkhbpebpljdifaaDoor
open Go.RowKit Go.PL Go.Maps

def wordsF : List (List UInt8) := [[116, 114, 117, 101], [102, 97, 108, 115, 101], [61], [105, 110], [115, 117, 98], [97, 100, 106], [111, 110], [], [], [], [], [110, 111, 116], [97, 110, 100], [111, 114], [105, 109, 112, 108, 105, 101, 115], [105, 102, 102], [115, 111, 109, 101], [101, 118, 101, 114, 121]]
def sortW (s : Int) : List UInt8 := if s = 0 then [118, 101, 114, 116, 101, 120] else if s = 1 then [101, 100, 103, 101] else if s = 2 then [115, 101, 116] else if s = 3 then [101, 100, 103, 101, 115] else []
mutual
/-- the full text: atoms over two names, connectives of two, quantifiers -/
def fullF : Nd → List UInt8
  | .mk op names so _ _ l => if op < 7 then names.getD 0 [] ++ [32] ++ wordsF.getD op.toNat [] ++ [32] ++ names.getD 1 []
    else if op < 16 then [40] ++ (fullsF l).getD 0 [] ++ [41, 32] ++ wordsF.getD op.toNat [] ++ [32, 40] ++ (fullsF l).getD 1 [] ++ [41]
    else wordsF.getD op.toNat [] ++ [32] ++ sortW so ++ [32] ++ names.getD 0 [] ++ [58, 32] ++ (fullsF l).getD 0 []
def fullsF : List Nd → List (List UInt8)
  | [] => []
  | x :: xs => fullF x :: fullsF xs
end
mutual
/-- the formulas that fullF speaks of -/
def plainF : Nd → Prop
  | .mk op names so _ _ l => (2 ≤ op ∧ op < 7 ∧ 2 ≤ names.length) ∨ (12 ≤ op ∧ op < 16 ∧ 2 ≤ l.length ∧ plainsF l) ∨ (16 ≤ op ∧ op < 18 ∧ 1 ≤ names.length ∧ 1 ≤ l.length ∧ plainsF l)
def plainsF : List Nd → Prop
  | [] => True
  | x :: xs => plainF x ∧ plainsF xs
end
def Says (w : World) (P : Nat → Prop) (nd : Nd) (s : List UInt8) : Prop := ∀ v w1, Upto [] w w1 → NdV w1 P nd v → Calls Tryd.prog 49 #[v] w1 fun e w' => e = .returned (.string ⟨s.toArray⟩) ∧ Upto [] w1 w'

set_option maxHeartbeats 1600000 in
theorem sorted_calls (s : Int) (w : World) : Calls Tryd.prog 71 #[.int .i64 s] w fun e w' => e = .returned (.string ⟨(sortW s).toArray⟩) ∧ Upto [] w w' := by
  have HU := Lib.hid (Upto.refl [] w)
  by_cases h0 : s = 0
  · subst h0
    go_enter Tryd.func71, Tryd.ntmps71
    go_wp2_with fail
    go_ret
    exact ⟨rfl, HU.out⟩
  by_cases h1 : s = 1
  · subst h1
    go_enter Tryd.func71, Tryd.ntmps71
    go_wp2_with fail
    go_ret
    exact ⟨rfl, HU.out⟩
  by_cases h2 : s = 2
  · subst h2
    go_enter Tryd.func71, Tryd.ntmps71
    go_wp2_with fail
    go_ret
    exact ⟨rfl, HU.out⟩
  by_cases h3 : s = 3
  · subst h3
    go_enter Tryd.func71, Tryd.ntmps71
    go_wp2_with fail
    go_ret
    exact ⟨rfl, HU.out⟩
  have e : sortW s = [] := by unfold sortW; rw [if_neg h0, if_neg h1, if_neg h2, if_neg h3]
  rw [e]
  have b0 : (s == 0) = false := by simpa using h0
  have b1 : (s == 1) = false := by simpa using h1
  have b2 : (s == 2) = false := by simpa using h2
  have b3 : (s == 3) = false := by simpa using h3
  go_enter Tryd.func71, Tryd.ntmps71
  go_wp2_with fail
  go_ret
  exact ⟨rfl, HU.out⟩


set_option maxRecDepth 100000 in
set_option maxHeartbeats 6400000 in
theorem full_two (w : World) (k : Nat) (l1 : Option Addr) (n2 n3 l2 l3 : Nat) (so nn mm : Int) (W : List UInt8) (hW : wordsF[k]? = some W) (hk : 2 ≤ k ∧ k < 7) (g og : Nat) (x y : List UInt8) (hn2 : 2 ≤ n2) (hlx : x.length ≤ 1000000000000) (hly : y.length ≤ 1000000000000) (hx : w.cell? ⟨g, og, none⟩ = some (sV x)) (hy : w.cell? ⟨g, og + 1, none⟩ = some (sV y)) :
    Calls Tryd.prog 49 #[.agg #[.int .i64 k, .slice (some ⟨g, og, none⟩) n2 n3, .int .i64 so, .int .i64 nn, .int .i64 mm, .slice l1 l2 l3]] w fun e w' => e = .returned (.string ⟨(x ++ [32] ++ W ++ [32] ++ y).toArray⟩) ∧ Upto [] w w' := by
  have hu2 : Upto [] w ((w.alloc (.cells #[.int .i64 k, .slice (some ⟨g, og, none⟩) n2 n3, .int .i64 so, .int .i64 nn, .int .i64 mm, .slice l1 l2 l3] 54)).alloc (.cells #[.string ⟨#[116, 114, 117, 101]⟩, .string ⟨#[102, 97, 108, 115, 101]⟩, .string ⟨#[61]⟩, .string ⟨#[105, 110]⟩, .string ⟨#[115, 117, 98]⟩, .string ⟨#[97, 100, 106]⟩, .string ⟨#[111, 110]⟩, .string ⟨#[]⟩, .string ⟨#[]⟩, .string ⟨#[]⟩, .string ⟨#[]⟩, .string ⟨#[110, 111, 116]⟩, .string ⟨#[97, 110, 100]⟩, .string ⟨#[111, 114]⟩, .string ⟨#[105, 109, 112, 108, 105, 101, 115]⟩, .string ⟨#[105, 102, 102]⟩, .string ⟨#[115, 111, 109, 101]⟩, .string ⟨#[101, 118, 101, 114, 121]⟩] 9)) := ((Upto.refl [] w).alloc _).alloc _
  have HU2 := Lib.hid hu2
  have hb1 := alloc_old (new_at w (.cells #[.int .i64 k, .slice (some ⟨g, og, none⟩) n2 n3, .int .i64 so, .int .i64 nn, .int .i64 mm, .slice l1 l2 l3] 54)) (.cells #[.string ⟨#[116, 114, 117, 101]⟩, .string ⟨#[102, 97, 108, 115, 101]⟩, .string ⟨#[61]⟩, .string ⟨#[105, 110]⟩, .string ⟨#[115, 117, 98]⟩, .string ⟨#[97, 100, 106]⟩, .string ⟨#[111, 110]⟩, .string ⟨#[]⟩, .string ⟨#[]⟩, .string ⟨#[]⟩, .string ⟨#[]⟩, .string ⟨#[110, 111, 116]⟩, .string ⟨#[97, 110, 100]⟩, .string ⟨#[111, 114]⟩, .string ⟨#[105, 109, 112, 108, 105, 101, 115]⟩, .string ⟨#[105, 102, 102]⟩, .string ⟨#[115, 111, 109, 101]⟩, .string ⟨#[101, 118, 101, 114, 121]⟩] 9)
  have hb2 := new_at1 w (.cells #[.int .i64 k, .slice (some ⟨g, og, none⟩) n2 n3, .int .i64 so, .int .i64 nn, .int .i64 mm, .slice l1 l2 l3] 54) (.cells #[.string ⟨#[116, 114, 117, 101]⟩, .string ⟨#[102, 97, 108, 115, 101]⟩, .string ⟨#[61]⟩, .string ⟨#[105, 110]⟩, .string ⟨#[115, 117, 98]⟩, .string ⟨#[97, 100, 106]⟩, .string ⟨#[111, 110]⟩, .string ⟨#[]⟩, .string ⟨#[]⟩, .string ⟨#[]⟩, .string ⟨#[]⟩, .string ⟨#[110, 111, 116]⟩, .string ⟨#[97, 110, 100]⟩, .string ⟨#[111, 114]⟩, .string ⟨#[105, 109, 112, 108, 105, 101, 115]⟩, .string ⟨#[105, 102, 102]⟩, .string ⟨#[115, 111, 109, 101]⟩, .string ⟨#[101, 118, 101, 114, 121]⟩] 9)
  have hc : ((w.alloc (.cells #[.int .i64 k, .slice (some ⟨g, og, none⟩) n2 n3, .int .i64 so, .int .i64 nn, .int .i64 mm, .slice l1 l2 l3] 54)).alloc (.cells #[.string ⟨#[116, 114, 117, 101]⟩, .string ⟨#[102, 97, 108, 115, 101]⟩, .string ⟨#[61]⟩, .string ⟨#[105, 110]⟩, .string ⟨#[115, 117, 98]⟩, .string ⟨#[97, 100, 106]⟩, .string ⟨#[111, 110]⟩, .string ⟨#[]⟩, .string ⟨#[]⟩, .string ⟨#[]⟩, .string ⟨#[]⟩, .string ⟨#[110, 111, 116]⟩, .string ⟨#[97, 110, 100]⟩, .string ⟨#[111, 114]⟩, .string ⟨#[105, 109, 112, 108, 105, 101, 115]⟩, .string ⟨#[105, 102, 102]⟩, .string ⟨#[115, 111, 109, 101]⟩, .string ⟨#[101, 118, 101, 114, 121]⟩] 9)).cell? ⟨w.heap.size + 1, k, none⟩ = some (.string ⟨W.toArray⟩) := by
    rw [cell_of hb2]
    have hk : k = 2 ∨ k = 3 ∨ k = 4 ∨ k = 5 ∨ k = 6 ∨ k = 7 ∨ k = 8 ∨ k = 9 ∨ k = 10 ∨ k = 11 ∨ k = 12 ∨ k = 13 ∨ k = 14 ∨ k = 15 ∨ k = 16 ∨ k = 17 := by omega
    rcases hk with rfl | rfl | rfl | rfl | rfl | rfl | rfl | rfl | rfl | rfl | rfl | rfl | rfl | rfl | rfl | rfl <;> (cases hW; rfl)
  have q0 : ¬ ((k : Int) < 2) := by omega
  have q1 : (k : Int) < 7 := by omega
  have q2 : (0 : Int) < n2 := by omega
  have q3 : (1 : Int) < n2 := by omega
  have q4 : (k : Int) < 18 := by omega
  have q5 : (0 : Int) ≤ k := by omega
  have xa0 := cell_of hb1 0
  have xa1 := cell_of hb1 1
  have xa2 := cell_of hb1 2
  have xa3 := cell_of hb1 3
  have xa4 := cell_of hb1 4
  have xa5 := cell_of hb1 5
  simp only [List.getElem?_toArray, List.getElem?_cons_zero, List.getElem?_cons_succ] at xa0 xa1 xa2 xa3 xa4 xa5
  have ya0 := free_of hb1 0
  have ya1 := free_of hb1 1
  have ya2 := free_of hb1 2
  have ya3 := free_of hb1 3
  have ya4 := free_of hb1 4
  have ya5 := free_of hb1 5
  have e0 : ∀ u : Ext ((w.alloc (.cells #[.int .i64 k, .slice (some ⟨g, og, none⟩) n2 n3, .int .i64 so, .int .i64 nn, .int .i64 mm, .slice l1 l2 l3] 54)).alloc (.cells #[.string ⟨#[116, 114, 117, 101]⟩, .string ⟨#[102, 97, 108, 115, 101]⟩, .string ⟨#[61]⟩, .string ⟨#[105, 110]⟩, .string ⟨#[115, 117, 98]⟩, .string ⟨#[97, 100, 106]⟩, .string ⟨#[111, 110]⟩, .string ⟨#[]⟩, .string ⟨#[]⟩, .string ⟨#[]⟩, .string ⟨#[]⟩, .string ⟨#[110, 111, 116]⟩, .string ⟨#[97, 110, 100]⟩, .string ⟨#[111, 114]⟩, .string ⟨#[105, 109, 112, 108, 105, 101, 115]⟩, .string ⟨#[105, 102, 102]⟩, .string ⟨#[115, 111, 109, 101]⟩, .string ⟨#[101, 118, 101, 114, 121]⟩] 9)), u.w.cell? ⟨w.heap.size, 0, none⟩ = some (.int .i64 k) := fun u => u.cell (cell_of hb1 0)
  have e1 : ∀ u : Ext ((w.alloc (.cells #[.int .i64 k, .slice (some ⟨g, og, none⟩) n2 n3, .int .i64 so, .int .i64 nn, .int .i64 mm, .slice l1 l2 l3] 54)).alloc (.cells #[.string ⟨#[116, 114, 117, 101]⟩, .string ⟨#[102, 97, 108, 115, 101]⟩, .string ⟨#[61]⟩, .string ⟨#[105, 110]⟩, .string ⟨#[115, 117, 98]⟩, .string ⟨#[97, 100, 106]⟩, .string ⟨#[111, 110]⟩, .string ⟨#[]⟩, .string ⟨#[]⟩, .string ⟨#[]⟩, .string ⟨#[]⟩, .string ⟨#[110, 111, 116]⟩, .string ⟨#[97, 110, 100]⟩, .string ⟨#[111, 114]⟩, .string ⟨#[105, 109, 112, 108, 105, 101, 115]⟩, .string ⟨#[105, 102, 102]⟩, .string ⟨#[115, 111, 109, 101]⟩, .string ⟨#[101, 118, 101, 114, 121]⟩] 9)), u.w.cell? ⟨w.heap.size, 1, none⟩ = some (.slice (some ⟨g, og, none⟩) n2 n3) := fun u => u.cell (cell_of hb1 1)
  have e2 : ∀ u : Ext ((w.alloc (.cells #[.int .i64 k, .slice (some ⟨g, og, none⟩) n2 n3, .int .i64 so, .int .i64 nn, .int .i64 mm, .slice l1 l2 l3] 54)).alloc (.cells #[.string ⟨#[116, 114, 117, 101]⟩, .string ⟨#[102, 97, 108, 115, 101]⟩, .string ⟨#[61]⟩, .string ⟨#[105, 110]⟩, .string ⟨#[115, 117, 98]⟩, .string ⟨#[97, 100, 106]⟩, .string ⟨#[111, 110]⟩, .string ⟨#[]⟩, .string ⟨#[]⟩, .string ⟨#[]⟩, .string ⟨#[]⟩, .string ⟨#[110, 111, 116]⟩, .string ⟨#[97, 110, 100]⟩, .string ⟨#[111, 114]⟩, .string ⟨#[105, 109, 112, 108, 105, 101, 115]⟩, .string ⟨#[105, 102, 102]⟩, .string ⟨#[115, 111, 109, 101]⟩, .string ⟨#[101, 118, 101, 114, 121]⟩] 9)), u.w.cell? ⟨w.heap.size, 2, none⟩ = some (.int .i64 so) := fun u => u.cell (cell_of hb1 2)
  have e5 : ∀ u : Ext ((w.alloc (.cells #[.int .i64 k, .slice (some ⟨g, og, none⟩) n2 n3, .int .i64 so, .int .i64 nn, .int .i64 mm, .slice l1 l2 l3] 54)).alloc (.cells #[.string ⟨#[116, 114, 117, 101]⟩, .string ⟨#[102, 97, 108, 115, 101]⟩, .string ⟨#[61]⟩, .string ⟨#[105, 110]⟩, .string ⟨#[115, 117, 98]⟩, .string ⟨#[97, 100, 106]⟩, .string ⟨#[111, 110]⟩, .string ⟨#[]⟩, .string ⟨#[]⟩, .string ⟨#[]⟩, .string ⟨#[]⟩, .string ⟨#[110, 111, 116]⟩, .string ⟨#[97, 110, 100]⟩, .string ⟨#[111, 114]⟩, .string ⟨#[105, 109, 112, 108, 105, 101, 115]⟩, .string ⟨#[105, 102, 102]⟩, .string ⟨#[115, 111, 109, 101]⟩, .string ⟨#[101, 118, 101, 114, 121]⟩] 9)), u.w.cell? ⟨w.heap.size, 5, none⟩ = some (.slice l1 l2 l3) := fun u => u.cell (cell_of hb1 5)
  have ew : ∀ u : Ext ((w.alloc (.cells #[.int .i64 k, .slice (some ⟨g, og, none⟩) n2 n3, .int .i64 so, .int .i64 nn, .int .i64 mm, .slice l1 l2 l3] 54)).alloc (.cells #[.string ⟨#[116, 114, 117, 101]⟩, .string ⟨#[102, 97, 108, 115, 101]⟩, .string ⟨#[61]⟩, .string ⟨#[105, 110]⟩, .string ⟨#[115, 117, 98]⟩, .string ⟨#[97, 100, 106]⟩, .string ⟨#[111, 110]⟩, .string ⟨#[]⟩, .string ⟨#[]⟩, .string ⟨#[]⟩, .string ⟨#[]⟩, .string ⟨#[110, 111, 116]⟩, .string ⟨#[97, 110, 100]⟩, .string ⟨#[111, 114]⟩, .string ⟨#[105, 109, 112, 108, 105, 101, 115]⟩, .string ⟨#[105, 102, 102]⟩, .string ⟨#[115, 111, 109, 101]⟩, .string ⟨#[101, 118, 101, 114, 121]⟩] 9)), u.w.cell? ⟨w.heap.size + 1, k, none⟩ = some (.string ⟨W.toArray⟩) := fun u => u.cell hc
  have ex : ∀ u : Ext ((w.alloc (.cells #[.int .i64 k, .slice (some ⟨g, og, none⟩) n2 n3, .int .i64 so, .int .i64 nn, .int .i64 mm, .slice l1 l2 l3] 54)).alloc (.cells #[.string ⟨#[116, 114, 117, 101]⟩, .string ⟨#[102, 97, 108, 115, 101]⟩, .string ⟨#[61]⟩, .string ⟨#[105, 110]⟩, .string ⟨#[115, 117, 98]⟩, .string ⟨#[97, 100, 106]⟩, .string ⟨#[111, 110]⟩, .string ⟨#[]⟩, .string ⟨#[]⟩, .string ⟨#[]⟩, .string ⟨#[]⟩, .string ⟨#[110, 111, 116]⟩, .string ⟨#[97, 110, 100]⟩, .string ⟨#[111, 114]⟩, .string ⟨#[105, 109, 112, 108, 105, 101, 115]⟩, .string ⟨#[105, 102, 102]⟩, .string ⟨#[115, 111, 109, 101]⟩, .string ⟨#[101, 118, 101, 114, 121]⟩] 9)), u.w.cell? ⟨g, og, none⟩ = some (.string ⟨x.toArray⟩) := fun u => u.cell ((hu2.cell (p := ⟨g, og, none⟩) (World.block_lt_of_cell? w _ hx) (by simp)).trans hx)
  have ey : ∀ u : Ext ((w.alloc (.cells #[.int .i64 k, .slice (some ⟨g, og, none⟩) n2 n3, .int .i64 so, .int .i64 nn, .int .i64 mm, .slice l1 l2 l3] 54)).alloc (.cells #[.string ⟨#[116, 114, 117, 101]⟩, .string ⟨#[102, 97, 108, 115, 101]⟩, .string ⟨#[61]⟩, .string ⟨#[105, 110]⟩, .string ⟨#[115, 117, 98]⟩, .string ⟨#[97, 100, 106]⟩, .string ⟨#[111, 110]⟩, .string ⟨#[]⟩, .string ⟨#[]⟩, .string ⟨#[]⟩, .string ⟨#[]⟩, .string ⟨#[110, 111, 116]⟩, .string ⟨#[97, 110, 100]⟩, .string ⟨#[111, 114]⟩, .string ⟨#[105, 109, 112, 108, 105, 101, 115]⟩, .string ⟨#[105, 102, 102]⟩, .string ⟨#[115, 111, 109, 101]⟩, .string ⟨#[101, 118, 101, 114, 121]⟩] 9)), u.w.cell? ⟨g, og + 1, none⟩ = some (.string ⟨y.toArray⟩) := fun u => u.cell ((hu2.cell (p := ⟨g, og + 1, none⟩) (World.block_lt_of_cell? w _ hy) (by simp)).trans hy)
  have lW : W.length ≤ 10 := by
    have hk : k = 2 ∨ k = 3 ∨ k = 4 ∨ k = 5 ∨ k = 6 ∨ k = 7 ∨ k = 8 ∨ k = 9 ∨ k = 10 ∨ k = 11 ∨ k = 12 ∨ k = 13 ∨ k = 14 ∨ k = 15 ∨ k = 16 ∨ k = 17 := by omega
    rcases hk with rfl | rfl | rfl | rfl | rfl | rfl | rfl | rfl | rfl | rfl | rfl | rfl | rfl | rfl | rfl | rfl <;> (cases hW; simp)
  have sm0 : x.length + 1 ≤ 9223372036854775807 := by omega
  have sm1 : x.length + 1 + W.length ≤ 9223372036854775807 := by omega
  have sm2 : x.length + 1 + W.length + 1 ≤ 9223372036854775807 := by omega
  have sm3 : x.length + 1 + W.length + 1 + y.length ≤ 9223372036854775807 := by omega
  clear hu2 hb1 hb2 hc hW hx hy hlx hly
  go_enter Tryd.func49, Tryd.ntmps49
  go_wp2_with fail
  refine wp_region_seg_all [] [] [0, 1, 2, 3, 4, 5, 6, 7, 8, 9, 10, 11, 12, 13, 14, 15, 16, 17] (by kernel_rfl) (by kernel_rfl) ?_
  refine seg_plain rfl rfl rfl rfl rfl ?_
  intro K' hK'
  go_big_quiet_op
  go_big_quiet_on
  refine seg_plain rfl rfl rfl rfl rfl ?_
  intro K' hK'
  go_big_quiet_op
  go_big_quiet_on
  refine seg_plain rfl rfl rfl rfl rfl ?_
  intro K' hK'
  go_big_quiet_op
  go_big_quiet_on
  refine seg_plain rfl rfl rfl rfl rfl ?_
  intro K' hK'
  go_big_quiet_op
  go_big_quiet_on
  refine seg_plain rfl rfl rfl rfl rfl ?_
  intro K' hK'
  go_big_quiet_op
  go_big_quiet_on
  refine seg_plain rfl rfl rfl rfl rfl ?_
  intro K' hK'
  go_big_quiet_op
  go_big_quiet_on
  refine seg_plain rfl rfl rfl rfl rfl ?_
  intro K' hK'
  go_big_quiet_op
  go_big_quiet_on
  refine seg_plain rfl rfl rfl rfl rfl ?_
  intro K' hK'
  go_big_quiet_op
  go_big_quiet_on
  refine seg_plain rfl rfl rfl rfl rfl ?_
  intro K' hK'
  go_big_quiet_op
  go_big_quiet_on
  refine seg_plain rfl rfl rfl rfl rfl ?_
  intro K' hK'
  go_big_quiet_op
  go_big_quiet_on
  refine seg_plain rfl rfl rfl rfl rfl ?_
  intro K' hK'
  go_big_quiet_op
  go_big_quiet_on
  refine seg_plain rfl rfl rfl rfl rfl ?_
  intro K' hK'
  go_big_quiet_op
  go_big_quiet_on
  refine seg_plain rfl rfl rfl rfl rfl ?_
  intro K' hK'
  go_big_quiet_op
  go_big_quiet_on
  refine seg_plain rfl rfl rfl rfl rfl ?_
  intro K' hK'
  go_big_quiet_op
  go_big_quiet_on
  refine seg_plain rfl rfl rfl rfl rfl ?_
  intro K' hK'
  go_big_quiet_op
  go_big_quiet_on
  refine seg_plain rfl rfl rfl rfl rfl ?_
  intro K' hK'
  go_big_quiet_op
  go_big_quiet_on
  refine seg_plain rfl rfl rfl rfl rfl ?_
  intro K' hK'
  go_big_quiet_op
  go_big_quiet_on
  refine seg_plain rfl rfl rfl rfl rfl ?_
  intro K' hK'
  go_big_quiet_op
  go_big_quiet_on
  intro w9 hg
  have HU3 := Lib.hid (HU2.out.trans_ext hg.up)
  clear hg e0 e1 e2 e5 ew ex ey
  go_wp2_with fail
  go_ret
  exact ⟨congrArg (fun z => Ending.returned (.string z)) (show ByteArray.mk x.toArray ++ ByteArray.mk [32].toArray ++ ByteArray.mk W.toArray ++ ByteArray.mk [32].toArray ++ ByteArray.mk y.toArray = ⟨(x ++ [32] ++ W ++ [32] ++ y).toArray⟩ by simp only [ByteArray.mk_append_mk]), HU3.out⟩


set_option maxRecDepth 100000 in
set_option maxHeartbeats 6400000 in
theorem full_bin (w : World) (k : Nat) (n1 : Option Addr) (n2 n3 l2 l3 : Nat) (so nn mm : Int) (W : List UInt8) (hW : wordsF[k]? = some W) (hk : 12 ≤ k ∧ k < 16) (g og : Nat) (P : Nat → Prop) (a b : Nd) (sa sb : List UInt8) (hl2 : 2 ≤ l2) (hx : NdsV w P g og [a, b]) (hlx : sa.length ≤ 1000000000000) (hly : sb.length ≤ 1000000000000) (ha : Says w P a sa) (hb : Says w P b sb) :
    Calls Tryd.prog 49 #[.agg #[.int .i64 k, .slice n1 n2 n3, .int .i64 so, .int .i64 nn, .int .i64 mm, .slice (some ⟨g, og, none⟩) l2 l3]] w fun e w' => e = .returned (.string ⟨([40] ++ sa ++ [41, 32] ++ W ++ [32, 40] ++ sb ++ [41]).toArray⟩) ∧ Upto [] w w' := by
  have hu2 : Upto [] w ((w.alloc (.cells #[.int .i64 k, .slice n1 n2 n3, .int .i64 so, .int .i64 nn, .int .i64 mm, .slice (some ⟨g, og, none⟩) l2 l3] 54)).alloc (.cells #[.string ⟨#[116, 114, 117, 101]⟩, .string ⟨#[102, 97, 108, 115, 101]⟩, .string ⟨#[61]⟩, .string ⟨#[105, 110]⟩, .string ⟨#[115, 117, 98]⟩, .string ⟨#[97, 100, 106]⟩, .string ⟨#[111, 110]⟩, .string ⟨#[]⟩, .string ⟨#[]⟩, .string ⟨#[]⟩, .string ⟨#[]⟩, .string ⟨#[110, 111, 116]⟩, .string ⟨#[97, 110, 100]⟩, .string ⟨#[111, 114]⟩, .string ⟨#[105, 109, 112, 108, 105, 101, 115]⟩, .string ⟨#[105, 102, 102]⟩, .string ⟨#[115, 111, 109, 101]⟩, .string ⟨#[101, 118, 101, 114, 121]⟩] 9)) := ((Upto.refl [] w).alloc _).alloc _
  have HU2 := Lib.hid hu2
  have hb1 := alloc_old (new_at w (.cells #[.int .i64 k, .slice n1 n2 n3, .int .i64 so, .int .i64 nn, .int .i64 mm, .slice (some ⟨g, og, none⟩) l2 l3] 54)) (.cells #[.string ⟨#[116, 114, 117, 101]⟩, .string ⟨#[102, 97, 108, 115, 101]⟩, .string ⟨#[61]⟩, .string ⟨#[105, 110]⟩, .string ⟨#[115, 117, 98]⟩, .string ⟨#[97, 100, 106]⟩, .string ⟨#[111, 110]⟩, .string ⟨#[]⟩, .string ⟨#[]⟩, .string ⟨#[]⟩, .string ⟨#[]⟩, .string ⟨#[110, 111, 116]⟩, .string ⟨#[97, 110, 100]⟩, .string ⟨#[111, 114]⟩, .string ⟨#[105, 109, 112, 108, 105, 101, 115]⟩, .string ⟨#[105, 102, 102]⟩, .string ⟨#[115, 111, 109, 101]⟩, .string ⟨#[101, 118, 101, 114, 121]⟩] 9)
  have hb2 := new_at1 w (.cells #[.int .i64 k, .slice n1 n2 n3, .int .i64 so, .int .i64 nn, .int .i64 mm, .slice (some ⟨g, og, none⟩) l2 l3] 54) (.cells #[.string ⟨#[116, 114, 117, 101]⟩, .string ⟨#[102, 97, 108, 115, 101]⟩, .string ⟨#[61]⟩, .string ⟨#[105, 110]⟩, .string ⟨#[115, 117, 98]⟩, .string ⟨#[97, 100, 106]⟩, .string ⟨#[111, 110]⟩, .string ⟨#[]⟩, .string ⟨#[]⟩, .string ⟨#[]⟩, .string ⟨#[]⟩, .string ⟨#[110, 111, 116]⟩, .string ⟨#[97, 110, 100]⟩, .string ⟨#[111, 114]⟩, .string ⟨#[105, 109, 112, 108, 105, 101, 115]⟩, .string ⟨#[105, 102, 102]⟩, .string ⟨#[115, 111, 109, 101]⟩, .string ⟨#[101, 118, 101, 114, 121]⟩] 9)
  have hc : ((w.alloc (.cells #[.int .i64 k, .slice n1 n2 n3, .int .i64 so, .int .i64 nn, .int .i64 mm, .slice (some ⟨g, og, none⟩) l2 l3] 54)).alloc (.cells #[.string ⟨#[116, 114, 117, 101]⟩, .string ⟨#[102, 97, 108, 115, 101]⟩, .string ⟨#[61]⟩, .string ⟨#[105, 110]⟩, .string ⟨#[115, 117, 98]⟩, .string ⟨#[97, 100, 106]⟩, .string ⟨#[111, 110]⟩, .string ⟨#[]⟩, .string ⟨#[]⟩, .string ⟨#[]⟩, .string ⟨#[]⟩, .string ⟨#[110, 111, 116]⟩, .string ⟨#[97, 110, 100]⟩, .string ⟨#[111, 114]⟩, .string ⟨#[105, 109, 112, 108, 105, 101, 115]⟩, .string ⟨#[105, 102, 102]⟩, .string ⟨#[115, 111, 109, 101]⟩, .string ⟨#[101, 118, 101, 114, 121]⟩] 9)).cell? ⟨w.heap.size + 1, k, none⟩ = some (.string ⟨W.toArray⟩) := by
    rw [cell_of hb2]
    have hk : k = 2 ∨ k = 3 ∨ k = 4 ∨ k = 5 ∨ k = 6 ∨ k = 7 ∨ k = 8 ∨ k = 9 ∨ k = 10 ∨ k = 11 ∨ k = 12 ∨ k = 13 ∨ k = 14 ∨ k = 15 ∨ k = 16 ∨ k = 17 := by omega
    rcases hk with rfl | rfl | rfl | rfl | rfl | rfl | rfl | rfl | rfl | rfl | rfl | rfl | rfl | rfl | rfl | rfl <;> (cases hW; rfl)
  have q0 : ¬ ((k : Int) < 2) := by omega
  have q1 : ¬ ((k : Int) < 7) := by omega
  have q2 : ((k : Int) == 7) = false := by simp; omega
  have q3 : ((k : Int) == 8) = false := by simp; omega
  have q4 : ((k : Int) == 9) = false := by simp; omega
  have q5 : ((k : Int) == 10) = false := by simp; omega
  have q6 : ((k : Int) == 11) = false := by simp; omega
  have q7 : (k : Int) < 16 := by omega
  have q8 : (0 : Int) < l2 := by omega
  have q9 : (1 : Int) < l2 := by omega
  have q10 : (k : Int) < 18 := by omega
  have q11 : (0 : Int) ≤ k := by omega
  have xa0 := cell_of hb1 0
  have xa1 := cell_of hb1 1
  have xa2 := cell_of hb1 2
  have xa3 := cell_of hb1 3
  have xa4 := cell_of hb1 4
  have xa5 := cell_of hb1 5
  simp only [List.getElem?_toArray, List.getElem?_cons_zero, List.getElem?_cons_succ] at xa0 xa1 xa2 xa3 xa4 xa5
  have ya0 := free_of hb1 0
  have ya1 := free_of hb1 1
  have ya2 := free_of hb1 2
  have ya3 := free_of hb1 3
  have ya4 := free_of hb1 4
  have ya5 := free_of hb1 5
  have e0 : ∀ u : Ext ((w.alloc (.cells #[.int .i64 k, .slice n1 n2 n3, .int .i64 so, .int .i64 nn, .int .i64 mm, .slice (some ⟨g, og, none⟩) l2 l3] 54)).alloc (.cells #[.string ⟨#[116, 114, 117, 101]⟩, .string ⟨#[102, 97, 108, 115, 101]⟩, .string ⟨#[61]⟩, .string ⟨#[105, 110]⟩, .string ⟨#[115, 117, 98]⟩, .string ⟨#[97, 100, 106]⟩, .string ⟨#[111, 110]⟩, .string ⟨#[]⟩, .string ⟨#[]⟩, .string ⟨#[]⟩, .string ⟨#[]⟩, .string ⟨#[110, 111, 116]⟩, .string ⟨#[97, 110, 100]⟩, .string ⟨#[111, 114]⟩, .string ⟨#[105, 109, 112, 108, 105, 101, 115]⟩, .string ⟨#[105, 102, 102]⟩, .string ⟨#[115, 111, 109, 101]⟩, .string ⟨#[101, 118, 101, 114, 121]⟩] 9)), u.w.cell? ⟨w.heap.size, 0, none⟩ = some (.int .i64 k) := fun u => u.cell (cell_of hb1 0)
  have e1 : ∀ u : Ext ((w.alloc (.cells #[.int .i64 k, .slice n1 n2 n3, .int .i64 so, .int .i64 nn, .int .i64 mm, .slice (some ⟨g, og, none⟩) l2 l3] 54)).alloc (.cells #[.string ⟨#[116, 114, 117, 101]⟩, .string ⟨#[102, 97, 108, 115, 101]⟩, .string ⟨#[61]⟩, .string ⟨#[105, 110]⟩, .string ⟨#[115, 117, 98]⟩, .string ⟨#[97, 100, 106]⟩, .string ⟨#[111, 110]⟩, .string ⟨#[]⟩, .string ⟨#[]⟩, .string ⟨#[]⟩, .string ⟨#[]⟩, .string ⟨#[110, 111, 116]⟩, .string ⟨#[97, 110, 100]⟩, .string ⟨#[111, 114]⟩, .string ⟨#[105, 109, 112, 108, 105, 101, 115]⟩, .string ⟨#[105, 102, 102]⟩, .string ⟨#[115, 111, 109, 101]⟩, .string ⟨#[101, 118, 101, 114, 121]⟩] 9)), u.w.cell? ⟨w.heap.size, 1, none⟩ = some (.slice n1 n2 n3) := fun u => u.cell (cell_of hb1 1)
  have e2 : ∀ u : Ext ((w.alloc (.cells #[.int .i64 k, .slice n1 n2 n3, .int .i64 so, .int .i64 nn, .int .i64 mm, .slice (some ⟨g, og, none⟩) l2 l3] 54)).alloc (.cells #[.string ⟨#[116, 114, 117, 101]⟩, .string ⟨#[102, 97, 108, 115, 101]⟩, .string ⟨#[61]⟩, .string ⟨#[105, 110]⟩, .string ⟨#[115, 117, 98]⟩, .string ⟨#[97, 100, 106]⟩, .string ⟨#[111, 110]⟩, .string ⟨#[]⟩, .string ⟨#[]⟩, .string ⟨#[]⟩, .string ⟨#[]⟩, .string ⟨#[110, 111, 116]⟩, .string ⟨#[97, 110, 100]⟩, .string ⟨#[111, 114]⟩, .string ⟨#[105, 109, 112, 108, 105, 101, 115]⟩, .string ⟨#[105, 102, 102]⟩, .string ⟨#[115, 111, 109, 101]⟩, .string ⟨#[101, 118, 101, 114, 121]⟩] 9)), u.w.cell? ⟨w.heap.size, 2, none⟩ = some (.int .i64 so) := fun u => u.cell (cell_of hb1 2)
  have e5 : ∀ u : Ext ((w.alloc (.cells #[.int .i64 k, .slice n1 n2 n3, .int .i64 so, .int .i64 nn, .int .i64 mm, .slice (some ⟨g, og, none⟩) l2 l3] 54)).alloc (.cells #[.string ⟨#[116, 114, 117, 101]⟩, .string ⟨#[102, 97, 108, 115, 101]⟩, .string ⟨#[61]⟩, .string ⟨#[105, 110]⟩, .string ⟨#[115, 117, 98]⟩, .string ⟨#[97, 100, 106]⟩, .string ⟨#[111, 110]⟩, .string ⟨#[]⟩, .string ⟨#[]⟩, .string ⟨#[]⟩, .string ⟨#[]⟩, .string ⟨#[110, 111, 116]⟩, .string ⟨#[97, 110, 100]⟩, .string ⟨#[111, 114]⟩, .string ⟨#[105, 109, 112, 108, 105, 101, 115]⟩, .string ⟨#[105, 102, 102]⟩, .string ⟨#[115, 111, 109, 101]⟩, .string ⟨#[101, 118, 101, 114, 121]⟩] 9)), u.w.cell? ⟨w.heap.size, 5, none⟩ = some (.slice (some ⟨g, og, none⟩) l2 l3) := fun u => u.cell (cell_of hb1 5)
  have ew : ∀ u : Ext ((w.alloc (.cells #[.int .i64 k, .slice n1 n2 n3, .int .i64 so, .int .i64 nn, .int .i64 mm, .slice (some ⟨g, og, none⟩) l2 l3] 54)).alloc (.cells #[.string ⟨#[116, 114, 117, 101]⟩, .string ⟨#[102, 97, 108, 115, 101]⟩, .string ⟨#[61]⟩, .string ⟨#[105, 110]⟩, .string ⟨#[115, 117, 98]⟩, .string ⟨#[97, 100, 106]⟩, .string ⟨#[111, 110]⟩, .string ⟨#[]⟩, .string ⟨#[]⟩, .string ⟨#[]⟩, .string ⟨#[]⟩, .string ⟨#[110, 111, 116]⟩, .string ⟨#[97, 110, 100]⟩, .string ⟨#[111, 114]⟩, .string ⟨#[105, 109, 112, 108, 105, 101, 115]⟩, .string ⟨#[105, 102, 102]⟩, .string ⟨#[115, 111, 109, 101]⟩, .string ⟨#[101, 118, 101, 114, 121]⟩] 9)), u.w.cell? ⟨w.heap.size + 1, k, none⟩ = some (.string ⟨W.toArray⟩) := fun u => u.cell hc
  unfold NdsV NdsV NdsV at hx
  obtain ⟨⟨_, _, _, _, _, _, ac0, ac1, ac2, ac3, ac4, ac5, an⟩, ⟨_, _, _, _, _, _, bc0, bc1, bc2, bc3, bc4, bc5, bn⟩, -⟩ := hx
  obtain ⟨ao, an1, an2, an3, aso, am, aq, al1, al2, al3, ae⟩ := an.six
  simp only [Value.agg.injEq, Array.mk.injEq, List.cons.injEq, and_true] at ae
  obtain ⟨rfl, rfl, rfl, rfl, rfl, rfl⟩ := ae
  have af0 : ∀ u : Ext ((w.alloc (.cells #[.int .i64 k, .slice n1 n2 n3, .int .i64 so, .int .i64 nn, .int .i64 mm, .slice (some ⟨g, og, none⟩) l2 l3] 54)).alloc (.cells #[.string ⟨#[116, 114, 117, 101]⟩, .string ⟨#[102, 97, 108, 115, 101]⟩, .string ⟨#[61]⟩, .string ⟨#[105, 110]⟩, .string ⟨#[115, 117, 98]⟩, .string ⟨#[97, 100, 106]⟩, .string ⟨#[111, 110]⟩, .string ⟨#[]⟩, .string ⟨#[]⟩, .string ⟨#[]⟩, .string ⟨#[]⟩, .string ⟨#[110, 111, 116]⟩, .string ⟨#[97, 110, 100]⟩, .string ⟨#[111, 114]⟩, .string ⟨#[105, 109, 112, 108, 105, 101, 115]⟩, .string ⟨#[105, 102, 102]⟩, .string ⟨#[115, 111, 109, 101]⟩, .string ⟨#[101, 118, 101, 114, 121]⟩] 9)), u.w.cell? ⟨g, og, none⟩ = some _ := fun u => u.cell ((hu2.cell (p := ⟨g, og, none⟩) (World.block_lt_of_cell? w _ ac0) (by simp)).trans ac0)
  have af1 : ∀ u : Ext ((w.alloc (.cells #[.int .i64 k, .slice n1 n2 n3, .int .i64 so, .int .i64 nn, .int .i64 mm, .slice (some ⟨g, og, none⟩) l2 l3] 54)).alloc (.cells #[.string ⟨#[116, 114, 117, 101]⟩, .string ⟨#[102, 97, 108, 115, 101]⟩, .string ⟨#[61]⟩, .string ⟨#[105, 110]⟩, .string ⟨#[115, 117, 98]⟩, .string ⟨#[97, 100, 106]⟩, .string ⟨#[111, 110]⟩, .string ⟨#[]⟩, .string ⟨#[]⟩, .string ⟨#[]⟩, .string ⟨#[]⟩, .string ⟨#[110, 111, 116]⟩, .string ⟨#[97, 110, 100]⟩, .string ⟨#[111, 114]⟩, .string ⟨#[105, 109, 112, 108, 105, 101, 115]⟩, .string ⟨#[105, 102, 102]⟩, .string ⟨#[115, 111, 109, 101]⟩, .string ⟨#[101, 118, 101, 114, 121]⟩] 9)), u.w.cell? ⟨g, og + 1, none⟩ = some _ := fun u => u.cell ((hu2.cell (p := ⟨g, og + 1, none⟩) (World.block_lt_of_cell? w _ ac1) (by simp)).trans ac1)
  have af2 : ∀ u : Ext ((w.alloc (.cells #[.int .i64 k, .slice n1 n2 n3, .int .i64 so, .int .i64 nn, .int .i64 mm, .slice (some ⟨g, og, none⟩) l2 l3] 54)).alloc (.cells #[.string ⟨#[116, 114, 117, 101]⟩, .string ⟨#[102, 97, 108, 115, 101]⟩, .string ⟨#[61]⟩, .string ⟨#[105, 110]⟩, .string ⟨#[115, 117, 98]⟩, .string ⟨#[97, 100, 106]⟩, .string ⟨#[111, 110]⟩, .string ⟨#[]⟩, .string ⟨#[]⟩, .string ⟨#[]⟩, .string ⟨#[]⟩, .string ⟨#[110, 111, 116]⟩, .string ⟨#[97, 110, 100]⟩, .string ⟨#[111, 114]⟩, .string ⟨#[105, 109, 112, 108, 105, 101, 115]⟩, .string ⟨#[105, 102, 102]⟩, .string ⟨#[115, 111, 109, 101]⟩, .string ⟨#[101, 118, 101, 114, 121]⟩] 9)), u.w.cell? ⟨g, og + 2, none⟩ = some _ := fun u => u.cell ((hu2.cell (p := ⟨g, og + 2, none⟩) (World.block_lt_of_cell? w _ ac2) (by simp)).trans ac2)
  have af3 : ∀ u : Ext ((w.alloc (.cells #[.int .i64 k, .slice n1 n2 n3, .int .i64 so, .int .i64 nn, .int .i64 mm, .slice (some ⟨g, og, none⟩) l2 l3] 54)).alloc (.cells #[.string ⟨#[116, 114, 117, 101]⟩, .string ⟨#[102, 97, 108, 115, 101]⟩, .string ⟨#[61]⟩, .string ⟨#[105, 110]⟩, .string ⟨#[115, 117, 98]⟩, .string ⟨#[97, 100, 106]⟩, .string ⟨#[111, 110]⟩, .string ⟨#[]⟩, .string ⟨#[]⟩, .string ⟨#[]⟩, .string ⟨#[]⟩, .string ⟨#[110, 111, 116]⟩, .string ⟨#[97, 110, 100]⟩, .string ⟨#[111, 114]⟩, .string ⟨#[105, 109, 112, 108, 105, 101, 115]⟩, .string ⟨#[105, 102, 102]⟩, .string ⟨#[115, 111, 109, 101]⟩, .string ⟨#[101, 118, 101, 114, 121]⟩] 9)), u.w.cell? ⟨g, og + 3, none⟩ = some _ := fun u => u.cell ((hu2.cell (p := ⟨g, og + 3, none⟩) (World.block_lt_of_cell? w _ ac3) (by simp)).trans ac3)
  have af4 : ∀ u : Ext ((w.alloc (.cells #[.int .i64 k, .slice n1 n2 n3, .int .i64 so, .int .i64 nn, .int .i64 mm, .slice (some ⟨g, og, none⟩) l2 l3] 54)).alloc (.cells #[.string ⟨#[116, 114, 117, 101]⟩, .string ⟨#[102, 97, 108, 115, 101]⟩, .string ⟨#[61]⟩, .string ⟨#[105, 110]⟩, .string ⟨#[115, 117, 98]⟩, .string ⟨#[97, 100, 106]⟩, .string ⟨#[111, 110]⟩, .string ⟨#[]⟩, .string ⟨#[]⟩, .string ⟨#[]⟩, .string ⟨#[]⟩, .string ⟨#[110, 111, 116]⟩, .string ⟨#[97, 110, 100]⟩, .string ⟨#[111, 114]⟩, .string ⟨#[105, 109, 112, 108, 105, 101, 115]⟩, .string ⟨#[105, 102, 102]⟩, .string ⟨#[115, 111, 109, 101]⟩, .string ⟨#[101, 118, 101, 114, 121]⟩] 9)), u.w.cell? ⟨g, og + 4, none⟩ = some _ := fun u => u.cell ((hu2.cell (p := ⟨g, og + 4, none⟩) (World.block_lt_of_cell? w _ ac4) (by simp)).trans ac4)
  have af5 : ∀ u : Ext ((w.alloc (.cells #[.int .i64 k, .slice n1 n2 n3, .int .i64 so, .int .i64 nn, .int .i64 mm, .slice (some ⟨g, og, none⟩) l2 l3] 54)).alloc (.cells #[.string ⟨#[116, 114, 117, 101]⟩, .string ⟨#[102, 97, 108, 115, 101]⟩, .string ⟨#[61]⟩, .string ⟨#[105, 110]⟩, .string ⟨#[115, 117, 98]⟩, .string ⟨#[97, 100, 106]⟩, .string ⟨#[111, 110]⟩, .string ⟨#[]⟩, .string ⟨#[]⟩, .string ⟨#[]⟩, .string ⟨#[]⟩, .string ⟨#[110, 111, 116]⟩, .string ⟨#[97, 110, 100]⟩, .string ⟨#[111, 114]⟩, .string ⟨#[105, 109, 112, 108, 105, 101, 115]⟩, .string ⟨#[105, 102, 102]⟩, .string ⟨#[115, 111, 109, 101]⟩, .string ⟨#[101, 118, 101, 114, 121]⟩] 9)), u.w.cell? ⟨g, og + 5, none⟩ = some _ := fun u => u.cell ((hu2.cell (p := ⟨g, og + 5, none⟩) (World.block_lt_of_cell? w _ ac5) (by simp)).trans ac5)
  have aN := Lib.hid (an.ext hu2)
  obtain ⟨bo, bn1, bn2, bn3, bso, bm, bq, bl1, bl2, bl3, be⟩ := bn.six
  simp only [Value.agg.injEq, Array.mk.injEq, List.cons.injEq, and_true] at be
  obtain ⟨rfl, rfl, rfl, rfl, rfl, rfl⟩ := be
  have bf0 : ∀ u : Ext ((w.alloc (.cells #[.int .i64 k, .slice n1 n2 n3, .int .i64 so, .int .i64 nn, .int .i64 mm, .slice (some ⟨g, og, none⟩) l2 l3] 54)).alloc (.cells #[.string ⟨#[116, 114, 117, 101]⟩, .string ⟨#[102, 97, 108, 115, 101]⟩, .string ⟨#[61]⟩, .string ⟨#[105, 110]⟩, .string ⟨#[115, 117, 98]⟩, .string ⟨#[97, 100, 106]⟩, .string ⟨#[111, 110]⟩, .string ⟨#[]⟩, .string ⟨#[]⟩, .string ⟨#[]⟩, .string ⟨#[]⟩, .string ⟨#[110, 111, 116]⟩, .string ⟨#[97, 110, 100]⟩, .string ⟨#[111, 114]⟩, .string ⟨#[105, 109, 112, 108, 105, 101, 115]⟩, .string ⟨#[105, 102, 102]⟩, .string ⟨#[115, 111, 109, 101]⟩, .string ⟨#[101, 118, 101, 114, 121]⟩] 9)), u.w.cell? ⟨g, og + 6, none⟩ = some _ := fun u => u.cell ((hu2.cell (p := ⟨g, og + 6, none⟩) (World.block_lt_of_cell? w _ bc0) (by simp)).trans bc0)
  have bf1 : ∀ u : Ext ((w.alloc (.cells #[.int .i64 k, .slice n1 n2 n3, .int .i64 so, .int .i64 nn, .int .i64 mm, .slice (some ⟨g, og, none⟩) l2 l3] 54)).alloc (.cells #[.string ⟨#[116, 114, 117, 101]⟩, .string ⟨#[102, 97, 108, 115, 101]⟩, .string ⟨#[61]⟩, .string ⟨#[105, 110]⟩, .string ⟨#[115, 117, 98]⟩, .string ⟨#[97, 100, 106]⟩, .string ⟨#[111, 110]⟩, .string ⟨#[]⟩, .string ⟨#[]⟩, .string ⟨#[]⟩, .string ⟨#[]⟩, .string ⟨#[110, 111, 116]⟩, .string ⟨#[97, 110, 100]⟩, .string ⟨#[111, 114]⟩, .string ⟨#[105, 109, 112, 108, 105, 101, 115]⟩, .string ⟨#[105, 102, 102]⟩, .string ⟨#[115, 111, 109, 101]⟩, .string ⟨#[101, 118, 101, 114, 121]⟩] 9)), u.w.cell? ⟨g, og + 6 + 1, none⟩ = some _ := fun u => u.cell ((hu2.cell (p := ⟨g, og + 6 + 1, none⟩) (World.block_lt_of_cell? w _ bc1) (by simp)).trans bc1)
  have bf2 : ∀ u : Ext ((w.alloc (.cells #[.int .i64 k, .slice n1 n2 n3, .int .i64 so, .int .i64 nn, .int .i64 mm, .slice (some ⟨g, og, none⟩) l2 l3] 54)).alloc (.cells #[.string ⟨#[116, 114, 117, 101]⟩, .string ⟨#[102, 97, 108, 115, 101]⟩, .string ⟨#[61]⟩, .string ⟨#[105, 110]⟩, .string ⟨#[115, 117, 98]⟩, .string ⟨#[97, 100, 106]⟩, .string ⟨#[111, 110]⟩, .string ⟨#[]⟩, .string ⟨#[]⟩, .string ⟨#[]⟩, .string ⟨#[]⟩, .string ⟨#[110, 111, 116]⟩, .string ⟨#[97, 110, 100]⟩, .string ⟨#[111, 114]⟩, .string ⟨#[105, 109, 112, 108, 105, 101, 115]⟩, .string ⟨#[105, 102, 102]⟩, .string ⟨#[115, 111, 109, 101]⟩, .string ⟨#[101, 118, 101, 114, 121]⟩] 9)), u.w.cell? ⟨g, og + 6 + 2, none⟩ = some _ := fun u => u.cell ((hu2.cell (p := ⟨g, og + 6 + 2, none⟩) (World.block_lt_of_cell? w _ bc2) (by simp)).trans bc2)
  have bf3 : ∀ u : Ext ((w.alloc (.cells #[.int .i64 k, .slice n1 n2 n3, .int .i64 so, .int .i64 nn, .int .i64 mm, .slice (some ⟨g, og, none⟩) l2 l3] 54)).alloc (.cells #[.string ⟨#[116, 114, 117, 101]⟩, .string ⟨#[102, 97, 108, 115, 101]⟩, .string ⟨#[61]⟩, .string ⟨#[105, 110]⟩, .string ⟨#[115, 117, 98]⟩, .string ⟨#[97, 100, 106]⟩, .string ⟨#[111, 110]⟩, .string ⟨#[]⟩, .string ⟨#[]⟩, .string ⟨#[]⟩, .string ⟨#[]⟩, .string ⟨#[110, 111, 116]⟩, .string ⟨#[97, 110, 100]⟩, .string ⟨#[111, 114]⟩, .string ⟨#[105, 109, 112, 108, 105, 101, 115]⟩, .string ⟨#[105, 102, 102]⟩, .string ⟨#[115, 111, 109, 101]⟩, .string ⟨#[101, 118, 101, 114, 121]⟩] 9)), u.w.cell? ⟨g, og + 6 + 3, none⟩ = some _ := fun u => u.cell ((hu2.cell (p := ⟨g, og + 6 + 3, none⟩) (World.block_lt_of_cell? w _ bc3) (by simp)).trans bc3)
  have bf4 : ∀ u : Ext ((w.alloc (.cells #[.int .i64 k, .slice n1 n2 n3, .int .i64 so, .int .i64 nn, .int .i64 mm, .slice (some ⟨g, og, none⟩) l2 l3] 54)).alloc (.cells #[.string ⟨#[116, 114, 117, 101]⟩, .string ⟨#[102, 97, 108, 115, 101]⟩, .string ⟨#[61]⟩, .string ⟨#[105, 110]⟩, .string ⟨#[115, 117, 98]⟩, .string ⟨#[97, 100, 106]⟩, .string ⟨#[111, 110]⟩, .string ⟨#[]⟩, .string ⟨#[]⟩, .string ⟨#[]⟩, .string ⟨#[]⟩, .string ⟨#[110, 111, 116]⟩, .string ⟨#[97, 110, 100]⟩, .string ⟨#[111, 114]⟩, .string ⟨#[105, 109, 112, 108, 105, 101, 115]⟩, .string ⟨#[105, 102, 102]⟩, .string ⟨#[115, 111, 109, 101]⟩, .string ⟨#[101, 118, 101, 114, 121]⟩] 9)), u.w.cell? ⟨g, og + 6 + 4, none⟩ = some _ := fun u => u.cell ((hu2.cell (p := ⟨g, og + 6 + 4, none⟩) (World.block_lt_of_cell? w _ bc4) (by simp)).trans bc4)
  have bf5 : ∀ u : Ext ((w.alloc (.cells #[.int .i64 k, .slice n1 n2 n3, .int .i64 so, .int .i64 nn, .int .i64 mm, .slice (some ⟨g, og, none⟩) l2 l3] 54)).alloc (.cells #[.string ⟨#[116, 114, 117, 101]⟩, .string ⟨#[102, 97, 108, 115, 101]⟩, .string ⟨#[61]⟩, .string ⟨#[105, 110]⟩, .string ⟨#[115, 117, 98]⟩, .string ⟨#[97, 100, 106]⟩, .string ⟨#[111, 110]⟩, .string ⟨#[]⟩, .string ⟨#[]⟩, .string ⟨#[]⟩, .string ⟨#[]⟩, .string ⟨#[110, 111, 116]⟩, .string ⟨#[97, 110, 100]⟩, .string ⟨#[111, 114]⟩, .string ⟨#[105, 109, 112, 108, 105, 101, 115]⟩, .string ⟨#[105, 102, 102]⟩, .string ⟨#[115, 111, 109, 101]⟩, .string ⟨#[101, 118, 101, 114, 121]⟩] 9)), u.w.cell? ⟨g, og + 6 + 5, none⟩ = some _ := fun u => u.cell ((hu2.cell (p := ⟨g, og + 6 + 5, none⟩) (World.block_lt_of_cell? w _ bc5) (by simp)).trans bc5)
  have bN := Lib.hid (bn.ext hu2)
  have HA := Lib.hid ha
  have HB := Lib.hid hb
  have lW : W.length ≤ 10 := by
    have hk : k = 2 ∨ k = 3 ∨ k = 4 ∨ k = 5 ∨ k = 6 ∨ k = 7 ∨ k = 8 ∨ k = 9 ∨ k = 10 ∨ k = 11 ∨ k = 12 ∨ k = 13 ∨ k = 14 ∨ k = 15 ∨ k = 16 ∨ k = 17 := by omega
    rcases hk with rfl | rfl | rfl | rfl | rfl | rfl | rfl | rfl | rfl | rfl | rfl | rfl | rfl | rfl | rfl | rfl <;> (cases hW; simp)
  have sm0 : 1 + sa.length ≤ 9223372036854775807 := by omega
  have sm1 : 1 + sa.length + 2 ≤ 9223372036854775807 := by omega
  have sm2 : 1 + sa.length + 2 + W.length ≤ 9223372036854775807 := by omega
  have sm3 : 1 + sa.length + 2 + W.length + 2 ≤ 9223372036854775807 := by omega
  have sm4 : 1 + sa.length + 2 + W.length + 2 + sb.length ≤ 9223372036854775807 := by omega
  have sm5 : 1 + sa.length + 2 + W.length + 2 + sb.length + 1 ≤ 9223372036854775807 := by omega
  clear hu2 hb1 hb2 hc hW ha hb an bn ac0 ac1 ac2 ac3 ac4 ac5 bc0 bc1 bc2 bc3 bc4 bc5
  go_enter Tryd.func49, Tryd.ntmps49
  go_wp2_with fail
  refine wp_region_seg_all [4, 18] [] [0, 1, 2, 3, 4, 5, 6, 7, 8, 9, 10, 11, 12, 13, 14, 15, 16, 17, 18, 19, 20, 21] (by kernel_rfl) (by kernel_rfl) ?_
  refine seg_plain rfl rfl rfl rfl rfl ?_
  intro K' hK'
  go_big_quiet_op
  go_big_quiet_on
  refine seg_plain rfl rfl rfl rfl rfl ?_
  intro K' hK'
  go_big_quiet_op
  go_big_quiet_on
  refine seg_plain rfl rfl rfl rfl rfl ?_
  intro K' hK'
  go_big_quiet_op
  go_big_quiet_on
  refine seg_plain rfl rfl rfl rfl rfl ?_
  intro K' hK'
  go_big_quiet_op
  go_big_quiet_on
  refine seg_call rfl rfl rfl rfl (fun w => by go_simp) (fun w hu hd => (HA.out _ _ (HU2.out.trans_ext hu) (aN.out.ext hu)).mono fun e w' h => ⟨h.1, h.2⟩) ?_
  simp only [Act.put, List.setIfInBounds_toArray, List.set_cons_zero, List.set_cons_succ]
  refine seg_plain rfl rfl rfl rfl rfl ?_
  intro K' hK'
  go_big_quiet_op
  go_big_quiet_on
  refine seg_plain rfl rfl rfl rfl rfl ?_
  intro K' hK'
  go_big_quiet_op
  go_big_quiet_on
  refine seg_plain rfl rfl rfl rfl rfl ?_
  intro K' hK'
  go_big_quiet_op
  go_big_quiet_on
  refine seg_plain rfl rfl rfl rfl rfl ?_
  intro K' hK'
  go_big_quiet_op
  go_big_quiet_on
  refine seg_plain rfl rfl rfl rfl rfl ?_
  intro K' hK'
  go_big_quiet_op
  go_big_quiet_on
  refine seg_plain rfl rfl rfl rfl rfl ?_
  intro K' hK'
  go_big_quiet_op
  go_big_quiet_on
  refine seg_plain rfl rfl rfl rfl rfl ?_
  intro K' hK'
  go_big_quiet_op
  go_big_quiet_on
  refine seg_plain rfl rfl rfl rfl rfl ?_
  intro K' hK'
  go_big_quiet_op
  go_big_quiet_on
  refine seg_plain rfl rfl rfl rfl rfl ?_
  intro K' hK'
  go_big_quiet_op
  go_big_quiet_on
  refine seg_plain rfl rfl rfl rfl rfl ?_
  intro K' hK'
  go_big_quiet_op
  go_big_quiet_on
  refine seg_plain rfl rfl rfl rfl rfl ?_
  intro K' hK'
  go_big_quiet_op
  go_big_quiet_on
  refine seg_plain rfl rfl rfl rfl rfl ?_
  intro K' hK'
  go_big_quiet_op
  go_big_quiet_on
  refine seg_plain rfl rfl rfl rfl rfl ?_
  intro K' hK'
  go_big_quiet_op
  go_big_quiet_on
  refine seg_call rfl rfl rfl rfl (fun w => by go_simp) (fun w hu hd => (HB.out _ _ (HU2.out.trans_ext hu) (bN.out.ext hu)).mono fun e w' h => ⟨h.1, h.2⟩) ?_
  simp only [Act.put, List.setIfInBounds_toArray, List.set_cons_zero, List.set_cons_succ]
  refine seg_plain rfl rfl rfl rfl rfl ?_
  intro K' hK'
  go_big_quiet_op
  go_big_quiet_on
  refine seg_plain rfl rfl rfl rfl rfl ?_
  intro K' hK'
  go_big_quiet_op
  go_big_quiet_on
  refine seg_plain rfl rfl rfl rfl rfl ?_
  intro K' hK'
  go_big_quiet_op
  go_big_quiet_on
  intro w9 hg
  have HU3 := Lib.hid (HU2.out.trans_ext hg.up)
  clear hg
  go_wp2_with fail
  go_ret
  exact ⟨congrArg (fun z => Ending.returned (.string z)) (show ByteArray.mk [40].toArray ++ ByteArray.mk sa.toArray ++ ByteArray.mk [41, 32].toArray ++ ByteArray.mk W.toArray ++ ByteArray.mk [32, 40].toArray ++ ByteArray.mk sb.toArray ++ ByteArray.mk [41].toArray = ⟨([40] ++ sa ++ [41, 32] ++ W ++ [32, 40] ++ sb ++ [41]).toArray⟩ by simp only [ByteArray.mk_append_mk]), HU3.out⟩


set_option maxRecDepth 100000 in
set_option maxHeartbeats 6400000 in
theorem full_quant (w : World) (k : Nat) (n2 n3 l2 l3 : Nat) (so nn mm : Int) (W : List UInt8) (hW : wordsF[k]? = some W) (hk : 16 ≤ k ∧ k < 18) (g og gn ogn : Nat) (P : Nat → Prop) (a : Nd) (x sa : List UInt8) (hl2 : 1 ≤ l2) (hn2 : 1 ≤ n2) (hy : w.cell? ⟨gn, ogn, none⟩ = some (sV x)) (hlx : x.length ≤ 1000000000000) (hly : sa.length ≤ 1000000000000) (hx : NdsV w P g og [a]) (ha : Says w P a sa) :
    Calls Tryd.prog 49 #[.agg #[.int .i64 k, .slice (some ⟨gn, ogn, none⟩) n2 n3, .int .i64 so, .int .i64 nn, .int .i64 mm, .slice (some ⟨g, og, none⟩) l2 l3]] w fun e w' => e = .returned (.string ⟨(W ++ [32] ++ sortW so ++ [32] ++ x ++ [58, 32] ++ sa).toArray⟩) ∧ Upto [] w w' := by
  have hu2 : Upto [] w ((w.alloc (.cells #[.int .i64 k, .slice (some ⟨gn, ogn, none⟩) n2 n3, .int .i64 so, .int .i64 nn, .int .i64 mm, .slice (some ⟨g, og, none⟩) l2 l3] 54)).alloc (.cells #[.string ⟨#[116, 114, 117, 101]⟩, .string ⟨#[102, 97, 108, 115, 101]⟩, .string ⟨#[61]⟩, .string ⟨#[105, 110]⟩, .string ⟨#[115, 117, 98]⟩, .string ⟨#[97, 100, 106]⟩, .string ⟨#[111, 110]⟩, .string ⟨#[]⟩, .string ⟨#[]⟩, .string ⟨#[]⟩, .string ⟨#[]⟩, .string ⟨#[110, 111, 116]⟩, .string ⟨#[97, 110, 100]⟩, .string ⟨#[111, 114]⟩, .string ⟨#[105, 109, 112, 108, 105, 101, 115]⟩, .string ⟨#[105, 102, 102]⟩, .string ⟨#[115, 111, 109, 101]⟩, .string ⟨#[101, 118, 101, 114, 121]⟩] 9)) := ((Upto.refl [] w).alloc _).alloc _
  have HU2 := Lib.hid hu2
  have hb1 := alloc_old (new_at w (.cells #[.int .i64 k, .slice (some ⟨gn, ogn, none⟩) n2 n3, .int .i64 so, .int .i64 nn, .int .i64 mm, .slice (some ⟨g, og, none⟩) l2 l3] 54)) (.cells #[.string ⟨#[116, 114, 117, 101]⟩, .string ⟨#[102, 97, 108, 115, 101]⟩, .string ⟨#[61]⟩, .string ⟨#[105, 110]⟩, .string ⟨#[115, 117, 98]⟩, .string ⟨#[97, 100, 106]⟩, .string ⟨#[111, 110]⟩, .string ⟨#[]⟩, .string ⟨#[]⟩, .string ⟨#[]⟩, .string ⟨#[]⟩, .string ⟨#[110, 111, 116]⟩, .string ⟨#[97, 110, 100]⟩, .string ⟨#[111, 114]⟩, .string ⟨#[105, 109, 112, 108, 105, 101, 115]⟩, .string ⟨#[105, 102, 102]⟩, .string ⟨#[115, 111, 109, 101]⟩, .string ⟨#[101, 118, 101, 114, 121]⟩] 9)
  have hb2 := new_at1 w (.cells #[.int .i64 k, .slice (some ⟨gn, ogn, none⟩) n2 n3, .int .i64 so, .int .i64 nn, .int .i64 mm, .slice (some ⟨g, og, none⟩) l2 l3] 54) (.cells #[.string ⟨#[116, 114, 117, 101]⟩, .string ⟨#[102, 97, 108, 115, 101]⟩, .string ⟨#[61]⟩, .string ⟨#[105, 110]⟩, .string ⟨#[115, 117, 98]⟩, .string ⟨#[97, 100, 106]⟩, .string ⟨#[111, 110]⟩, .string ⟨#[]⟩, .string ⟨#[]⟩, .string ⟨#[]⟩, .string ⟨#[]⟩, .string ⟨#[110, 111, 116]⟩, .string ⟨#[97, 110, 100]⟩, .string ⟨#[111, 114]⟩, .string ⟨#[105, 109, 112, 108, 105, 101, 115]⟩, .string ⟨#[105, 102, 102]⟩, .string ⟨#[115, 111, 109, 101]⟩, .string ⟨#[101, 118, 101, 114, 121]⟩] 9)
  have hc : ((w.alloc (.cells #[.int .i64 k, .slice (some ⟨gn, ogn, none⟩) n2 n3, .int .i64 so, .int .i64 nn, .int .i64 mm, .slice (some ⟨g, og, none⟩) l2 l3] 54)).alloc (.cells #[.string ⟨#[116, 114, 117, 101]⟩, .string ⟨#[102, 97, 108, 115, 101]⟩, .string ⟨#[61]⟩, .string ⟨#[105, 110]⟩, .string ⟨#[115, 117, 98]⟩, .string ⟨#[97, 100, 106]⟩, .string ⟨#[111, 110]⟩, .string ⟨#[]⟩, .string ⟨#[]⟩, .string ⟨#[]⟩, .string ⟨#[]⟩, .string ⟨#[110, 111, 116]⟩, .string ⟨#[97, 110, 100]⟩, .string ⟨#[111, 114]⟩, .string ⟨#[105, 109, 112, 108, 105, 101, 115]⟩, .string ⟨#[105, 102, 102]⟩, .string ⟨#[115, 111, 109, 101]⟩, .string ⟨#[101, 118, 101, 114, 121]⟩] 9)).cell? ⟨w.heap.size + 1, k, none⟩ = some (.string ⟨W.toArray⟩) := by
    rw [cell_of hb2]
    have hk : k = 2 ∨ k = 3 ∨ k = 4 ∨ k = 5 ∨ k = 6 ∨ k = 7 ∨ k = 8 ∨ k = 9 ∨ k = 10 ∨ k = 11 ∨ k = 12 ∨ k = 13 ∨ k = 14 ∨ k = 15 ∨ k = 16 ∨ k = 17 := by omega
    rcases hk with rfl | rfl | rfl | rfl | rfl | rfl | rfl | rfl | rfl | rfl | rfl | rfl | rfl | rfl | rfl | rfl <;> (cases hW; rfl)
  have q0 : ¬ ((k : Int) < 2) := by omega
  have q1 : ¬ ((k : Int) < 7) := by omega
  have q2 : ((k : Int) == 7) = false := by simp; omega
  have q3 : ((k : Int) == 8) = false := by simp; omega
  have q4 : ((k : Int) == 9) = false := by simp; omega
  have q5 : ((k : Int) == 10) = false := by simp; omega
  have q6 : ((k : Int) == 11) = false := by simp; omega
  have q7 : ¬ ((k : Int) < 16) := by omega
  have q8 : (0 : Int) < l2 := by omega
  have q9 : (0 : Int) < n2 := by omega
  have q10 : (k : Int) < 18 := by omega
  have q11 : (0 : Int) ≤ k := by omega
  have xa0 := cell_of hb1 0
  have xa1 := cell_of hb1 1
  have xa2 := cell_of hb1 2
  have xa3 := cell_of hb1 3
  have xa4 := cell_of hb1 4
  have xa5 := cell_of hb1 5
  simp only [List.getElem?_toArray, List.getElem?_cons_zero, List.getElem?_cons_succ] at xa0 xa1 xa2 xa3 xa4 xa5
  have ya0 := free_of hb1 0
  have ya1 := free_of hb1 1
  have ya2 := free_of hb1 2
  have ya3 := free_of hb1 3
  have ya4 := free_of hb1 4
  have ya5 := free_of hb1 5
  have e0 : ∀ u : Ext ((w.alloc (.cells #[.int .i64 k, .slice (some ⟨gn, ogn, none⟩) n2 n3, .int .i64 so, .int .i64 nn, .int .i64 mm, .slice (some ⟨g, og, none⟩) l2 l3] 54)).alloc (.cells #[.string ⟨#[116, 114, 117, 101]⟩, .string ⟨#[102, 97, 108, 115, 101]⟩, .string ⟨#[61]⟩, .string ⟨#[105, 110]⟩, .string ⟨#[115, 117, 98]⟩, .string ⟨#[97, 100, 106]⟩, .string ⟨#[111, 110]⟩, .string ⟨#[]⟩, .string ⟨#[]⟩, .string ⟨#[]⟩, .string ⟨#[]⟩, .string ⟨#[110, 111, 116]⟩, .string ⟨#[97, 110, 100]⟩, .string ⟨#[111, 114]⟩, .string ⟨#[105, 109, 112, 108, 105, 101, 115]⟩, .string ⟨#[105, 102, 102]⟩, .string ⟨#[115, 111, 109, 101]⟩, .string ⟨#[101, 118, 101, 114, 121]⟩] 9)), u.w.cell? ⟨w.heap.size, 0, none⟩ = some (.int .i64 k) := fun u => u.cell (cell_of hb1 0)
  have e1 : ∀ u : Ext ((w.alloc (.cells #[.int .i64 k, .slice (some ⟨gn, ogn, none⟩) n2 n3, .int .i64 so, .int .i64 nn, .int .i64 mm, .slice (some ⟨g, og, none⟩) l2 l3] 54)).alloc (.cells #[.string ⟨#[116, 114, 117, 101]⟩, .string ⟨#[102, 97, 108, 115, 101]⟩, .string ⟨#[61]⟩, .string ⟨#[105, 110]⟩, .string ⟨#[115, 117, 98]⟩, .string ⟨#[97, 100, 106]⟩, .string ⟨#[111, 110]⟩, .string ⟨#[]⟩, .string ⟨#[]⟩, .string ⟨#[]⟩, .string ⟨#[]⟩, .string ⟨#[110, 111, 116]⟩, .string ⟨#[97, 110, 100]⟩, .string ⟨#[111, 114]⟩, .string ⟨#[105, 109, 112, 108, 105, 101, 115]⟩, .string ⟨#[105, 102, 102]⟩, .string ⟨#[115, 111, 109, 101]⟩, .string ⟨#[101, 118, 101, 114, 121]⟩] 9)), u.w.cell? ⟨w.heap.size, 1, none⟩ = some (.slice (some ⟨gn, ogn, none⟩) n2 n3) := fun u => u.cell (cell_of hb1 1)
  have e2 : ∀ u : Ext ((w.alloc (.cells #[.int .i64 k, .slice (some ⟨gn, ogn, none⟩) n2 n3, .int .i64 so, .int .i64 nn, .int .i64 mm, .slice (some ⟨g, og, none⟩) l2 l3] 54)).alloc (.cells #[.string ⟨#[116, 114, 117, 101]⟩, .string ⟨#[102, 97, 108, 115, 101]⟩, .string ⟨#[61]⟩, .string ⟨#[105, 110]⟩, .string ⟨#[115, 117, 98]⟩, .string ⟨#[97, 100, 106]⟩, .string ⟨#[111, 110]⟩, .string ⟨#[]⟩, .string ⟨#[]⟩, .string ⟨#[]⟩, .string ⟨#[]⟩, .string ⟨#[110, 111, 116]⟩, .string ⟨#[97, 110, 100]⟩, .string ⟨#[111, 114]⟩, .string ⟨#[105, 109, 112, 108, 105, 101, 115]⟩, .string ⟨#[105, 102, 102]⟩, .string ⟨#[115, 111, 109, 101]⟩, .string ⟨#[101, 118, 101, 114, 121]⟩] 9)), u.w.cell? ⟨w.heap.size, 2, none⟩ = some (.int .i64 so) := fun u => u.cell (cell_of hb1 2)
  have e5 : ∀ u : Ext ((w.alloc (.cells #[.int .i64 k, .slice (some ⟨gn, ogn, none⟩) n2 n3, .int .i64 so, .int .i64 nn, .int .i64 mm, .slice (some ⟨g, og, none⟩) l2 l3] 54)).alloc (.cells #[.string ⟨#[116, 114, 117, 101]⟩, .string ⟨#[102, 97, 108, 115, 101]⟩, .string ⟨#[61]⟩, .string ⟨#[105, 110]⟩, .string ⟨#[115, 117, 98]⟩, .string ⟨#[97, 100, 106]⟩, .string ⟨#[111, 110]⟩, .string ⟨#[]⟩, .string ⟨#[]⟩, .string ⟨#[]⟩, .string ⟨#[]⟩, .string ⟨#[110, 111, 116]⟩, .string ⟨#[97, 110, 100]⟩, .string ⟨#[111, 114]⟩, .string ⟨#[105, 109, 112, 108, 105, 101, 115]⟩, .string ⟨#[105, 102, 102]⟩, .string ⟨#[115, 111, 109, 101]⟩, .string ⟨#[101, 118, 101, 114, 121]⟩] 9)), u.w.cell? ⟨w.heap.size, 5, none⟩ = some (.slice (some ⟨g, og, none⟩) l2 l3) := fun u => u.cell (cell_of hb1 5)
  have ew : ∀ u : Ext ((w.alloc (.cells #[.int .i64 k, .slice (some ⟨gn, ogn, none⟩) n2 n3, .int .i64 so, .int .i64 nn, .int .i64 mm, .slice (some ⟨g, og, none⟩) l2 l3] 54)).alloc (.cells #[.string ⟨#[116, 114, 117, 101]⟩, .string ⟨#[102, 97, 108, 115, 101]⟩, .string ⟨#[61]⟩, .string ⟨#[105, 110]⟩, .string ⟨#[115, 117, 98]⟩, .string ⟨#[97, 100, 106]⟩, .string ⟨#[111, 110]⟩, .string ⟨#[]⟩, .string ⟨#[]⟩, .string ⟨#[]⟩, .string ⟨#[]⟩, .string ⟨#[110, 111, 116]⟩, .string ⟨#[97, 110, 100]⟩, .string ⟨#[111, 114]⟩, .string ⟨#[105, 109, 112, 108, 105, 101, 115]⟩, .string ⟨#[105, 102, 102]⟩, .string ⟨#[115, 111, 109, 101]⟩, .string ⟨#[101, 118, 101, 114, 121]⟩] 9)), u.w.cell? ⟨w.heap.size + 1, k, none⟩ = some (.string ⟨W.toArray⟩) := fun u => u.cell hc
  have ex : ∀ u : Ext ((w.alloc (.cells #[.int .i64 k, .slice (some ⟨gn, ogn, none⟩) n2 n3, .int .i64 so, .int .i64 nn, .int .i64 mm, .slice (some ⟨g, og, none⟩) l2 l3] 54)).alloc (.cells #[.string ⟨#[116, 114, 117, 101]⟩, .string ⟨#[102, 97, 108, 115, 101]⟩, .string ⟨#[61]⟩, .string ⟨#[105, 110]⟩, .string ⟨#[115, 117, 98]⟩, .string ⟨#[97, 100, 106]⟩, .string ⟨#[111, 110]⟩, .string ⟨#[]⟩, .string ⟨#[]⟩, .string ⟨#[]⟩, .string ⟨#[]⟩, .string ⟨#[110, 111, 116]⟩, .string ⟨#[97, 110, 100]⟩, .string ⟨#[111, 114]⟩, .string ⟨#[105, 109, 112, 108, 105, 101, 115]⟩, .string ⟨#[105, 102, 102]⟩, .string ⟨#[115, 111, 109, 101]⟩, .string ⟨#[101, 118, 101, 114, 121]⟩] 9)), u.w.cell? ⟨gn, ogn, none⟩ = some (.string ⟨x.toArray⟩) := fun u => u.cell ((hu2.cell (p := ⟨gn, ogn, none⟩) (World.block_lt_of_cell? w _ hy) (by simp)).trans hy)
  unfold NdsV NdsV at hx
  obtain ⟨⟨_, _, _, _, _, _, ac0, ac1, ac2, ac3, ac4, ac5, an⟩, -⟩ := hx
  obtain ⟨ao, an1, an2, an3, aso, am, aq, al1, al2, al3, ae⟩ := an.six
  simp only [Value.agg.injEq, Array.mk.injEq, List.cons.injEq, and_true] at ae
  obtain ⟨rfl, rfl, rfl, rfl, rfl, rfl⟩ := ae
  have af0 : ∀ u : Ext ((w.alloc (.cells #[.int .i64 k, .slice (some ⟨gn, ogn, none⟩) n2 n3, .int .i64 so, .int .i64 nn, .int .i64 mm, .slice (some ⟨g, og, none⟩) l2 l3] 54)).alloc (.cells #[.string ⟨#[116, 114, 117, 101]⟩, .string ⟨#[102, 97, 108, 115, 101]⟩, .string ⟨#[61]⟩, .string ⟨#[105, 110]⟩, .string ⟨#[115, 117, 98]⟩, .string ⟨#[97, 100, 106]⟩, .string ⟨#[111, 110]⟩, .string ⟨#[]⟩, .string ⟨#[]⟩, .string ⟨#[]⟩, .string ⟨#[]⟩, .string ⟨#[110, 111, 116]⟩, .string ⟨#[97, 110, 100]⟩, .string ⟨#[111, 114]⟩, .string ⟨#[105, 109, 112, 108, 105, 101, 115]⟩, .string ⟨#[105, 102, 102]⟩, .string ⟨#[115, 111, 109, 101]⟩, .string ⟨#[101, 118, 101, 114, 121]⟩] 9)), u.w.cell? ⟨g, og, none⟩ = some _ := fun u => u.cell ((hu2.cell (p := ⟨g, og, none⟩) (World.block_lt_of_cell? w _ ac0) (by simp)).trans ac0)
  have af1 : ∀ u : Ext ((w.alloc (.cells #[.int .i64 k, .slice (some ⟨gn, ogn, none⟩) n2 n3, .int .i64 so, .int .i64 nn, .int .i64 mm, .slice (some ⟨g, og, none⟩) l2 l3] 54)).alloc (.cells #[.string ⟨#[116, 114, 117, 101]⟩, .string ⟨#[102, 97, 108, 115, 101]⟩, .string ⟨#[61]⟩, .string ⟨#[105, 110]⟩, .string ⟨#[115, 117, 98]⟩, .string ⟨#[97, 100, 106]⟩, .string ⟨#[111, 110]⟩, .string ⟨#[]⟩, .string ⟨#[]⟩, .string ⟨#[]⟩, .string ⟨#[]⟩, .string ⟨#[110, 111, 116]⟩, .string ⟨#[97, 110, 100]⟩, .string ⟨#[111, 114]⟩, .string ⟨#[105, 109, 112, 108, 105, 101, 115]⟩, .string ⟨#[105, 102, 102]⟩, .string ⟨#[115, 111, 109, 101]⟩, .string ⟨#[101, 118, 101, 114, 121]⟩] 9)), u.w.cell? ⟨g, og + 1, none⟩ = some _ := fun u => u.cell ((hu2.cell (p := ⟨g, og + 1, none⟩) (World.block_lt_of_cell? w _ ac1) (by simp)).trans ac1)
  have af2 : ∀ u : Ext ((w.alloc (.cells #[.int .i64 k, .slice (some ⟨gn, ogn, none⟩) n2 n3, .int .i64 so, .int .i64 nn, .int .i64 mm, .slice (some ⟨g, og, none⟩) l2 l3] 54)).alloc (.cells #[.string ⟨#[116, 114, 117, 101]⟩, .string ⟨#[102, 97, 108, 115, 101]⟩, .string ⟨#[61]⟩, .string ⟨#[105, 110]⟩, .string ⟨#[115, 117, 98]⟩, .string ⟨#[97, 100, 106]⟩, .string ⟨#[111, 110]⟩, .string ⟨#[]⟩, .string ⟨#[]⟩, .string ⟨#[]⟩, .string ⟨#[]⟩, .string ⟨#[110, 111, 116]⟩, .string ⟨#[97, 110, 100]⟩, .string ⟨#[111, 114]⟩, .string ⟨#[105, 109, 112, 108, 105, 101, 115]⟩, .string ⟨#[105, 102, 102]⟩, .string ⟨#[115, 111, 109, 101]⟩, .string ⟨#[101, 118, 101, 114, 121]⟩] 9)), u.w.cell? ⟨g, og + 2, none⟩ = some _ := fun u => u.cell ((hu2.cell (p := ⟨g, og + 2, none⟩) (World.block_lt_of_cell? w _ ac2) (by simp)).trans ac2)
  have af3 : ∀ u : Ext ((w.alloc (.cells #[.int .i64 k, .slice (some ⟨gn, ogn, none⟩) n2 n3, .int .i64 so, .int .i64 nn, .int .i64 mm, .slice (some ⟨g, og, none⟩) l2 l3] 54)).alloc (.cells #[.string ⟨#[116, 114, 117, 101]⟩, .string ⟨#[102, 97, 108, 115, 101]⟩, .string ⟨#[61]⟩, .string ⟨#[105, 110]⟩, .string ⟨#[115, 117, 98]⟩, .string ⟨#[97, 100, 106]⟩, .string ⟨#[111, 110]⟩, .string ⟨#[]⟩, .string ⟨#[]⟩, .string ⟨#[]⟩, .string ⟨#[]⟩, .string ⟨#[110, 111, 116]⟩, .string ⟨#[97, 110, 100]⟩, .string ⟨#[111, 114]⟩, .string ⟨#[105, 109, 112, 108, 105, 101, 115]⟩, .string ⟨#[105, 102, 102]⟩, .string ⟨#[115, 111, 109, 101]⟩, .string ⟨#[101, 118, 101, 114, 121]⟩] 9)), u.w.cell? ⟨g, og + 3, none⟩ = some _ := fun u => u.cell ((hu2.cell (p := ⟨g, og + 3, none⟩) (World.block_lt_of_cell? w _ ac3) (by simp)).trans ac3)
  have af4 : ∀ u : Ext ((w.alloc (.cells #[.int .i64 k, .slice (some ⟨gn, ogn, none⟩) n2 n3, .int .i64 so, .int .i64 nn, .int .i64 mm, .slice (some ⟨g, og, none⟩) l2 l3] 54)).alloc (.cells #[.string ⟨#[116, 114, 117, 101]⟩, .string ⟨#[102, 97, 108, 115, 101]⟩, .string ⟨#[61]⟩, .string ⟨#[105, 110]⟩, .string ⟨#[115, 117, 98]⟩, .string ⟨#[97, 100, 106]⟩, .string ⟨#[111, 110]⟩, .string ⟨#[]⟩, .string ⟨#[]⟩, .string ⟨#[]⟩, .string ⟨#[]⟩, .string ⟨#[110, 111, 116]⟩, .string ⟨#[97, 110, 100]⟩, .string ⟨#[111, 114]⟩, .string ⟨#[105, 109, 112, 108, 105, 101, 115]⟩, .string ⟨#[105, 102, 102]⟩, .string ⟨#[115, 111, 109, 101]⟩, .string ⟨#[101, 118, 101, 114, 121]⟩] 9)), u.w.cell? ⟨g, og + 4, none⟩ = some _ := fun u => u.cell ((hu2.cell (p := ⟨g, og + 4, none⟩) (World.block_lt_of_cell? w _ ac4) (by simp)).trans ac4)
  have af5 : ∀ u : Ext ((w.alloc (.cells #[.int .i64 k, .slice (some ⟨gn, ogn, none⟩) n2 n3, .int .i64 so, .int .i64 nn, .int .i64 mm, .slice (some ⟨g, og, none⟩) l2 l3] 54)).alloc (.cells #[.string ⟨#[116, 114, 117, 101]⟩, .string ⟨#[102, 97, 108, 115, 101]⟩, .string ⟨#[61]⟩, .string ⟨#[105, 110]⟩, .string ⟨#[115, 117, 98]⟩, .string ⟨#[97, 100, 106]⟩, .string ⟨#[111, 110]⟩, .string ⟨#[]⟩, .string ⟨#[]⟩, .string ⟨#[]⟩, .string ⟨#[]⟩, .string ⟨#[110, 111, 116]⟩, .string ⟨#[97, 110, 100]⟩, .string ⟨#[111, 114]⟩, .string ⟨#[105, 109, 112, 108, 105, 101, 115]⟩, .string ⟨#[105, 102, 102]⟩, .string ⟨#[115, 111, 109, 101]⟩, .string ⟨#[101, 118, 101, 114, 121]⟩] 9)), u.w.cell? ⟨g, og + 5, none⟩ = some _ := fun u => u.cell ((hu2.cell (p := ⟨g, og + 5, none⟩) (World.block_lt_of_cell? w _ ac5) (by simp)).trans ac5)
  have aN := Lib.hid (an.ext hu2)
  have HA := Lib.hid ha
  have lW : W.length ≤ 10 := by
    have hk : k = 2 ∨ k = 3 ∨ k = 4 ∨ k = 5 ∨ k = 6 ∨ k = 7 ∨ k = 8 ∨ k = 9 ∨ k = 10 ∨ k = 11 ∨ k = 12 ∨ k = 13 ∨ k = 14 ∨ k = 15 ∨ k = 16 ∨ k = 17 := by omega
    rcases hk with rfl | rfl | rfl | rfl | rfl | rfl | rfl | rfl | rfl | rfl | rfl | rfl | rfl | rfl | rfl | rfl <;> (cases hW; simp)
  have lS : (sortW so).length ≤ 10 := by unfold sortW; split; simp; split; simp; split; simp; split <;> simp
  have sm0 : W.length + 1 ≤ 9223372036854775807 := by omega
  have sm1 : W.length + 1 + (sortW so).length ≤ 9223372036854775807 := by omega
  have sm2 : W.length + 1 + (sortW so).length + 1 ≤ 9223372036854775807 := by omega
  have sm3 : W.length + 1 + (sortW so).length + 1 + x.length ≤ 9223372036854775807 := by omega
  have sm4 : W.length + 1 + (sortW so).length + 1 + x.length + 2 ≤ 9223372036854775807 := by omega
  have sm5 : W.length + 1 + (sortW so).length + 1 + x.length + 2 + sa.length ≤ 9223372036854775807 := by omega
  clear hu2 hb1 hb2 hc hW ha an ac0 ac1 ac2 ac3 ac4 ac5 hy
  go_enter Tryd.func49, Tryd.ntmps49
  go_wp2_with fail
  refine wp_region_seg_all [8, 21] [] [0, 1, 2, 3, 4, 5, 6, 7, 8, 9, 10, 11, 12, 13, 14, 15, 16, 17, 18, 19, 20, 21, 22, 23] (by kernel_rfl) (by kernel_rfl) ?_
  refine seg_plain rfl rfl rfl rfl rfl ?_
  intro K' hK'
  go_big_quiet_op
  go_big_quiet_on
  refine seg_plain rfl rfl rfl rfl rfl ?_
  intro K' hK'
  go_big_quiet_op
  go_big_quiet_on
  refine seg_plain rfl rfl rfl rfl rfl ?_
  intro K' hK'
  go_big_quiet_op
  go_big_quiet_on
  refine seg_plain rfl rfl rfl rfl rfl ?_
  intro K' hK'
  go_big_quiet_op
  go_big_quiet_on
  refine seg_plain rfl rfl rfl rfl rfl ?_
  intro K' hK'
  go_big_quiet_op
  go_big_quiet_on
  refine seg_plain rfl rfl rfl rfl rfl ?_
  intro K' hK'
  go_big_quiet_op
  go_big_quiet_on
  refine seg_plain rfl rfl rfl rfl rfl ?_
  intro K' hK'
  go_big_quiet_op
  go_big_quiet_on
  refine seg_plain rfl rfl rfl rfl rfl ?_
  intro K' hK'
  go_big_quiet_op
  go_big_quiet_on
  refine seg_call rfl rfl rfl rfl (fun w => by go_simp) (fun w hu hd => (sorted_calls so w).mono fun e w' h => ⟨h.1, h.2⟩) ?_
  simp only [Act.put, List.setIfInBounds_toArray, List.set_cons_zero, List.set_cons_succ]
  refine seg_plain rfl rfl rfl rfl rfl ?_
  intro K' hK'
  go_big_quiet_op
  go_big_quiet_on
  refine seg_plain rfl rfl rfl rfl rfl ?_
  intro K' hK'
  go_big_quiet_op
  go_big_quiet_on
  refine seg_plain rfl rfl rfl rfl rfl ?_
  intro K' hK'
  go_big_quiet_op
  go_big_quiet_on
  refine seg_plain rfl rfl rfl rfl rfl ?_
  intro K' hK'
  go_big_quiet_op
  go_big_quiet_on
  refine seg_plain rfl rfl rfl rfl rfl ?_
  intro K' hK'
  go_big_quiet_op
  go_big_quiet_on
  refine seg_plain rfl rfl rfl rfl rfl ?_
  intro K' hK'
  go_big_quiet_op
  go_big_quiet_on
  refine seg_plain rfl rfl rfl rfl rfl ?_
  intro K' hK'
  go_big_quiet_op
  go_big_quiet_on
  refine seg_plain rfl rfl rfl rfl rfl ?_
  intro K' hK'
  go_big_quiet_op
  go_big_quiet_on
  refine seg_plain rfl rfl rfl rfl rfl ?_
  intro K' hK'
  go_big_quiet_op
  go_big_quiet_on
  refine seg_plain rfl rfl rfl rfl rfl ?_
  intro K' hK'
  go_big_quiet_op
  go_big_quiet_on
  refine seg_plain rfl rfl rfl rfl rfl ?_
  intro K' hK'
  go_big_quiet_op
  go_big_quiet_on
  refine seg_plain rfl rfl rfl rfl rfl ?_
  intro K' hK'
  go_big_quiet_op
  go_big_quiet_on
  refine seg_call rfl rfl rfl rfl (fun w => by go_simp) (fun w hu hd => (HA.out _ _ (HU2.out.trans_ext hu) (aN.out.ext hu)).mono fun e w' h => ⟨h.1, h.2⟩) ?_
  simp only [Act.put, List.setIfInBounds_toArray, List.set_cons_zero, List.set_cons_succ]
  refine seg_plain rfl rfl rfl rfl rfl ?_
  intro K' hK'
  go_big_quiet_op
  go_big_quiet_on
  refine seg_plain rfl rfl rfl rfl rfl ?_
  intro K' hK'
  go_big_quiet_op
  go_big_quiet_on
  intro w9 hg
  have HU3 := Lib.hid (HU2.out.trans_ext hg.up)
  clear hg
  go_wp2_with fail
  go_ret
  exact ⟨congrArg (fun z => Ending.returned (.string z)) (show ByteArray.mk W.toArray ++ ByteArray.mk [32].toArray ++ ByteArray.mk (sortW so).toArray ++ ByteArray.mk [32].toArray ++ ByteArray.mk x.toArray ++ ByteArray.mk [58, 32].toArray ++ ByteArray.mk sa.toArray = ⟨(W ++ [32] ++ (sortW so) ++ [32] ++ x ++ [58, 32] ++ sa).toArray⟩ by simp only [ByteArray.mk_append_mk]), HU3.out⟩

end Go.Proofs.YtkhbpebpljdifaaDoor

/- The reference's full text of a formula: Full. -/
namespace Go.Proofs.YtkhbpebpljdifaaDoor
open Go.RowKit Go.PL Go.Maps

theorem word_at (k : Nat) (h : k < 18) : wordsF[k]? = some (wordsF.getD k []) := by
  have h' : k < wordsF.length := h
  rw [List.getD_eq_getElem?_getD, List.getElem?_eq_getElem h']
  rfl
theorem nds_two {w : World} {P : Nat → Prop} {g o : Nat} {a b : Nd} {r : List Nd} (h : NdsV w P g o (a :: b :: r)) : NdsV w P g o [a, b] := by
  unfold NdsV NdsV at h
  unfold NdsV NdsV NdsV
  exact ⟨h.1, h.2.1, trivial⟩
theorem nds_one {w : World} {P : Nat → Prop} {g o : Nat} {a : Nd} {r : List Nd} (h : NdsV w P g o (a :: r)) : NdsV w P g o [a] := by
  unfold NdsV at h
  unfold NdsV NdsV
  exact ⟨h.1, trivial⟩
theorem full_says : ∀ (n : Nat) (nd : Nd), sizeF nd ≤ n → plainF nd → (fullF nd).length ≤ 1000000000000 → ∀ (w : World) (P : Nat → Prop), Says w P nd (fullF nd)
  | 0, nd, hn, _, _, _, _ => by have := sizeF_pos nd; omega
  | n + 1, .mk op names so nn mm l, hn, hp, hl, w, P => by
    intro v w1 hu h
    unfold NdV at h
    obtain ⟨vn, vl, rfl, hs, hll⟩ := h
    obtain ⟨na, nc, rfl, hg⟩ := hs.get
    unfold plainF at hp
    simp only [fullF] at hl ⊢
    simp only [sizeF] at hn
    rcases hp with ⟨h1, h2, h3⟩ | ⟨h1, h2, h3, h4⟩ | ⟨h1, h2, h3, h4, h5⟩
    · obtain ⟨k, rfl⟩ := Int.eq_ofNat_of_zero_le (show 0 ≤ op by omega)
      match names, h3 with
      | x :: y :: r, h3 =>
        obtain ⟨g, o, rfl, c0⟩ := hg 0 (sV x) rfl
        obtain ⟨g', o', e, c1⟩ := hg 1 (sV y) rfl
        simp at e
        obtain ⟨rfl, rfl⟩ := e
        obtain ⟨a2, n2, c2, rfl⟩ : ∃ a n c, vl = .slice a n c := by
          rcases hll with ⟨-, a, c, rfl⟩ | ⟨g, o, c, rfl, -⟩
          · exact ⟨a, 0, c, rfl⟩
          · exact ⟨_, _, c, rfl⟩
        rw [if_pos h2] at hl ⊢
        simp only [List.length_append, List.getD_cons_zero, List.getD_cons_succ] at hl
        exact full_two w1 k a2 _ nc n2 c2 so nn mm _ (word_at k (by omega)) ⟨by omega, by omega⟩ g o x y h3 (by omega) (by omega) c0 c1
    · obtain ⟨k, rfl⟩ := Int.eq_ofNat_of_zero_le (show 0 ≤ op by omega)
      match l, h3 with
      | a :: b :: r, h3 =>
        rcases hll with ⟨e, -⟩ | ⟨g, o, c, rfl, -, hds⟩
        · cases e
        rw [if_neg (by omega), if_pos h2] at hl ⊢
        simp only [List.length_append, fullsF, List.getD_cons_zero, List.getD_cons_succ] at hl
        simp only [sizesF] at hn
        unfold plainsF plainsF at h4
        exact full_bin w1 k na _ nc _ c so nn mm _ (word_at k (by omega)) ⟨by omega, by omega⟩ g o P a b (fullF a) (fullF b) h3 (nds_two hds) (by omega) (by omega)
          (full_says n a (by omega) h4.1 (by omega) w1 P) (full_says n b (by omega) h4.2.1 (by omega) w1 P)
    · obtain ⟨k, rfl⟩ := Int.eq_ofNat_of_zero_le (show 0 ≤ op by omega)
      match l, h4, names, h3 with
      | a :: r, h4, x :: r', h3 =>
        rcases hll with ⟨e, -⟩ | ⟨g, o, c, rfl, -, hds⟩
        · cases e
        obtain ⟨gn, og, rfl, c0⟩ := hg 0 (sV x) rfl
        rw [if_neg (by omega), if_neg (by omega)] at hl ⊢
        simp only [List.length_append, fullsF, List.getD_cons_zero] at hl
        simp only [sizesF] at hn
        unfold plainsF at h5
        exact full_quant w1 k _ nc _ c so nn mm _ (word_at k (by omega)) ⟨by omega, by omega⟩ g o gn og P a x (fullF a) h4 h3 c0 (by omega) (by omega) (nds_one hds)
          (full_says n a (by omega) h5.1 (by omega) w1 P)
theorem full_calls (w : World) (P : Nat → Prop) (nd : Nd) (v : Value) (hp : plainF nd) (hl : (fullF nd).length ≤ 1000000000000) (h : NdV w P nd v) : Calls Tryd.prog 49 #[v] w fun e w' => e = .returned (.string ⟨(fullF nd).toArray⟩) ∧ Upto [] w w' :=
  full_says _ nd (Nat.le_refl _) hp hl w P v w (Upto.refl _ _) h
end Go.Proofs.YtkhbpebpljdifaaDoor

/- What known asks of the parser and of Full, in plain words. -/
namespace Go.Proofs.YtkhbpebpljdifaaDoor
open Go.RowKit Go.PL Go.Maps

def knA : List UInt8 := [102, 105, 110, 100, 32, 115, 101, 116, 32, 88, 58, 32, 101, 118, 101, 114, 121, 32, 118, 101, 114, 116, 101, 120, 32, 118, 58, 32, 118, 32, 105, 110, 32, 88, 32, 111, 114, 32, 115, 111, 109, 101, 32, 118, 101, 114, 116, 101, 120, 32, 117, 58, 32, 117, 32, 105, 110, 32, 88, 32, 97, 110, 100, 32, 117, 32, 97, 100, 106, 32, 118]
def knB : List UInt8 := [97, 32, 105, 109, 112, 108, 105, 101, 115, 32, 98]
def knS : List UInt8 := [101, 118, 101, 114, 121, 32, 118, 101, 114, 116, 101, 120, 32, 118, 58, 32, 40, 118, 32, 105, 110, 32, 88, 41, 32, 111, 114, 32, 40, 115, 111, 109, 101, 32, 118, 101, 114, 116, 101, 120, 32, 117, 58, 32, 40, 117, 32, 105, 110, 32, 88, 41, 32, 97, 110, 100, 32, 40, 117, 32, 97, 100, 106, 32, 118, 41, 41]
def knD : Nd := .mk 17 [[118]] 0 0 0 [.mk 13 [] 0 0 0 [.mk 3 [[118], [88]] 0 0 0 [], .mk 16 [[117]] 0 0 0 [.mk 12 [] 0 0 0 [.mk 3 [[117], [88]] 0 0 0 [], .mk 5 [[117], [118]] 0 0 0 []]]]]
theorem knA_is : readF queryP knA = ⟨⟨[([88], 2)], knD⟩, 0, 0, 0⟩ := by kernel_rfl
theorem knB_pos : ((readF queryP knB).line, (readF queryP knB).col, (readF queryP knB).er) = (1, 3, 3) := by kernel_rfl
theorem knD_full : fullF knD = knS := by kernel_rfl
theorem knD_plain : plainF knD := by
  simp only [knD, plainF, plainsF]
  simp
theorem knD_big : bigN knD := by
  simp only [knD, bigN, bigsN]
  simp
theorem knD_size : sizeF knD ≤ 10 := by
  simp only [knD, sizeF, sizesF]
  simp
end Go.Proofs.YtkhbpebpljdifaaDoor

/- The law's known: answers true. -/
namespace Go.Proofs.YtkhbpebpljdifaaDoor
open Go.RowKit Go.PL Go.Maps

/-- a parsed question, laid in two variables -/
theorem kn_fin {w w1 : World} {r : PR} {a b c d e f g : Value} (hu : Upto [] w w1) (hq : QnV w1 (New w) r.q (.agg #[a, b, c, d, e, f, g])) :
    QnV ((w1.alloc (.cells #[a, b, c, d, e, f, g] 67)).alloc (.cells #[.int .i64 r.line, .int .i64 r.col] 24)) (New w) r.q (.agg #[a, b, c, d, e, f, g]) ∧ Upto [] w ((w1.alloc (.cells #[a, b, c, d, e, f, g] 67)).alloc (.cells #[.int .i64 r.line, .int .i64 r.col] 24)) ∧
    ((w1.alloc (.cells #[a, b, c, d, e, f, g] 67)).alloc (.cells #[.int .i64 r.line, .int .i64 r.col] 24)).heap[w1.heap.size]? = some (.cells #[a, b, c, d, e, f, g] 67 (0, 0)) ∧ ((w1.alloc (.cells #[a, b, c, d, e, f, g] 67)).alloc (.cells #[.int .i64 r.line, .int .i64 r.col] 24)).heap[w1.heap.size + 1]? = some (.cells #[.int .i64 r.line, .int .i64 r.col] 24 (0, 0)) ∧ Upto [] w1 ((w1.alloc (.cells #[a, b, c, d, e, f, g] 67)).alloc (.cells #[.int .i64 r.line, .int .i64 r.col] 24)) := by
  have ha : Upto [] w1 ((w1.alloc (.cells #[a, b, c, d, e, f, g] 67)).alloc (.cells #[.int .i64 r.line, .int .i64 r.col] 24)) := ((Upto.refl [] w1).alloc _).alloc _
  exact ⟨QnV.keep (Keep.upto ha (by simp)) hq, hu.trans_ext ha, alloc_old (new_at _ _) _, new_at1 _ _ _, ha⟩

set_option maxRecDepth 100000 in
set_option maxHeartbeats 6400000 in
theorem fknown_calls (w : World) (he : Env w) (hs : SEnv w) : Calls Tryd.prog 25 #[] w fun e w' => e = .returned (.bool true) ∧ Upto [] w w' := by
  have HS : Hid (∀ u, Upto [] w u → SEnv u) := Lib.hid (fun u hu => hs.upto hu (by simp))
  have HE : Hid (∀ u, Upto [] w u → Env u) := Lib.hid (fun u hu => he.ext hu)
  have HA := Lib.hid (parse_calls knA (by decide) w he hs)
  clear he hs
  go_enter Tryd.func25, Tryd.ntmps25
  go_wp2_with fail
  refine HA.out.mono ?_
  rintro e w1 ⟨v, rfl, hq, hu⟩
  have HK := Lib.hid (show (readF queryP knA).line = 0 ∧ (readF queryP knA).col = 0 ∧ (readF queryP knA).er = 0 by rw [knA_is]; exact ⟨rfl, rfl, rfl⟩)
  have hqq : (readF queryP knA).q = ⟨[([88], 2)], knD⟩ := by rw [knA_is]
  have hqe := id hq
  rw [hqq] at hqe
  obtain ⟨f1, f3, o1, a1, a2, a3, s1, n1, m1, l1, l2, l3, rfl, hv, hn⟩ := hqe.open
  have hf := kn_fin hu hq
  have e1 : ((readF queryP knA).line : Int) = 0 := by rw [HK.out.1]; rfl
  have e2 : ((readF queryP knA).col : Int) = 0 := by rw [HK.out.2.1]; rfl
  have e3 : ((readF queryP knA).er : Int) = 0 := by rw [HK.out.2.2]; rfl
  rw [e1, e2] at hf
  rw [e1, e2, e3]
  clear e1 e2 e3 HK HA hq hqe hqq
  obtain ⟨gx, ox, rfl, hx0⟩ : ∃ gx ox, f1 = some ⟨gx, ox, none⟩ ∧ w1.cell? ⟨gx, ox, none⟩ = some (.string ⟨#[88]⟩) ∧ w1.cell? ⟨gx, ox + 1, none⟩ = some (.int .i64 2) := by
    obtain ⟨a, c, e, hg⟩ := SlP.get hv
    obtain ⟨g, o, rfl, c0⟩ := hg 0 (.string ⟨#[88]⟩) rfl
    obtain ⟨g', o', e', c1⟩ := hg 1 (.int .i64 2) rfl
    simp at e'
    obtain ⟨rfl, rfl⟩ := e'
    simp at e
    exact ⟨g, o, e.1, c0, c1⟩
  have HF := Lib.hid hf
  have HX := Lib.hid hx0
  have HN := Lib.hid hn
  have HB : Hid (∀ u, Upto [] w u → Calls Tryd.prog 30 #[.string ⟨knB.toArray⟩] u (PRPost u (readF queryP knB))) := Lib.hid (fun u hu => parse_calls knB (by decide) u (HE.out u hu) (HS.out u hu))
  clear hf hx0 hn hv hu
  simp only [List.length_cons, List.length_nil, Nat.zero_add] at HF ⊢
  go_wp2_with fail
  refine (HB.out _ HF.out.2.1).mono ?_
  rintro e w3 ⟨v2, rfl, hq2, hu3⟩
  obtain ⟨h1, h2, h3, o2, b1, b2, b3, s2, n2, m2, k1, k2, k3, rfl⟩ := hq2.seven
  have hw3 := HF.out.2.1.trans_ext hu3
  have hf2 := kn_fin hw3 (QnV.keep (Keep.mono (fun b hb _ => New.mono HF.out.2.1 b hb)) hq2)
  have e4 : ((readF queryP knB).line : Int) = 1 := by have := congrArg (fun z => (z.1 : Int)) knB_pos; simpa using this
  have e5 : ((readF queryP knB).col : Int) = 3 := by have := congrArg (fun z => (z.2.1 : Int)) knB_pos; simpa using this
  have e6 : ((readF queryP knB).er : Int) = 3 := by have := congrArg (fun z => (z.2.2 : Int)) knB_pos; simpa using this
  rw [e4, e5] at hf2
  rw [e4, e5, e6]
  obtain ⟨-, hW2, -, hP2, hup⟩ := hf2
  have hup1 := HF.out.2.2.2.2.trans_ext (hu3.trans_ext hup)
  have hQ1 := hup.at (hu3.at HF.out.2.2.1 (by simp)) (by simp)
  have hP1 := hup.at (hu3.at HF.out.2.2.2.1 (by simp)) (by simp)
  have X0 := (hup1.cell (p := ⟨gx, ox, none⟩) (World.block_lt_of_cell? w1 _ HX.out.1) (by simp)).trans HX.out.1
  have X1 := (hup1.cell (p := ⟨gx, ox + 1, none⟩) (World.block_lt_of_cell? w1 _ HX.out.2) (by simp)).trans HX.out.2
  have HN2 := Lib.hid (HN.out.ext hup1)
  have x0 := cell_of hQ1 0
  have x1 := cell_of hQ1 1
  have x2 := cell_of hQ1 2
  have x3 := cell_of hQ1 3
  have x4 := cell_of hQ1 4
  have x5 := cell_of hQ1 5
  have x6 := cell_of hQ1 6
  have y0 := cell_of hP1 0
  have y1 := cell_of hP1 1
  simp only [List.getElem?_toArray, List.getElem?_cons_zero, List.getElem?_cons_succ] at x0 x1 x2 x3 x4 x5 x6 y0 y1
  have HP2 := Lib.hid hP2
  have HW2 := Lib.hid hW2
  clear e4 e5 e6 hQ1 hP1 hP2 hW2 hup hup1 hw3 hq2 hu3
  go_wp2_with fail
  refine (back_calls 10 knD knD_size (by omega) knD_big (New w) _ _ HN2.out).mono ?_
  rintro e w5 ⟨v5, rfl, hn5, hu5⟩
  have HN5 := Lib.hid hn5
  have HU5 := Lib.hid (HW2.out.trans_ext hu5)
  have HP5 := Lib.hid (hu5.at HP2.out (by simp))
  clear hn5 hu5
  obtain ⟨r0, r1, r2, r3, r4, r5, r6, r7, r8, r9, rfl⟩ := HN5.out.six
  go_wp2_with fail
  refine (full_calls w5 _ knD _ knD_plain (by rw [knD_full]; decide) HN5.out).mono ?_
  rintro e w6 ⟨rfl, hu6⟩
  rw [knD_full]
  have hp6 := hu6.at HP5.out (by simp)
  have z0 := cell_of hp6 0
  have z1 := cell_of hp6 1
  simp only [List.getElem?_toArray, List.getElem?_cons_zero, List.getElem?_cons_succ] at z0 z1
  have HU6 := Lib.hid (HU5.out.trans_ext hu6)
  clear hp6 hu6
  go_wp2_with fail
  go_ret
  exact ⟨rfl, HU6.out⟩
end Go.Proofs.YtkhbpebpljdifaaDoor

/- The walk of FormulaBlanks. -/
namespace Go.Proofs.YtkhbpebpljdifaaDoor
open Go.RowKit Go.PL Go.Maps

def gapC : List Value := [.string ⟨#[32]⟩, .string ⟨#[10]⟩, .string ⟨#[9, 32]⟩, .string ⟨#[32, 13, 10]⟩, .string ⟨#[32, 32, 32]⟩]
theorem gapC_at (j : Nat) (h : j < 5) : gapC[j]? = some (.string ⟨(gapB j).toArray⟩) := by
  rcases j with _ | _ | _ | _ | _ | j <;> first | rfl | omega
theorem gap_cell (w : World) (j : Nat) (h : j < 5) : (w.alloc (.cells #[.string ⟨#[32]⟩, .string ⟨#[10]⟩, .string ⟨#[9, 32]⟩, .string ⟨#[32, 13, 10]⟩, .string ⟨#[32, 32, 32]⟩] 9)).cell? ⟨w.heap.size, j, none⟩ = some (.string ⟨(gapB j).toArray⟩) := by
  rw [cell_of (new_at w (.cells #[.string ⟨#[32]⟩, .string ⟨#[10]⟩, .string ⟨#[9, 32]⟩, .string ⟨#[32, 13, 10]⟩, .string ⟨#[32, 32, 32]⟩] 9)) j]
  show (gapC.toArray)[j]? = _
  rw [List.getElem?_toArray]
  exact gapC_at j h
theorem QnV.ext {w w' : World} {P : Nat → Prop} {q : Qn} {v : Value} (h : QnV w P q v) (hu : Upto [] w w') : QnV w' P q v := QnV.keep (Keep.upto hu (by simp)) h

set_option maxRecDepth 100000 in
set_option maxHeartbeats 12800000 in
theorem formulaBlanks_walk (s : List UInt8) (v : Value) (bl : List Nat) (w : World) (hs : s.length ≤ maxLen) (hv : SlC w v (u8C bl)) (hb : ∀ k ∈ bl, k < 256) (hbl : bl.length ≤ maxLen) (he : Env w) (hse : SEnv w) : Calls Tryd.prog 12 #[.string ⟨s.toArray⟩, v] w fun e w' => e = .returned (.bool true) ∧ Upto [] w w' := by
  have hul : (u8C bl).length = bl.length := by simp [u8C]
  have hsz : (ByteArray.mk s.toArray).size = s.length := rfl
  unfold maxLen at hs hbl
  have HS : Hid (∀ u, Upto [] w u → SEnv u) := Lib.hid (fun u hu => hse.upto hu (by simp))
  have HE : Hid (∀ u, Upto [] w u → Env u) := Lib.hid (fun u hu => he.ext hu)
  have HK : Hid (∀ u, Upto [] w u → Calls Tryd.prog 25 #[] u fun e w' => e = .returned (.bool true) ∧ Upto [] u w') := Lib.hid (fun u hu => fknown_calls u (he.ext hu) (hse.upto hu (by simp)))
  have hI : (s.length : Int) ≤ 9223372036854775807 := by omega
  have hI2 : (bl.length : Int) ≤ 9223372036854775807 := by omega
  clear he hse
  by_cases hbig : 1000 < s.length ∨ 200 < bl.length ∨ bl.length = 0
  · obtain ⟨va, vc, rfl⟩ := hv.len
    rw [hul]
    clear hv
    rcases hbig with h1 | h1 | h1
    · have q1 : (1000 : Int) < s.length := by omega
      clear h1
      go_enter Tryd.func12, Tryd.ntmps12
      go_wp2_with fail
      refine (HK.out w (Upto.refl _ _)).mono ?_
      rintro e w1 ⟨rfl, hu1⟩
      have HU1 := Lib.hid hu1
      clear hu1
      go_wp2_with fail
      refine (HK.out w1 HU1.out).mono ?_
      rintro e w2 ⟨rfl, hu2⟩
      have HU2 := Lib.hid (HU1.out.trans_ext hu2)
      clear hu2
      go_wp2_with fail
      go_ret
      exact ⟨rfl, HU2.out⟩
    · by_cases h0 : 1000 < s.length
      · have q1 : (1000 : Int) < s.length := by omega
        clear h1 h0
        go_enter Tryd.func12, Tryd.ntmps12
        go_wp2_with fail
        refine (HK.out w (Upto.refl _ _)).mono ?_
        rintro e w1 ⟨rfl, hu1⟩
        have HU1 := Lib.hid hu1
        clear hu1
        go_wp2_with fail
        refine (HK.out w1 HU1.out).mono ?_
        rintro e w2 ⟨rfl, hu2⟩
        have HU2 := Lib.hid (HU1.out.trans_ext hu2)
        clear hu2
        go_wp2_with fail
        go_ret
        exact ⟨rfl, HU2.out⟩
      · have q1 : ¬ (1000 : Int) < s.length := by omega
        have q2 : (200 : Int) < bl.length := by omega
        clear h1 h0
        go_enter Tryd.func12, Tryd.ntmps12
        go_wp2_with fail
        refine (HK.out w (Upto.refl _ _)).mono ?_
        rintro e w1 ⟨rfl, hu1⟩
        have HU1 := Lib.hid hu1
        clear hu1
        go_wp2_with fail
        refine (HK.out w1 HU1.out).mono ?_
        rintro e w2 ⟨rfl, hu2⟩
        have HU2 := Lib.hid (HU1.out.trans_ext hu2)
        clear hu2
        go_wp2_with fail
        go_ret
        exact ⟨rfl, HU2.out⟩
    · by_cases h0 : 1000 < s.length
      · have q1 : (1000 : Int) < s.length := by omega
        clear h1 h0
        go_enter Tryd.func12, Tryd.ntmps12
        go_wp2_with fail
        refine (HK.out w (Upto.refl _ _)).mono ?_
        rintro e w1 ⟨rfl, hu1⟩
        have HU1 := Lib.hid hu1
        clear hu1
        go_wp2_with fail
        refine (HK.out w1 HU1.out).mono ?_
        rintro e w2 ⟨rfl, hu2⟩
        have HU2 := Lib.hid (HU1.out.trans_ext hu2)
        clear hu2
        go_wp2_with fail
        go_ret
        exact ⟨rfl, HU2.out⟩
      · have q1 : ¬ (1000 : Int) < s.length := by omega
        rw [h1]
        clear h1 h0
        go_enter Tryd.func12, Tryd.ntmps12
        go_wp2_with fail
        refine (HK.out w (Upto.refl _ _)).mono ?_
        rintro e w1 ⟨rfl, hu1⟩
        have HU1 := Lib.hid hu1
        clear hu1
        go_wp2_with fail
        refine (HK.out w1 HU1.out).mono ?_
        rintro e w2 ⟨rfl, hu2⟩
        have HU2 := Lib.hid (HU1.out.trans_ext hu2)
        clear hu2
        go_wp2_with fail
        go_ret
        exact ⟨rfl, HU2.out⟩
  · have hs1 : s.length ≤ 1000 := by omega
    have q1 : ¬ (1000 : Int) < s.length := by omega
    have q2 : ¬ (200 : Int) < bl.length := by omega
    have q3 : ((bl.length : Int) == 0) = false := by rw [beq_eq_false_iff_ne]; omega
    have hbp : 0 < bl.length := by omega
    have hb200 : bl.length ≤ 200 := by omega
    clear hbig
    rcases hv with ⟨h, -⟩ | ⟨gb, ob, cb, rfl, hvc⟩
    · rw [h] at hul; simp at hul; omega
    rw [hul]
    have HV : Hid (∀ (j k : Nat), bl[j]? = some k → w.cell? ⟨gb, ob + j, none⟩ = some (.int .u8 (k : Int)) ∧ k < 256) := Lib.hid (fun j k hj => ⟨hvc j _ (by simp [u8C, hj]), hb k (List.mem_of_getElem? hj)⟩)
    clear hvc hb
    cases hl : lexT s with
    | error lcn =>
      obtain ⟨l, c, n⟩ := lcn
      have HT := Lib.hid (tok_err hl (by omega) l c n rfl rfl rfl)
      have hn : ((n : Int) == 0) = false := by
        rw [beq_eq_false_iff_ne]
        rcases lexT_err hl with h | h <;> omega
      have hn2 : ((n : Int) != 0) = true := by rw [bne, hn]; rfl
      clear hl
      go_enter Tryd.func12, Tryd.ntmps12
      go_wp2_with fail
      refine (HK.out w (Upto.refl _ _)).mono ?_
      rintro e w1 ⟨rfl, hu1⟩
      have HU1 := Lib.hid hu1
      clear hu1
      go_wp2_with fail
      refine (HT.out w1 (HE.out w1 HU1.out)).mono ?_
      rintro e w2 ⟨rfl, hu2⟩
      have HU2 := Lib.hid ((HU1.out.trans_ext hu2).alloc (.cells #[.int .i64 l, .int .i64 c] 24))
      clear hu2
      go_wp2_with fail
      go_ret
      exact ⟨rfl, HU2.out⟩
    | ok ts =>
      have HT := Lib.hid (tok_ok hl (by omega))
      obtain ⟨hlen, us, hus, hal⟩ := bl_plain hs1 hl bl
      have HB := Lib.hid (bl_ok hs1 hl hus hal)
      have hlt := hlen ts.length
      rw [List.take_length] at hlt
      have HT2 := Lib.hid (tok_ok hus (by omega))
      obtain ⟨-, hpos, hlen1, -, htx, -, -⟩ := lexT_fin hl
      have HTX : Hid (∀ t ∈ ts, t.text.length ≤ 1000) := Lib.hid (fun t ht => by
        have := text_le_sum ht
        omega)
      have HLEN := Lib.hid hlen
      have HP1 : Hid (∀ u, Upto [] w u → Calls Tryd.prog 30 #[.string ⟨s.toArray⟩] u (PRPost u (readF queryP s))) := Lib.hid (fun u hu => parse_calls s (by omega) u (HE.out u hu) (HS.out u hu))
      have HP2 : Hid (∀ u, Upto [] w u → Calls Tryd.prog 30 #[.string ⟨(blT bl ts 0).toArray⟩] u (PRPost u (readF queryP (blT bl ts 0)))) := Lib.hid (fun u hu => parse_calls _ (by omega) u (HE.out u hu) (HS.out u hu))
      have hnp : ((ts.length : Int) == 0) = false := by rw [beq_eq_false_iff_ne]; omega
      have hn1 : (ts.length : Int) ≤ 1001 := by omega
      clear hl hlen hus hal htx
      generalize hr1 : readF queryP s = r1 at *
      generalize hr2 : readF queryP (blT bl ts 0) = r2 at *
      clear hr1 hr2
      go_enter Tryd.func12, Tryd.ntmps12
      go_wp2_with fail
      refine (HK.out w (Upto.refl _ _)).mono ?_
      rintro e w1 ⟨rfl, hu1⟩
      have HU1 := Lib.hid hu1
      clear hu1
      go_wp2_with fail
      refine (HT.out w1 (HE.out w1 HU1.out)).mono ?_
      rintro e w2 ⟨v2, rfl, hv2, hu2⟩
      have ha2 := (Upto.refl [] w2).alloc (.cells #[.int .i64 0, .int .i64 0] 24)
      have HU2 := Lib.hid ((HU1.out.trans_ext hu2).trans_ext ha2)
      have hv2a := hv2.ext ha2
      rcases hv2a.at with ⟨h1, _⟩ | ⟨g, og, vc2, rfl, hat⟩
      · rw [h1] at hpos; simp at hpos
      have HAT := Lib.hid hat
      clear hat hv2a hv2 ha2 hu2
      go_wp2_with fail
      generalize w2.alloc (.cells #[.int .i64 0, .int .i64 0] 24) = W2 at *
      generalize hnn : ts.length = n at *
      go_loopw [8, 9] (fun t8 t9 wr => ∃ k : Nat, k ≤ n ∧ t8 = .string ⟨(blT bl (ts.take k) 0).toArray⟩ ∧ t9 = .int .i64 k ∧ Upto [] W2 wr) (fun _ t9 _ => n - (intOf t9).toNat)
      case atStart => exact ⟨0, by omega, by simp [blT], rfl, Upto.refl _ _⟩
      case round =>
        obtain ⟨k, hk, rfl, rfl, hup⟩ := hrel
        have hk0 : (0 : Int) ≤ k := by omega
        have hPl : (blT bl (ts.take k) 0).length ≤ 5000 := HLEN.out k
        rcases Nat.lt_or_ge k n with hlt2 | hge
        · have hlt' : (k : Int) < n := by omega
          obtain ⟨t, ht⟩ : ∃ t, ts[k]? = some t := ⟨ts[k], List.getElem?_eq_getElem (by omega)⟩
          have haA := (Upto.refl [] wr).alloc (.cells #[.string ⟨#[32]⟩, .string ⟨#[10]⟩, .string ⟨#[9, 32]⟩, .string ⟨#[32, 13, 10]⟩, .string ⟨#[32, 32, 32]⟩] 9)
          have hupA := hup.trans_ext haA
          obtain ⟨-, c1, -, -, -⟩ := (HAT.out.ext hupA) _ _ ht
          simp only [bs] at c1
          have hml : k % bl.length < bl.length := Nat.mod_lt _ hbp
          obtain ⟨x, hx⟩ : ∃ x, bl[k % bl.length]? = some x := ⟨_, List.getElem?_eq_getElem hml⟩
          obtain ⟨hxc, hx256⟩ := HV.out _ _ hx
          have hxa := ((HU2.out.trans_ext hupA).cell (World.block_lt_of_cell? w _ hxc) (by simp)).trans hxc
          have hgap := gap_cell wr (x % 5) (Nat.mod_lt _ (by decide))
          have hgl := gapB_len (x % 5)
          have htl := HTX.out t (List.mem_of_getElem? ht)
          have HX : Hid (blT bl (ts.take (k + 1)) 0 = blT bl (ts.take k) 0 ++ gapB (x % 5) ++ t.text) := Lib.hid (by
            obtain ⟨h1, h2⟩ := List.getElem?_eq_some_iff.1 ht
            rw [List.take_succ_eq_append_getElem h1, h2, blT_snoc, List.length_take, Nat.min_eq_left (by omega), Nat.zero_add]
            unfold gapN
            rw [List.getD_eq_getElem?_getD, hx, Option.getD_some, List.append_assoc])
          have hm1 : (k : Int) % (bl.length : Int) = ((k % bl.length : Nat) : Int) := by omega
          have hm2 : (x : Int) % 5 = ((x % 5 : Nat) : Int) := by omega
          have hm3 : x % 5 < 5 := Nat.mod_lt _ (by decide)
          have hm4 : ((k % bl.length : Nat) : Int) < bl.length := by omega
          have hm5 : ((x % 5 : Nat) : Int) < 5 := by omega
          have hm6 : (x : Int) < 256 := by omega
          generalize blT bl (ts.take k) 0 = P at *
          generalize gapB (x % 5) = gp at *
          generalize t.text = tx at *
          generalize k % bl.length = km at *
          generalize x % 5 = xm at *
          have hP1 : (ByteArray.mk P.toArray).size = P.length := rfl
          have hP2 : (ByteArray.mk tx.toArray).size = tx.length := rfl
          have hP3 : (ByteArray.mk gp.toArray).size = gp.length := rfl
          have hc1 : ByteArray.mk P.toArray ++ ByteArray.mk gp.toArray = ⟨(P ++ gp).toArray⟩ := by rw [ByteArray.mk_append_mk]
          have hc2 : ByteArray.mk (P ++ gp).toArray ++ ByteArray.mk tx.toArray = ⟨(P ++ gp ++ tx).toArray⟩ := by rw [ByteArray.mk_append_mk]
          have hP4 : (ByteArray.mk (P ++ gp).toArray).size = P.length + gp.length := by show (P ++ gp).toArray.size = _; simp
          have sm1 : P.length + gp.length ≤ 9223372036854775807 := by omega
          have sm2 : P.length + gp.length + tx.length ≤ 9223372036854775807 := by omega
          have HUP := Lib.hid hupA
          clear ht hx hup hupA haA hxc
          go_wp2_with fail
          go_roundw
          case rel => exact ⟨k + 1, by omega, by rw [HX.out, List.append_assoc], by go_num, HUP.out⟩
          case measure => simp [intOf]; omega
        · have hge' : ¬ (k : Int) < n := by omega
          have hkk : ts.take k = ts := List.take_of_length_le (by omega)
          rw [hkk]
          have HUA := Lib.hid (HU2.out.trans_ext hup)
          have HATA := Lib.hid (HAT.out.ext hup)
          clear hup hPl HAT HU2
          generalize blT bl ts 0 = T at *
          go_wp2_with fail
          refine (HT2.out _ (HE.out _ HUA.out)).mono ?_
          rintro e w5 ⟨v5, rfl, hv5, hu5⟩
          have ha5 := (Upto.refl [] w5).alloc (.cells #[.int .i64 0, .int .i64 0] 24)
          have HU5 := Lib.hid ((HUA.out.trans_ext hu5).trans_ext ha5)
          have HAT5 := Lib.hid ((HATA.out.ext hu5).ext ha5)
          have hv5a := hv5.ext ha5
          have hul5 := HB.out.len
          rw [hnn] at hul5
          rcases hv5a.at with ⟨h1, _⟩ | ⟨g5, og5, vc5, rfl, hat5⟩
          · rw [h1] at hul5; simp at hul5; omega
          rw [hul5]
          have HBT5 := Lib.hid hat5
          clear hat5 hv5a hv5 ha5 hu5 HATA HUA
          go_wp2_with fail
          generalize w5.alloc (.cells #[.int .i64 0, .int .i64 0] 24) = W5 at *
          refine (HP1.out W5 HU5.out).mono ?_
          rintro e w6 ⟨v6, rfl, hq6, hu6⟩
          obtain ⟨a1, a2, a3, a4, a5, a6, a7, a8, a9, a10, a11, a12, a13, rfl⟩ := hq6.seven
          have hf6 := kn_fin hu6 hq6
          have HU6 := Lib.hid (HU5.out.trans_ext hf6.2.1)
          have HAT6 := Lib.hid (HAT5.out.ext hf6.2.1)
          have HBT6 := Lib.hid (HBT5.out.ext hf6.2.1)
          have HF6 := Lib.hid hf6
          clear hf6 hq6 hu6 HU5 HAT5 HBT5
          go_wp2_with fail
          generalize hW6 : (w6.alloc (.cells #[.slice a1 a2 a3, .int .i64 a4, .slice a5 a6 a7, .int .i64 a8, .int .i64 a9, .int .i64 a10, .slice a11 a12 a13] 67)).alloc (.cells #[.int .i64 r1.line, .int .i64 r1.col] 24) = W6 at *
          clear hW6
          refine (HP2.out W6 HU6.out).mono ?_
          rintro e w7 ⟨v7, rfl, hq7, hu7⟩
          obtain ⟨b1, b2, b3, b4, b5, b6, b7, b8, b9, b10, b11, b12, b13, rfl⟩ := hq7.seven
          have hf7 := kn_fin hu7 hq7
          have HU7 := Lib.hid (HU6.out.trans_ext hf7.2.1)
          have HAT7 := Lib.hid (HAT6.out.ext hf7.2.1)
          have HBT7 := Lib.hid (HBT6.out.ext hf7.2.1)
          have HQA := Lib.hid (HF6.out.1.ext hf7.2.1)
          have HQB := Lib.hid hf7.1
          have hba := hf7.2.1.at HF6.out.2.2.1 (by simp)
          have hbb := hf7.2.1.at HF6.out.2.2.2.1 (by simp)
          have hbc := hf7.2.2.1
          have hbd := hf7.2.2.2.1
          rw [HB.out.er]
          clear hf7 hq7 hu7 HU6 HAT6 HBT6 HF6
          generalize w6.heap.size = B6 at *
          have HBB := Lib.hid hbb
          have HBD := Lib.hid hbd
          have xa0 := cell_of hba 0
          have xa1 := cell_of hba 1
          have xa2 := cell_of hba 2
          have xa3 := cell_of hba 3
          have xa4 := cell_of hba 4
          have xa5 := cell_of hba 5
          have xa6 := cell_of hba 6
          simp only [List.getElem?_toArray, List.getElem?_cons_zero, List.getElem?_cons_succ] at xa0 xa1 xa2 xa3 xa4 xa5 xa6
          have xb0 := cell_of hbc 0
          have xb1 := cell_of hbc 1
          have xb2 := cell_of hbc 2
          have xb3 := cell_of hbc 3
          have xb4 := cell_of hbc 4
          have xb5 := cell_of hbc 5
          have xb6 := cell_of hbc 6
          simp only [List.getElem?_toArray, List.getElem?_cons_zero, List.getElem?_cons_succ] at xb0 xb1 xb2 xb3 xb4 xb5 xb6
          clear hba hbb hbc hbd
          go_wp2_with fail
          generalize hW7 : (w7.alloc (.cells #[.slice b1 b2 b3, .int .i64 b4, .slice b5 b6 b7, .int .i64 b8, .int .i64 b9, .int .i64 b10, .slice b11 b12 b13] 67)).alloc (.cells #[.int .i64 r2.line, .int .i64 r2.col] 24) = W7 at *
          clear hW7
          generalize w7.heap.size = B7 at *
          refine (equalq_same r1.q _ _ _ _ W7 HB.out.fr HB.out.sz HB.out.big HQA.out (by have h := HQB.out; rw [HB.out.q] at h; exact h)).mono ?_
          rintro e w8 ⟨rfl, hu8⟩
          have HU8 := Lib.hid (HU7.out.trans_ext hu8)
          have HAT8 := Lib.hid (HAT7.out.ext hu8)
          have HBT8 := Lib.hid (HBT7.out.ext hu8)
          have HBB8 := Lib.hid (hu8.at HBB.out (by simp))
          have HBD8 := Lib.hid (hu8.at HBD.out (by simp))
          clear hu8 HU7 HAT7 HBT7 HBB HBD HQA HQB
          go_wp2_with fail
          go_loopw [20] (fun t20 wr => ∃ k : Nat, k ≤ n ∧ t20 = .int .i64 k ∧ Hid (∀ (i : Nat) (t : Tok), i < k → ts[i]? = some t → ¬ (t.line = r1.line ∧ t.col = r1.col)) ∧ Upto [] w8 wr) (fun t20 _ => n - (intOf t20).toNat)
          case atStart => exact ⟨0, by omega, rfl, Lib.hid (fun i t hi => by omega), Upto.refl _ _⟩
          case round =>
            obtain ⟨k, hk, rfl, HM, hup⟩ := hrel
            have hk0 : (0 : Int) ≤ k := by omega
            have hpb := hup.at HBB8.out (by simp)
            have hpd := hup.at HBD8.out (by simp)
            have xp0 := cell_of hpb 0
            have xp1 := cell_of hpb 1
            simp only [List.getElem?_toArray, List.getElem?_cons_zero, List.getElem?_cons_succ] at xp0 xp1
            have xq0 := cell_of hpd 0
            have xq1 := cell_of hpd 1
            simp only [List.getElem?_toArray, List.getElem?_cons_zero, List.getElem?_cons_succ] at xq0 xq1
            rcases Nat.lt_or_ge k n with hlt2 | hge
            · have hlt' : (k : Int) < n := by omega
              obtain ⟨t, ht⟩ : ∃ t, ts[k]? = some t := ⟨ts[k], List.getElem?_eq_getElem (by omega)⟩
              obtain ⟨u, hu⟩ : ∃ u, us[k]? = some u := ⟨us[k], List.getElem?_eq_getElem (by omega)⟩
              obtain ⟨-, -, -, c3, c4⟩ := (HAT8.out.ext hup) _ _ ht
              obtain ⟨-, -, -, d3, d4⟩ := (HBT8.out.ext hup) _ _ hu
              have HUP := Lib.hid hup
              have hd := (Upto.refl [] wr).drew
              have hdd := hd.drew
              have HUQ := Lib.hid (hup.trans_ext hd)
              have HUR := Lib.hid (hup.trans_ext hdd)
              by_cases hhit : t.line = r1.line ∧ t.col = r1.col
              · obtain ⟨g1, g2⟩ := HB.out.hit k t u ht hu hhit.1 hhit.2
                rw [hhit.1] at c3
                rw [hhit.2] at c4
                rw [g1] at d3
                rw [g2] at d4
                replace c4 : wr.cell? ⟨g, og + k * 5 + 3 + 1, none⟩ = some (.int .i64 r1.col) := c4
                replace d4 : wr.cell? ⟨g5, og5 + k * 5 + 3 + 1, none⟩ = some (.int .i64 r2.col) := d4
                have c3e := (hd.cell (World.block_lt_of_cell? wr _ c3) (by simp)).trans c3
                have c4e := (hd.cell (World.block_lt_of_cell? wr _ c4) (by simp)).trans c4
                have d3e := (hd.cell (World.block_lt_of_cell? wr _ d3) (by simp)).trans d3
                have d4e := (hd.cell (World.block_lt_of_cell? wr _ d4) (by simp)).trans d4
                have xp0e := (hd.cell (World.block_lt_of_cell? wr _ xp0) (by simp)).trans xp0
                have xp1e := (hd.cell (World.block_lt_of_cell? wr _ xp1) (by simp)).trans xp1
                have xq0e := (hd.cell (World.block_lt_of_cell? wr _ xq0) (by simp)).trans xq0
                have xq1e := (hd.cell (World.block_lt_of_cell? wr _ xq1) (by simp)).trans xq1
                have c3f := (hdd.cell (World.block_lt_of_cell? wr _ c3) (by simp)).trans c3
                have c4f := (hdd.cell (World.block_lt_of_cell? wr _ c4) (by simp)).trans c4
                have d3f := (hdd.cell (World.block_lt_of_cell? wr _ d3) (by simp)).trans d3
                have d4f := (hdd.cell (World.block_lt_of_cell? wr _ d4) (by simp)).trans d4
                have xp0f := (hdd.cell (World.block_lt_of_cell? wr _ xp0) (by simp)).trans xp0
                have xp1f := (hdd.cell (World.block_lt_of_cell? wr _ xp1) (by simp)).trans xp1
                have xq0f := (hdd.cell (World.block_lt_of_cell? wr _ xq0) (by simp)).trans xq0
                have xq1f := (hdd.cell (World.block_lt_of_cell? wr _ xq1) (by simp)).trans xq1
                clear hup hpb hpd g1 g2 hhit ht hu hd hdd
                go_wp2_with fail
                go_region
                all_goals (
                  go_wp2_with fail
                  go_region
                  all_goals (
                    go_wp2_with fail
                    go_ret
                    exact ⟨rfl, HU8.out.trans_ext HUR.out⟩))
              · by_cases h1 : t.line = r1.line
                · have h2 : ¬ ((t.col : Int) = (r1.col : Int)) := fun h => hhit ⟨h1, by omega⟩
                  rw [h1] at c3
                  replace c4 : wr.cell? ⟨g, og + k * 5 + 3 + 1, none⟩ = some (.int .i64 t.col) := c4
                  have HM2 : Hid (∀ (i : Nat) (t : Tok), i < k + 1 → ts[i]? = some t → ¬ (t.line = r1.line ∧ t.col = r1.col)) := Lib.hid (fun i t' hi ht' => by
                    by_cases hik : i = k
                    · subst hik
                      rw [ht] at ht'
                      cases ht'
                      exact hhit
                    · exact HM.out i t' (by omega) ht')
                  have c3e := (hd.cell (World.block_lt_of_cell? wr _ c3) (by simp)).trans c3
                  have c4e := (hd.cell (World.block_lt_of_cell? wr _ c4) (by simp)).trans c4
                  have xp0e := (hd.cell (World.block_lt_of_cell? wr _ xp0) (by simp)).trans xp0
                  have xp1e := (hd.cell (World.block_lt_of_cell? wr _ xp1) (by simp)).trans xp1
                  clear hup hpb hpd ht hu HM hd hdd
                  go_wp2_with fail
                  go_region
                  all_goals (
                    go_wp2_with fail
                    go_roundw
                    case rel => exact ⟨k + 1, by omega, by go_num, HM2, HUQ.out⟩
                    case measure => simp [intOf]; omega)
                · have h2 : ¬ ((t.line : Int) = (r1.line : Int)) := fun h => h1 (by omega)
                  replace c4 : wr.cell? ⟨g, og + k * 5 + 3 + 1, none⟩ = some (.int .i64 t.col) := c4
                  have HM2 : Hid (∀ (i : Nat) (t : Tok), i < k + 1 → ts[i]? = some t → ¬ (t.line = r1.line ∧ t.col = r1.col)) := Lib.hid (fun i t' hi ht' => by
                    by_cases hik : i = k
                    · subst hik
                      rw [ht] at ht'
                      cases ht'
                      exact hhit
                    · exact HM.out i t' (by omega) ht')
                  have c3e := (hd.cell (World.block_lt_of_cell? wr _ c3) (by simp)).trans c3
                  have c4e := (hd.cell (World.block_lt_of_cell? wr _ c4) (by simp)).trans c4
                  have xp0e := (hd.cell (World.block_lt_of_cell? wr _ xp0) (by simp)).trans xp0
                  have xp1e := (hd.cell (World.block_lt_of_cell? wr _ xp1) (by simp)).trans xp1
                  clear hup hpb hpd ht hu HM hd hdd
                  go_wp2_with fail
                  go_region
                  all_goals (
                    go_wp2_with fail
                    go_roundw
                    case rel => exact ⟨k + 1, by omega, by go_num, HM2, HUQ.out⟩
                    case measure => simp [intOf]; omega)
            · have hge' : ¬ (k : Int) < n := by omega
              obtain ⟨g1, g2, g3, g4⟩ := HB.out.miss (fun i t ht => HM.out i t (by have := (List.getElem?_eq_some_iff.1 ht).1; omega) ht)
              rw [g1] at xp0
              rw [g2] at xp1
              rw [g3] at xq0
              rw [g4] at xq1
              have HUP := Lib.hid hup
              clear hup hpb hpd g1 g2 g3 g4
              go_wp2_with fail
              go_ret
              exact ⟨rfl, HU8.out.trans_ext HUP.out⟩
end Go.Proofs.YtkhbpebpljdifaaDoor
