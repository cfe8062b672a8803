/- Texts merged, in build order: Ck, Zs, Zo, Zq. -/
import Derived.Test.YtkhbpebpljdifaaGreatDoorMFog
namespace Go.Proofs.YtkhbpebpljdifaaGreatDoor
open Go.PL
def varsE (nm : List UInt8 → Bool) : List (List UInt8 × Int) → List (List UInt8) → Nat
  | [], _ => 0
  | v :: r, seen => if nm v.1 = false then 3 else if (decide (v.2 < 0) || decide (3 < v.2)) = true then 2 else if seen.contains v.1 = true then 7 else varsE nm r (seen ++ [v.1])
def rightF (nm : List UInt8 → Bool) (q : Qn) : Nat :=
  if 8 < q.free.length then 8 else if varsE nm q.free [] ≠ 0 then varsE nm q.free [] else checkF nm q.body
end Go.Proofs.YtkhbpebpljdifaaGreatDoor
namespace Go.Proofs.YtkhbpebpljdifaaGreatDoor
open Go.RowKit Go.PL Go.Maps
set_option maxRecDepth 100000 in
set_option maxHeartbeats 1600000 in
theorem sname_calls (s : Int) (w : World) (hs : SEnv w) : Calls Tryz.prog 37 #[.int .i64 s] w fun e w' => e = .returned (.string ⟨(sortW s).toArray⟩) ∧ Upto [] w w' := by
  have HU := Lib.hid (Upto.refl [] w)
  by_cases h0 : s < 0
  · have e : sortW s = [] := by unfold sortW; rw [if_neg (by omega), if_neg (by omega), if_neg (by omega), if_neg (by omega)]
    rw [e]
    clear e hs
    go_enter Tryz.func37, Tryz.ntmps37
    go_wp2_with fail
    go_ret
    exact ⟨rfl, HU.out⟩
  by_cases h1 : (4 : Int) ≤ s
  · have e : sortW s = [] := by unfold sortW; rw [if_neg (by omega), if_neg (by omega), if_neg (by omega), if_neg (by omega)]
    rw [e]
    clear e hs
    go_enter Tryz.func37, Tryz.ntmps37
    go_wp2_with fail
    go_ret
    exact ⟨rfl, HU.out⟩
  have hc : s = 0 ∨ s = 1 ∨ s = 2 ∨ s = 3 := by omega
  have c0 := hs.c0
  have c1 := hs.c1
  have c2 := hs.c2
  have c3 := hs.c3
  clear hs h0 h1
  rcases hc with rfl | rfl | rfl | rfl
  · go_enter Tryz.func37, Tryz.ntmps37
    go_wp2_with fail
    go_ret
    exact ⟨rfl, HU.out⟩
  · go_enter Tryz.func37, Tryz.ntmps37
    go_wp2_with fail
    go_ret
    exact ⟨rfl, HU.out⟩
  · go_enter Tryz.func37, Tryz.ntmps37
    go_wp2_with fail
    go_ret
    exact ⟨rfl, HU.out⟩
  · go_enter Tryz.func37, Tryz.ntmps37
    go_wp2_with fail
    go_ret
    exact ⟨rfl, HU.out⟩
theorem vars_get {w : World} {P : Nat → Prop} {v : Value} {f : List (List UInt8 × Int)} (h : VarsV w P v f) : ∃ a c, v = .slice a f.length c ∧ ∀ i x, f[i]? = some x → ∃ g o, a = some ⟨g, o, none⟩ ∧ w.cell? ⟨g, o + i * 2, none⟩ = some (.string ⟨x.1.toArray⟩) ∧ w.cell? ⟨g, o + i * 2 + 1, none⟩ = some (.int .i64 x.2) := by
  obtain ⟨a, c, rfl, hg⟩ := SlP.get h
  refine ⟨a, c, rfl, fun i x hi => ?_⟩
  obtain ⟨g, o, rfl, h1⟩ := hg _ _ (vars_at hi).1
  obtain ⟨g2, o2, e, h2⟩ := hg _ _ (vars_at hi).2
  simp at e
  obtain ⟨rfl, rfl⟩ := e
  exact ⟨g, o, rfl, h1, h2⟩
theorem vars_slice {w : World} {P : Nat → Prop} {a : Option Addr} {n c : Nat} {f : List (List UInt8 × Int)} (h : VarsV w P (.slice a n c) f) : ∀ i x, f[i]? = some x → ∃ g o, a = some ⟨g, o, none⟩ ∧ w.cell? ⟨g, o + i * 2, none⟩ = some (.string ⟨x.1.toArray⟩) ∧ w.cell? ⟨g, o + i * 2 + 1, none⟩ = some (.int .i64 x.2) := by
  obtain ⟨a', c', e, hg⟩ := vars_get h
  cases e
  exact hg
theorem right_vars {nm : List UInt8 → Bool} {q : Qn} {k : Nat} (h8 : ¬ 8 < q.free.length) (h0 : k ≠ 0) (h : varsE nm q.free [] = k) : rightF nm q = k := by
  unfold rightF
  rw [if_neg h8, h, if_pos h0]
theorem right_body {nm : List UInt8 → Bool} {q : Qn} (h8 : ¬ 8 < q.free.length) (h : varsE nm q.free [] = 0) : rightF nm q = checkF nm q.body := by
  unfold rightF
  rw [if_neg h8, h]
  rfl
structure OfRow (w0 w : World) (B : Nat) (c : Nat → Nat → Value) (v : Value) (ms : List Nd) : Prop where
  row : w.ownsRow 0 34 6 v ms.length (cellsN c ms.length)
  nd : ∀ i m, ms[i]? = some m → NdV w (Lr w0 B v) m (.agg #[c i 0, c i 1, c i 2, c i 3, c i 4, c i 5])
  own : ∀ g, v.ownBlock = some g → w0.heap.size ≤ g ∧ g ≠ B
theorem OfRow.upto {w0 w w' : World} {S : List Nat} {B : Nat} {c : Nat → Nat → Value} {v : Value} {ms : List Nd} (h : OfRow w0 w B c v ms) (hu : Upto S w w') (hS : ∀ k ∈ S, k < w0.heap.size ∨ k = B) : OfRow w0 w' B c v ms :=
  ⟨ownsRow_upto h.row hu (fun g hg hm => by have h1 := h.own g hg; rcases hS g hm with h2 | h2 <;> omega),
   fun i m hi => (h.nd i m hi).upto hu (fun b hb _ hm => by have h1 := hb.1; unfold New at h1; rcases hS b hm with h2 | h2; omega; exact hb.2.1 h2), h.own⟩
theorem OfRow.app {w0 w w5 : World} {B : Nat} {c : Nat → Nat → Value} {v : Value} {ms : List Nd} {m : Nd} {v0 v1 v2 v3 v4 v5 : Value} {b' : Option Addr} {c' : Nat} (h : OfRow w0 w B c v ms) (hsz : w0.heap.size ≤ w.heap.size) (hBw : B < w.heap.size)
    (hm : NdV w (Lr w0 B v) m (.agg #[v0, v1, v2, v3, v4, v5])) (ho : w5.ownsRow 0 34 6 (.slice b' (ms.length + 1) c') (ms.length + 1) (cellsN c ms.length ++ [v0, v1, v2, v3, v4, v5])) (hu : Upto v.ownBlock.toList w w5)
    (hw : ∀ g, (Value.slice b' (ms.length + 1) c').ownBlock = some g → v.ownBlock = some g ∨ w.heap.size ≤ g) : OfRow w0 w5 B (addC c ms.length v0 v1 v2 v3 v4 v5) (.slice b' (ms.length + 1) c') (ms ++ [m]) := by
  have key : ∀ x u, NdV w (Lr w0 B v) x u → NdV w5 (Lr w0 B (.slice b' (ms.length + 1) c')) x u := fun x u hx =>
    NdV.keep ⟨hu.size, fun b hb hl => ⟨⟨hb.1, hb.2.1, fun e => by
      rcases hw b e with h1 | h1
      · exact hb.2.2 h1
      · have := hl.lt; omega⟩, hu.block b hl.lt (fun hmm => hb.2.2 (Option.mem_toList.1 hmm))⟩⟩ x u hx
  refine ⟨?_, ?_, ?_⟩
  · rw [List.length_append, List.length_singleton, cellsN_add]
    exact ho
  · intro i x hi
    by_cases hlt : i < ms.length
    · rw [List.getElem?_append_left hlt] at hi
      have := key _ _ (h.nd i x hi)
      simpa [addC, Nat.ne_of_lt hlt] using this
    · rw [List.getElem?_append_right (by omega)] at hi
      cases hd : i - ms.length with
      | zero =>
        rw [hd] at hi
        simp at hi
        subst hi
        have : i = ms.length := by omega
        subst this
        simpa [addC] using key _ _ hm
      | succ z => rw [hd] at hi; simp at hi
  · intro g hg
    rcases hw g hg with h1 | h1
    · exact h.own g h1
    · exact ⟨by omega, by omega⟩
theorem OfRow.list {w0 w : World} {B : Nat} {c : Nat → Nat → Value} {v : Value} {ms : List Nd} {Q : Nat → Prop} (h : OfRow w0 w B c v ms) (h1 : ∀ b, Lr w0 B v b → Q b) (h2 : ∀ g, v.ownBlock = some g → Q g) : (ms = [] ∧ ∃ a c, v = .slice a 0 c) ∨ ∃ g o c, v = .slice (some ⟨g, o, none⟩) ms.length c ∧ (Q g ∧ IsC w g) ∧ NdsV w Q g o ms := by
  rcases h.row.2 with ⟨e, h0⟩ | ⟨g, cap, cur, e, _, hh, _, _, _, ht⟩
  · exact Or.inl ⟨List.eq_nil_of_length_eq_zero h0, none, 0, e⟩
  · refine Or.inr ⟨g, 0, cap, e, ⟨h2 g (by rw [e]; rfl), _, _, _, hh⟩, nds_of ms 0 fun i x hi => ?_⟩
    have hil : i < ms.length := (List.getElem?_eq_some_iff.1 hi).1
    have cl : ∀ j, j < 6 → w.cell? ⟨g, 0 + i * 6 + j, none⟩ = some (c i j) := fun j hj => by
      rw [cell_of hh]
      have := cellsN_at c hil hj
      rw [← ht, List.getElem?_take] at this
      split at this
      · simpa using this
      · cases this
    exact ⟨_, _, _, _, _, _, cl 0 (by omega), cl 1 (by omega), cl 2 (by omega), cl 3 (by omega), cl 4 (by omega), cl 5 (by omega), (h.nd i x hi).mono fun b hb _ => h1 b hb⟩
theorem infoO4 : (Tryz.prog.info? 34).map (fun i => (i.zero, i.size, i.bytes)) = some (some (.agg #[.int .i64 0, .slice none 0 0, .int .i64 0, .int .i64 0, .int .i64 0, .slice none 0 0]), 6, 80) := by kernel_rfl
theorem infoO4' : ∃ i, Tryz.prog.info? 34 = some i ∧ i.zero = some (.agg #[.int .i64 0, .slice none 0 0, .int .i64 0, .int .i64 0, .int .i64 0, .slice none 0 0]) ∧ i.size = 6 ∧ i.bytes = 80 := by
  have h := infoO4
  cases hi : Tryz.prog.info? 34 with
  | none => rw [hi] at h; cases h
  | some i =>
    rw [hi] at h
    simp only [Option.map_some, Option.some.injEq, Prod.mk.injEq] at h
    exact ⟨i, rfl, h.1, h.2.1, h.2.2⟩
structure OfI (w w9 : World) (bn : Nat) (op so nn mm : Int) (na : Option Addr) (nl nc : Nat) (ns : List Value) (l : List Nd) (j : Nat) (wr : World) : Prop where
  up : Upto [bn] w9 wr
  old : Upto [] w wr
  st : ∃ (va : Option Addr) (vn vc : Nat) (c : Nat → Nat → Value), wr.heap[bn]? = some (.cells #[.int .i64 op, .slice na nl nc, .int .i64 so, .int .i64 nn, .int .i64 mm, .slice va vn vc] 34 (0, 0)) ∧ OfRow w9 wr bn c (.slice va vn vc) (l.take j)
theorem of_step {w w9 wr w10 w5 W : World} {bn : Nat} {op so nn mm : Int} {na : Option Addr} {nl nc : Nat} {ns : List Value} {l : List Nd} {vn : Nat} {va : Option Addr} {vc : Nat} {c : Nat → Nat → Value} {x : Nd} {v0 v1 v2 v3 v4 v5 : Value} {b5 : Option Addr} {c5 : Nat}
    (HI : OfI w w9 bn op so nn mm na nl nc ns l vn wr) (HLT : W.heap.size ≤ bn ∧ bn < w9.heap.size) (HWL : w.heap.size < W.heap.size) (HUP : Upto [] W w9)
    (hbk : wr.heap[bn]? = some (.cells #[.int .i64 op, .slice na nl nc, .int .i64 so, .int .i64 nn, .int .i64 mm, .slice va vn vc] 34 (0, 0))) (hrow : OfRow w9 wr bn c (.slice va vn vc) (l.take vn))
    (hu : Upto [] wr w10) (hn : NdV w10 (New wr) x (.agg #[v0, v1, v2, v3, v4, v5])) (hjl : (l.take vn).length = vn) (htk : l.take (vn + 1) = l.take vn ++ [x])
    (ho5 : w5.ownsRow 0 34 6 (.slice b5 (vn + 1) c5) (vn + 1) (cellsN c vn ++ [v0, v1, v2, v3, v4, v5])) (hu5 : Upto (Value.slice va vn vc).ownBlock.toList w10 w5) (hw5 : ∀ g, (Value.slice b5 (vn + 1) c5).ownBlock = some g → (Value.slice va vn vc).ownBlock = some g ∨ w10.heap.size ≤ g) :
    w5.heap[bn]? = some (.cells #[.int .i64 op, .slice na nl nc, .int .i64 so, .int .i64 nn, .int .i64 mm, .slice va vn vc] 34 (0, 0)) ∧ OfI w w9 bn op so nn mm na nl nc ns l (vn + 1) (w5.setCell ⟨bn, 5, none⟩ (.slice b5 (vn + 1) c5)) := by
  have hown : ∀ g, g ∈ (Value.slice va vn vc).ownBlock.toList → w9.heap.size ≤ g ∧ g ≠ bn := fun g hg => hrow.own g (Option.mem_toList.1 hg)
  have hold : ∀ g, (Value.slice va vn vc).ownBlock = some g → g < wr.heap.size := fun g hg => by
    obtain ⟨cur, hh⟩ := ownsRow_block hrow.row hg
    exact lt_of_heap hh
  have hb5 := hu5.at (hu.at hbk (by simp)) (fun hm => (hown _ hm).2 rfl)
  have hst : Upto [bn] w5 (w5.setCell ⟨bn, 5, none⟩ (.slice b5 (vn + 1) c5)) := (Upto.refl [bn] w5).setCell (p := ⟨bn, 5, none⟩) (Or.inl (by simp)) _
  have hs9 := HI.up.size
  have hs10 := hu.size
  have hW := HUP.size
  have hbw := lt_of_heap hbk
  refine ⟨hb5, ⟨?_, ?_, b5, vn + 1, c5, addC c vn v0 v1 v2 v3 v4 v5, ?_, ?_⟩⟩
  · exact ((HI.up.trans_ext hu).trans hu5 (fun k hk => Or.inr (hown k hk).1)).setCell (p := ⟨bn, 5, none⟩) (Or.inl (by simp)) _
  · exact ((HI.old.trans_ext hu).trans hu5 (fun k hk => Or.inr (by have := (hown k hk).1; omega))).setCell (p := ⟨bn, 5, none⟩) (Or.inr (by simp; omega)) _
  · have := set_same hb5 5 (.slice b5 (vn + 1) c5)
    simpa using this
  · have happ := OfRow.app (m := x) (v0 := v0) (v1 := v1) (v2 := v2) (v3 := v3) (v4 := v4) (v5 := v5) (b' := b5) (c' := c5) (w5 := w5) (hrow.upto hu (by simp)) (by omega) (by omega)
      (hn.mono (fun b hb _ => ⟨by unfold New at hb ⊢; omega, by unfold New at hb; omega, fun e => by have := hold b e; unfold New at hb; omega⟩)) (by rw [hjl]; exact ho5) hu5 (by rw [hjl]; exact hw5)
    rw [hjl] at happ
    rw [htk]
    exact happ.upto hst (fun k hk => Or.inr (by simpa using hk))
theorem of_end {w w9 wr W : World} {bn : Nat} {op so nn mm : Int} {na : Option Addr} {nc : Nat} {ns : List Value} {names : List (List UInt8)} {l : List Nd} {vn : Nat} {va : Option Addr} {vc : Nat} {c : Nat → Nat → Value} {_P : Nat → Prop}
    (HI : OfI w w9 bn op so nn mm na names.length nc ns l vn wr) (HLT : W.heap.size ≤ bn ∧ bn < w9.heap.size) (_HWL : w.heap.size < W.heap.size) (HW2 : w.heap.size + 1 < W.heap.size) (HUP : Upto [] W w9)
    (hbn : w9.heap[bn]? = some (.cells #[.int .i64 0, .slice none 0 0, .int .i64 0, .int .i64 0, .int .i64 0, .slice none 0 0] 34 (0, 0)))
    (hsl : SlP w9 (New W) (.slice na names.length nc) names.length (names.map sV))
    (_hz2 : wr.heap[w.heap.size + 1]? = some (.cells #[.int .i64 0, .slice none 0 0, .int .i64 0, .int .i64 0, .int .i64 0, .slice none 0 0] 34 (0, 0)))
    (hrow : OfRow w9 wr bn c (.slice va vn vc) (l.take vn)) (htk : l.take vn = l) (_hll : l.length = vn) :
    BkPost w (.mk op names so nn mm l) (.returned (.agg #[.int .i64 op, .slice na names.length nc, .int .i64 so, .int .i64 nn, .int .i64 mm, .slice va vn vc])) ((((((wr.setCell ⟨w.heap.size + 1, 0, none⟩ (.int .i64 op)).setCell ⟨w.heap.size + 1, 1, none⟩ (.slice na names.length nc)).setCell ⟨w.heap.size + 1, 2, none⟩ (.int .i64 so)).setCell ⟨w.heap.size + 1, 3, none⟩ (.int .i64 nn)).setCell ⟨w.heap.size + 1, 4, none⟩ (.int .i64 mm)).setCell ⟨w.heap.size + 1, 5, none⟩ (.slice va vn vc)) := by
  have hst := nd_self wr (w.heap.size + 1) (.int .i64 op) (.slice na names.length nc) (.int .i64 so) (.int .i64 nn) (.int .i64 mm) (.slice va vn vc)
  have hW := HUP.size
  have hrow2 := hrow.upto hst (fun k hk => Or.inl (by simp at hk; omega))
  rw [htk] at hrow2
  have hs2 := ((names_ne hsl rfl hbn).upto HI.up (fun b hb _ => by simpa using hb.2)).upto hst (fun b hb _ => by have := hb.1; unfold New at this; simp; omega)
  refine ⟨_, rfl, ?_, nd_up HI.old (Or.inr (by omega)) ..⟩
  unfold NdV
  refine ⟨_, _, rfl, hs2.mono (fun b hb _ => by have := hb.1; unfold New at this ⊢; omega), ?_⟩
  have := hrow2.list (Q := New w) (fun b hb => by have := hb.1; unfold New at this ⊢; omega) (fun g hg => by have := (hrow.own g hg).1; unfold New; omega)
  exact this
set_option maxRecDepth 100000 in
set_option maxHeartbeats 6400000 in
theorem of_calls : ∀ (k : Nat) (nd : Nd), sizeF nd ≤ k → k ≤ 10000000 → bigN nd → ∀ (P : Nat → Prop) (v : Value) (w : World), NdV w P nd v → Calls Tryz.prog 46 #[v] w (BkPost w nd)
  | 0, nd, hk, _, _, _, _, _, _ => by have := sizeF_pos nd; omega
  | k + 1, .mk op names so nn mm l, hk, hk7, hbg, P, v, w, h => by
    obtain ⟨a1, c1, a2, c2, rfl, hs, hls⟩ := h.open
    unfold bigN at hbg
    have hsz : sizesF l ≤ k := by simp only [sizeF] at hk; omega
    have hln := sizes_len l
    have hu2 : Upto [] w ((w.alloc (.cells #[.int .i64 op, .slice a1 names.length c1, .int .i64 so, .int .i64 nn, .int .i64 mm, .slice a2 l.length c2] 25)).alloc (.cells #[.int .i64 0, .slice none 0 0, .int .i64 0, .int .i64 0, .int .i64 0, .slice none 0 0] 34)) := ((Upto.refl [] w).alloc _).alloc _
    have hb1 := alloc_old (new_at w (.cells #[.int .i64 op, .slice a1 names.length c1, .int .i64 so, .int .i64 nn, .int .i64 mm, .slice a2 l.length c2] 25)) (.cells #[.int .i64 0, .slice none 0 0, .int .i64 0, .int .i64 0, .int .i64 0, .slice none 0 0] 34)
    have hb2 := new_at1 w (.cells #[.int .i64 op, .slice a1 names.length c1, .int .i64 so, .int .i64 nn, .int .i64 mm, .slice a2 l.length c2] 25) (.cells #[.int .i64 0, .slice none 0 0, .int .i64 0, .int .i64 0, .int .i64 0, .slice none 0 0] 34)
    obtain ⟨W, hW⟩ : ∃ W, W = ((w.alloc (.cells #[.int .i64 op, .slice a1 names.length c1, .int .i64 so, .int .i64 nn, .int .i64 mm, .slice a2 l.length c2] 25)).alloc (.cells #[.int .i64 0, .slice none 0 0, .int .i64 0, .int .i64 0, .int .i64 0, .slice none 0 0] 34)) := ⟨_, rfl⟩
    rw [← hW] at hu2 hb1 hb2
    have HU2 := Lib.hid hu2
    have HB1 := Lib.hid hb1
    have HB2 := Lib.hid hb2
    have hns : SlP W P (.slice a1 names.length c1) (names.map sV).length (names.map sV) := by rw [List.length_map]; exact hs.ext hu2
    have HNS := Lib.hid hns.slc
    have HNL := Lib.hid hbg.1
    obtain ⟨i0, hi0, hz0, hz1, hz2⟩ := info9'
    obtain ⟨x0, x1, x2, x3, x4, x5⟩ := cells6 hb1
    have hwl : w.heap.size < W.heap.size := lt_of_heap hb1
    have hwr := Upto.refl [] W
    clear hs h hu2 hb1 hb2 hns
    go_enter Tryz.func46, Tryz.ntmps46
    go_wp2_with fail
    simp only [← hW]
    clear hW
    have e0 : ∀ u : Ext W, u.w.cell? ⟨w.heap.size, 0, none⟩ = some _ := fun u => u.cell x0
    have e1 : ∀ u : Ext W, u.w.cell? ⟨w.heap.size, 1, none⟩ = some _ := fun u => u.cell x1
    have e2 : ∀ u : Ext W, u.w.cell? ⟨w.heap.size, 2, none⟩ = some _ := fun u => u.cell x2
    have e3 : ∀ u : Ext W, u.w.cell? ⟨w.heap.size, 3, none⟩ = some _ := fun u => u.cell x3
    have e4 : ∀ u : Ext W, u.w.cell? ⟨w.heap.size, 4, none⟩ = some _ := fun u => u.cell x4
    refine wp_region_seg_at [2, 5] [13] [0, 1, 2, 3, 4, 5, 6, 7, 8, 9, 10, 11, 12, 13] [14] 14 (by kernel_rfl) (by kernel_rfl) (by kernel_rfl) ?_
    iterate 2 (refine seg_plain rfl rfl rfl rfl rfl ?_; intro K' hK'; go_big_quiet_op; go_big_quiet_on)
    refine seg_opq (Y := Nat) (fun b => .slice (some ⟨b, 0, none⟩) 0 0) (fun _ _ => True) (fun _ => []) rfl rfl rfl rfl (fun _ _ _ h _ => h) (fun _ => List.nodup_nil) (fun w' post hu hd hp => (congrArg (opqUpon Tryz.prog post) (show _ = Result.ok (Next.value (.slice (some ⟨w'.heap.size, 0, none⟩) 0 0)) (w'.alloc (.cells #[] 9)) from by go_simp)).mpr (hp w'.heap.size _ ((Upto.refl [] w').alloc _) trivial (fun b hb => by cases hb))) ?_
    intro be
    simp only [Act.put, List.setIfInBounds_toArray, List.set_cons_zero, List.set_cons_succ]
    iterate 2 (refine seg_plain rfl rfl rfl rfl rfl ?_; intro K' hK'; go_big_quiet_op; go_big_quiet_on)
    refine seg_opq (Y := Option Addr × Nat) (fun y => .slice y.1 names.length y.2) (fun y u => SlP u (New W) (.slice y.1 names.length y.2) names.length (names.map sV)) (fun _ => []) rfl rfl rfl rfl (fun _ _ _ h hu => h.ext hu) (fun _ => List.nodup_nil) (fun w' post hu hd hp => opq_apps w' (.tmp 7) (.tmp 9) 22 rfl 9 i0 (.string ⟨#[]⟩) 16 Tryz.underlying22 hi0 hz0 hz1 hz2 rfl be rfl (.slice a1 names.length c1) (names.map sV) names.length (by simp) rfl (HNS.out.ext hu) (by have := HNL.out; unfold maxLen; omega) (by have := HNL.out; omega) (fun b' c' w2 hu2 hsl => hp (b', c') w2 hu2 (hsl.mono (fun b hb _ => New.mono hu b hb)) (fun b hb => by cases hb))) ?_
    rintro ⟨na, nc⟩
    simp only [Act.put, List.setIfInBounds_toArray, List.set_cons_zero, List.set_cons_succ]
    iterate 7 (refine seg_plain rfl rfl rfl rfl rfl ?_; intro K' hK'; go_big_quiet_op; go_big_quiet_on)
    refine seg_alloc (.cells #[.int .i64 0, .slice none 0 0, .int .i64 0, .int .i64 0, .int .i64 0, .slice none 0 0] 34) rfl rfl rfl (fun w => by go_simp) ?_
    intro bn
    simp only [Act.put, List.setIfInBounds_toArray, List.set_cons_zero, List.set_cons_succ]
    intro w9 hg
    have hup := hg.up
    have hnb := hg.hold.1
    have hsl := hg.hold.2.1
    have hin := hg.inb
    simp only [List.drop_succ_cons, List.drop_zero]
    have hbn : W.heap.size ≤ bn ∧ bn < w9.heap.size := hin _ (List.Mem.head _) bn (List.Mem.head _)
    have HSL := Lib.hid hsl
    have HUP := Lib.hid hup
    have HBN := Lib.hid hnb
    have HLT := Lib.hid hbn
    have HWL := Lib.hid hwl
    have hw2 : w.heap.size + 1 < W.heap.size := lt_of_heap HB2.out
    have HW2 := Lib.hid hw2
    obtain ⟨n0, n1, n2, n3, n4, n5⟩ := cells6 hnb
    obtain ⟨f0, f1, f2, f3, f4, f5⟩ := frees6 hnb
    have hset := set_same (set_same (set_same (set_same (set_same (set_same hnb 0 (.int .i64 op)) 1 (.slice na names.length nc)) 2 (.int .i64 so)) 3 (.int .i64 nn)) 4 (.int .i64 mm)) 5 (.slice none 0 0)
    simp only [List.setIfInBounds_toArray, List.set_cons_zero, List.set_cons_succ] at hset
    have hsu : Upto [bn] w9 ((((((w9.setCell ⟨bn, 0, none⟩ (.int .i64 op)).setCell ⟨bn, 1, none⟩ (.slice na names.length nc)).setCell ⟨bn, 2, none⟩ (.int .i64 so)).setCell ⟨bn, 3, none⟩ (.int .i64 nn)).setCell ⟨bn, 4, none⟩ (.int .i64 mm)).setCell ⟨bn, 5, none⟩ (.slice none 0 0)) := nd_self ..
    have HI0 : Hid (OfI w w9 bn op so nn mm na names.length nc (names.map sV) l 0 ((((((w9.setCell ⟨bn, 0, none⟩ (.int .i64 op)).setCell ⟨bn, 1, none⟩ (.slice na names.length nc)).setCell ⟨bn, 2, none⟩ (.int .i64 so)).setCell ⟨bn, 3, none⟩ (.int .i64 nn)).setCell ⟨bn, 4, none⟩ (.int .i64 mm)).setCell ⟨bn, 5, none⟩ (.slice none 0 0))) := Lib.hid
      ⟨hsu, (HU2.out.trans_ext hup).trans hsu (fun k hk => Or.inr (by simp at hk; omega)), none, 0, 0, fun _ _ => undef, hset, ⟨by simpa [cellsN] using World.ownsRow_nil _ 0 34 6, by simp, by intro g hg; cases hg⟩⟩
    clear hg hup hnb hsl hin hset hsu e0 e1 e2 e3 e4
    go_wp2_with fail
    have HLS := Lib.hid hls
    have HLN : Hid (l.length ≤ 10000000) := Lib.hid (by omega)
    generalize hll : l.length = ll at *
    have HLL := Lib.hid hll
    have hL0 : (0 : Int) ≤ ll := by omega
    have hL1 : (ll : Int) ≤ 10000000 := by have := HLN.out; omega
    clear hls hll
    go_loopw [4] (fun v wr => ∃ j : Nat, j ≤ ll ∧ v = .int .i64 j ∧ Hid (OfI w w9 bn op so nn mm na names.length nc (names.map sV) l j wr)) (fun v _ => ll - (intOf v).toNat)
    case atStart => exact ⟨0, by omega, rfl, HI0⟩
    case round =>
      obtain ⟨j, hj, rfl, HI⟩ := hrel
      obtain ⟨va, vn, vc, c, hbk, hrow⟩ := HI.out.st
      have hbox := HI.out.up.at (HUP.out.at HB1.out (by simp)) (by have := HLT.out; have := HWL.out; simp; omega)
      have z5 := cell_of hbox 5
      have y5 := cell_of hbk 5
      have g5 := free_of hbk 5
      simp only [List.getElem?_toArray, List.getElem?_cons_zero, List.getElem?_cons_succ] at z5 y5
      obtain ⟨va', vc', hve, -⟩ := ownsRow_len hrow.row
      simp only [Value.slice.injEq] at hve
      have hvn : vn = j := by have := HLL.out; rw [hve.2.1, List.length_take]; omega
      clear hve
      subst hvn
      rcases Nat.lt_or_ge vn ll with hlt | hge
      · obtain ⟨x, hx⟩ : ∃ x, l[vn]? = some x := ⟨_, List.getElem?_eq_getElem (by have := HLL.out; omega)⟩
        obtain ⟨g, o, xo, xn1, xn2, xn3, xs, xm, xq, xl1, xl2, xl3, rfl, c0, c1', c2', c3, c4, c5, hn⟩ := (HLS.out.ext HI.out.old) vn x hx
        have hjl : (l.take vn).length = vn := by have := HLL.out; rw [List.length_take]; omega
        have HJL := Lib.hid hjl
        have HTK : Hid (l.take (vn + 1) = l.take vn ++ [x]) := Lib.hid (by
          obtain ⟨hi, rfl⟩ := List.getElem?_eq_some_iff.1 hx
          exact List.take_succ_eq_append_getElem hi)
        have HROW := Lib.hid hrow
        have HBK := Lib.hid hbk
        have hxs := sizesF_mem (List.mem_of_getElem? hx)
        have HC := Lib.hid (fun w1 (hu : Upto [] wr w1) => of_calls k x (by omega) (by omega) (bigs_mem hbg.2 (List.mem_of_getElem? hx)) P _ w1 (hn.ext hu))
        have hltI : (vn : Int) < ll := by omega
        have hj0 : (0 : Int) ≤ vn := by omega
        clear hrow hbk hbox hn hx
        go_wp2_with fail
        have e0 : ∀ u : Ext wr, u.w.cell? ⟨bn, 5, none⟩ = some (.slice va vn vc) := fun u => u.cell y5
        have e1 : ∀ u : Ext wr, u.w.cell? ⟨w.heap.size, 5, none⟩ = some _ := fun u => u.cell z5
        have k0 : ∀ u : Ext wr, u.w.cell? ⟨g, o + vn * 6, none⟩ = some _ := fun u => u.cell c0
        have k1 : ∀ u : Ext wr, u.w.cell? ⟨g, o + vn * 6 + 1, none⟩ = some _ := fun u => u.cell c1'
        have k2 : ∀ u : Ext wr, u.w.cell? ⟨g, o + vn * 6 + 2, none⟩ = some _ := fun u => u.cell c2'
        have k3 : ∀ u : Ext wr, u.w.cell? ⟨g, o + vn * 6 + 3, none⟩ = some _ := fun u => u.cell c3
        have k4 : ∀ u : Ext wr, u.w.cell? ⟨g, o + vn * 6 + 4, none⟩ = some _ := fun u => u.cell c4
        have k5 : ∀ u : Ext wr, u.w.cell? ⟨g, o + vn * 6 + 5, none⟩ = some _ := fun u => u.cell c5
        clear y5 z5 g5 c0 c1' c2' c3 c4 c5
        refine wp_region_seg_at [7, 8] [] [0, 1, 2, 3, 4, 5, 6, 7, 8] [9, 10, 11] 9 (by kernel_rfl) (by kernel_rfl) (by kernel_rfl) ?_
        iterate 7 (refine seg_plain rfl rfl rfl rfl rfl ?_; intro K' hK'; go_big_quiet_op; go_big_quiet_on)
        refine seg_callO (Y := (Int × Option Addr × Nat × Nat) × Int × Int × Int × Option Addr × Nat × Nat) (fun y => .agg #[.int .i64 y.1.1, .slice y.1.2.1 y.1.2.2.1 y.1.2.2.2, .int .i64 y.2.1, .int .i64 y.2.2.1, .int .i64 y.2.2.2.1, .slice y.2.2.2.2.1 y.2.2.2.2.2.1 y.2.2.2.2.2.2]) (fun y u => NdV u (New wr) x (.agg #[.int .i64 y.1.1, .slice y.1.2.1 y.1.2.2.1 y.1.2.2.2, .int .i64 y.2.1, .int .i64 y.2.2.1, .int .i64 y.2.2.2.1, .slice y.2.2.2.2.1 y.2.2.2.2.2.1 y.2.2.2.2.2.2])) (fun _ => []) rfl rfl rfl rfl (fun _ _ _ h hu => h.ext hu) (fun _ => List.nodup_nil) (fun w => by go_simp) (fun w' hu hd => (HC.out w' hu).mono fun e w2 ⟨v, h1, h2, h3⟩ => by
          obtain ⟨ro, rn1, rn2, rn3, rs, rm, rq, rl1, rl2, rl3, rfl⟩ := h2.six
          exact ⟨((ro, rn1, rn2, rn3), rs, rm, rq, rl1, rl2, rl3), h1, h3, h2.mono (fun b hb _ => New.mono hu b hb), fun b hb => by cases hb⟩) ?_
        rintro ⟨⟨ro, rn1, rn2, rn3⟩, rs, rm, rq, rl1, rl2, rl3⟩
        simp only [Act.put, List.setIfInBounds_toArray, List.set_cons_zero, List.set_cons_succ]
        refine seg_opq (Y := Nat) (fun b => .slice (some ⟨b, 0, none⟩) 1 1) (fun b u => u.heap[b]? = some (.cells #[.int .i64 ro, .slice rn1 rn2 rn3, .int .i64 rs, .int .i64 rm, .int .i64 rq, .slice rl1 rl2 rl3] 34 (0, 0))) (fun _ => []) rfl rfl rfl rfl (fun _ _ _ h hu => hu.at h (by simp)) (fun _ => List.nodup_nil) (fun w' post hu hd hp => (congrArg (opqUpon Tryz.prog post) (show _ = Result.ok (Next.value (.slice (some ⟨w'.heap.size, 0, none⟩) 1 1)) (w'.alloc (.cells #[.int .i64 ro, .slice rn1 rn2 rn3, .int .i64 rs, .int .i64 rm, .int .i64 rq, .slice rl1 rl2 rl3] 34)) from by go_simp)).mpr (hp w'.heap.size _ ((Upto.refl [] w').alloc _) (new_at _ _) (fun b hb => by cases hb))) ?_
        intro b8
        simp only [Act.put, List.setIfInBounds_toArray, List.set_cons_zero, List.set_cons_succ]
        intro w10 hg
        have HU10 := Lib.hid hg.up
        have HB8 : Hid (w10.heap[b8]? = some (.cells #[.int .i64 ro, .slice rn1 rn2 rn3, .int .i64 rs, .int .i64 rm, .int .i64 rq, .slice rl1 rl2 rl3] 34 (0, 0))) := Lib.hid hg.hold.1
        have HND : Hid (NdV w10 (New wr) x (.agg #[.int .i64 ro, .slice rn1 rn2 rn3, .int .i64 rs, .int .i64 rm, .int .i64 rq, .slice rl1 rl2 rl3])) := Lib.hid hg.hold.2.1
        simp only [List.drop_succ_cons, List.drop_zero]
        clear hg e0 e1 k0 k1 k2 k3 k4 k5
        have HR10 := Lib.hid (HROW.out.upto HU10.out (by simp))
        have hr10 := HR10.out.row
        rw [hjl] at hr10
        have HRR := Lib.hid hr10
        obtain ⟨i1, hi1, hy0, hy1, hy2⟩ := infoO4'
        have hL7 := HLN.out
        have HA := Lib.hid (fun b5 c5 w5 (ho5 : w5.ownsRow 0 34 6 (.slice b5 (vn + 1) c5) (vn + 1) (cellsN c vn ++ [.int .i64 ro, .slice rn1 rn2 rn3, .int .i64 rs, .int .i64 rm, .int .i64 rq, .slice rl1 rl2 rl3])) (hu5 : Upto (Value.slice va vn vc).ownBlock.toList w10 w5) (hw5 : ∀ g, (Value.slice b5 (vn + 1) c5).ownBlock = some g → (Value.slice va vn vc).ownBlock = some g ∨ w10.heap.size ≤ g) => of_step HI.out HLT.out HWL.out HUP.out HBK.out HROW.out HU10.out HND.out HJL.out HTK.out ho5 hu5 hw5)
        clear hr10 hjl
        go_wp2_with (at_builtin
                     refine wpList_app _ rfl (.tmp 26) (.tmp 33) 32 rfl 34 i1 (.agg #[.int .i64 0, .slice none 0 0, .int .i64 0, .int .i64 0, .int .i64 0, .slice none 0 0]) 6 80 Tryz.underlying32 hi1 hy0 hy1 hy2 rfl (by decide) (.slice va vn vc) vn (cellsN c vn) rfl HRR.out ⟨b8, 0, none⟩ 1 1 [.int .i64 ro, .slice rn1 rn2 rn3, .int .i64 rs, .int .i64 rm, .int .i64 rq, .slice rl1 rl2 rl3] rfl rfl (six_at HB8.out) (by simp [Value.oneCell']) (by unfold maxLen; omega) (by omega) ?_
                     intro b5 c5 w5 ho5 hu5 hw5
                     obtain ⟨hbk5, hI5⟩ := HA.out b5 c5 w5 ho5 hu5 hw5
                     have y5 := cell_of hbk5 5
                     have g5 := free_of hbk5 5
                     simp only [List.getElem?_toArray, List.getElem?_cons_zero, List.getElem?_cons_succ] at y5
                     have HI5 := Lib.hid hI5
                     clear ho5 hu5 hw5 hbk5 hI5)
        go_roundw
        case rel => exact ⟨vn + 1, by omega, by go_num, HI5⟩
        case measure => simp [intOf]; omega
      · obtain rfl : vn = ll := by omega
        have hgeI : ¬ ((vn : Int) < vn) := by omega
        have HROW := Lib.hid hrow
        have HBK := Lib.hid hbk
        have hz2 := HI.out.up.at (HUP.out.at HB2.out (by simp)) (by have h1 := HLT.out; have h2 := HW2.out; simp; omega)
        have HZ2 := Lib.hid hz2
        obtain ⟨p0, p1, p2, p3, p4, p5⟩ := cells6 hbk
        obtain ⟨r0, r1, r2, r3, r4, r5⟩ := cells6 hz2
        obtain ⟨t0, t1, t2, t3, t4, t5⟩ := frees6 hz2
        have hF := of_end (names := names) (_P := P) HI.out HLT.out HWL.out HW2.out HUP.out HBN.out HSL.out HZ2.out HROW.out (List.take_of_length_le (by have := HLL.out; omega)) HLL.out
        have HF := Lib.hid hF
        clear hrow hbk hz2 hbox hF
        go_wp2_with fail
        have hst := nd_store HZ2.out (.int .i64 op) (.slice na names.length nc) (.int .i64 so) (.int .i64 nn) (.int .i64 mm) (.slice va vn vc)
        obtain ⟨q0, q1, q2, q3, q4, q5⟩ := cells6 hst
        exact bodyPost_ret (v := .agg #[.int .i64 op, .slice na names.length nc, .int .i64 so, .int .i64 nn, .int .i64 mm, .slice va vn vc]) (by simp [results, go_sem, q0, q1, q2, q3, q4, q5]) rfl HF.out
theorem infoV (T : TypeId) (h : (Tryz.prog.info? T).map (fun i => (i.zero, i.size, i.bytes)) = some (some (.agg #[.string ⟨#[]⟩, .int .i64 0]), 2, 24)) : ∃ i, Tryz.prog.info? T = some i ∧ i.zero = some (.agg #[.string ⟨#[]⟩, .int .i64 0]) ∧ i.size = 2 ∧ i.bytes = 24 := by
  cases hi : Tryz.prog.info? T with
  | none => rw [hi] at h; cases h
  | some i =>
    rw [hi] at h
    simp only [Option.map_some, Option.some.injEq, Prod.mk.injEq] at h
    exact ⟨i, rfl, h.1, h.2.1, h.2.2⟩
theorem infoV86 : ∃ i, Tryz.prog.info? 86 = some i ∧ i.zero = some (.agg #[.string ⟨#[]⟩, .int .i64 0]) ∧ i.size = 2 ∧ i.bytes = 24 := infoV 86 (by kernel_rfl)
def QuPost (w : World) (q : Qn) (e : Ending) (w' : World) : Prop := ∃ v, e = .returned v ∧ QnV w' (New w) q v ∧ Upto [] w w'
structure QbI (w4 : World) (bn : Nat) (x1 x2 x3 x4 x5 x6 : Value) (T EL : TypeId) (f : List (List UInt8 × Int)) (j : Nat) (wr : World) : Prop where
  up : Upto [bn] w4 wr
  st : ∃ (va : Option Addr) (vn vc : Nat), wr.heap[bn]? = some (.cells #[.slice va vn vc, x1, x2, x3, x4, x5, x6] T (0, 0)) ∧ wr.ownsRow 0 EL 2 (.slice va vn vc) j ((f.take j).flatMap varC) ∧ ∀ g, (Value.slice va vn vc).ownBlock = some g → w4.heap.size ≤ g
theorem qb_step {w4 wr w10 w5 : World} {bn : Nat} {x1 x2 x3 x4 x5 x6 : Value} {T EL : TypeId} {f : List (List UInt8 × Int)} {j : Nat} {va : Option Addr} {vn vc : Nat} {x : List UInt8 × Int} {b5 : Option Addr} {c5 : Nat}
    (HU : Upto [bn] w4 wr) (hlt : bn < w4.heap.size) (hbk : wr.heap[bn]? = some (.cells #[.slice va vn vc, x1, x2, x3, x4, x5, x6] T (0, 0))) (hown : ∀ g, (Value.slice va vn vc).ownBlock = some g → w4.heap.size ≤ g)
    (hu : Upto [] wr w10) (htk : f.take (j + 1) = f.take j ++ [x]) (ho5 : w5.ownsRow 0 EL 2 (.slice b5 (j + 1) c5) (j + 1) ((f.take j).flatMap varC ++ [.string ⟨x.1.toArray⟩, .int .i64 x.2])) (hu5 : Upto (Value.slice va vn vc).ownBlock.toList w10 w5)
    (hw5 : ∀ g, (Value.slice b5 (j + 1) c5).ownBlock = some g → (Value.slice va vn vc).ownBlock = some g ∨ w10.heap.size ≤ g) :
    w5.heap[bn]? = some (.cells #[.slice va vn vc, x1, x2, x3, x4, x5, x6] T (0, 0)) ∧ QbI w4 bn x1 x2 x3 x4 x5 x6 T EL f (j + 1) (w5.setCell ⟨bn, 0, none⟩ (.slice b5 (j + 1) c5)) := by
  have hb5 := hu5.at (hu.at hbk (by simp)) (fun hm => by have := hown _ (Option.mem_toList.1 hm); omega)
  have hst : Upto [bn] w5 (w5.setCell ⟨bn, 0, none⟩ (.slice b5 (j + 1) c5)) := (Upto.refl [bn] w5).setCell (p := ⟨bn, 0, none⟩) (Or.inl (by simp)) _
  have h1 := HU.size
  have h2 := hu.size
  have hnew : ∀ g, (Value.slice b5 (j + 1) c5).ownBlock = some g → w4.heap.size ≤ g := fun g hg => by
    rcases hw5 g hg with h | h
    · exact hown g h
    · omega
  refine ⟨hb5, ?_, b5, j + 1, c5, ?_, ?_, hnew⟩
  · exact ((HU.trans_ext hu).trans hu5 (fun k hk => Or.inr (hown k (Option.mem_toList.1 hk)))).setCell (p := ⟨bn, 0, none⟩) (Or.inl (by simp)) _
  · simpa using set_same hb5 0 (.slice b5 (j + 1) c5)
  · rw [htk, List.flatMap_append]
    exact ownsRow_upto ho5 hst (fun g hg => by have := hnew g hg; simp; omega)
theorem set7_up {S : List Nat} {a w : World} {R : Nat} (h : Upto S a w) (hR : R ∈ S ∨ a.heap.size ≤ R) (v0 v1 v2 v3 v4 v5 v6 : Value) : Upto S a (((((((w.setCell ⟨R, 0, none⟩ v0).setCell ⟨R, 1, none⟩ v1).setCell ⟨R, 2, none⟩ v2).setCell ⟨R, 3, none⟩ v3).setCell ⟨R, 4, none⟩ v4).setCell ⟨R, 5, none⟩ v5).setCell ⟨R, 6, none⟩ v6) :=
  ((((((h.setCell (p := ⟨R, 0, none⟩) hR v0).setCell (p := ⟨R, 1, none⟩) hR v1).setCell (p := ⟨R, 2, none⟩) hR v2).setCell (p := ⟨R, 3, none⟩) hR v3).setCell (p := ⟨R, 4, none⟩) hR v4).setCell (p := ⟨R, 5, none⟩) hR v5).setCell (p := ⟨R, 6, none⟩) hR v6
theorem set7_at {w : World} {R : Nat} {a0 a1 a2 a3 a4 a5 a6 : Value} {T : TypeId} {z : Nat × Nat} (h : w.heap[R]? = some (.cells #[a0, a1, a2, a3, a4, a5, a6] T z)) (v0 v1 v2 v3 v4 v5 v6 : Value) : (((((((w.setCell ⟨R, 0, none⟩ v0).setCell ⟨R, 1, none⟩ v1).setCell ⟨R, 2, none⟩ v2).setCell ⟨R, 3, none⟩ v3).setCell ⟨R, 4, none⟩ v4).setCell ⟨R, 5, none⟩ v5).setCell ⟨R, 6, none⟩ v6).heap[R]? = some (.cells #[v0, v1, v2, v3, v4, v5, v6] T z) := by
  have := set_same (set_same (set_same (set_same (set_same (set_same (set_same h 0 v0) 1 v1) 2 v2) 3 v3) 4 v4) 5 v5) 6 v6
  simpa using this
theorem qb_end {w W2 w3 w4 wr : World} {bn R : Nat} {x1 x2 x3 x4 x5 x6 : Value} {EL : TypeId} {q : Qn} {va : Option Addr} {vn vc : Nat} (hW : Upto [] w W2) (hR : w.heap.size ≤ R ∧ R < W2.heap.size) (h3 : Upto [] W2 w3) (hb : bn = w3.heap.size) (h4 : Upto [] w3 w4) (HU : Upto [bn] w4 wr) (hlt : bn < w4.heap.size)
    (hn : NdV w3 (New W2) q.body (.agg #[x1, x2, x3, x4, x5, x6])) (hrow : wr.ownsRow 0 EL 2 (.slice va vn vc) q.free.length (q.free.flatMap varC)) (hown : ∀ g, (Value.slice va vn vc).ownBlock = some g → w4.heap.size ≤ g) :
    QuPost w q (.returned (.agg #[.slice va vn vc, x1, x2, x3, x4, x5, x6])) (((((((wr.setCell ⟨R, 0, none⟩ (.slice va vn vc)).setCell ⟨R, 1, none⟩ x1).setCell ⟨R, 2, none⟩ x2).setCell ⟨R, 3, none⟩ x3).setCell ⟨R, 4, none⟩ x4).setCell ⟨R, 5, none⟩ x5).setCell ⟨R, 6, none⟩ x6) := by
  have hst := set7_up (R := R) (Upto.refl [R] wr) (Or.inl (by simp)) (.slice va vn vc) x1 x2 x3 x4 x5 x6
  have s1 := hW.size
  have s2 := h3.size
  have s3 := h4.size
  have hold : Upto [] w wr := ((hW.trans_ext h3).trans_ext h4).trans HU (fun k hk => by simp at hk; subst hk; right; omega)
  refine ⟨_, rfl, ⟨_, _, _, _, _, _, _, rfl, ?_, ?_⟩, set7_up hold (Or.inr hR.1) ..⟩
  · exact SlP.upto (slP_rowN (P := fun g => w4.heap.size ≤ g) hrow hown) hst (fun b hb2 _ => by simp; omega) |>.mono (fun b hb2 _ => by unfold New; omega)
  · have k1 := hn.mono (Q := fun b => W2.heap.size ≤ b ∧ b < bn) (fun b hb2 hi => ⟨hb2, by have := hi.lt; omega⟩)
    have k2 := (k1.ext h4).upto HU (fun b hb2 _ => by have := hb2.2; simp; omega)
    exact (k2.upto hst (fun b hb2 _ => by have := hb2.1; simp; omega)).mono (fun b hb2 _ => by have := hb2.1; unfold New; omega)
set_option maxRecDepth 100000 in
set_option maxHeartbeats 6400000 in
theorem ofq_calls (q : Qn) (v : Value) (w : World) (P : Nat → Prop) (h : QnV w P q v) (hk : sizeF q.body ≤ 10000000) (hb : bigN q.body) (hl : q.free.length ≤ 10000000) : Calls Tryz.prog 25 #[v] w (QuPost w q) := by
  obtain ⟨f1, f3, o1, a1, a2, a3, s1, n1, m1, l1, l2, l3, rfl, hv, hn⟩ := h.open
  have hu2 : Upto [] w ((w.alloc (.cells #[.slice f1 q.free.length f3, .int .i64 o1, .slice a1 a2 a3, .int .i64 s1, .int .i64 n1, .int .i64 m1, .slice l1 l2 l3] 45)).alloc (.cells #[.slice none 0 0, .int .i64 0, .slice none 0 0, .int .i64 0, .int .i64 0, .int .i64 0, .slice none 0 0] 48)) := ((Upto.refl [] w).alloc _).alloc _
  have HU2 := Lib.hid hu2
  have hb1 := alloc_old (new_at w (.cells #[.slice f1 q.free.length f3, .int .i64 o1, .slice a1 a2 a3, .int .i64 s1, .int .i64 n1, .int .i64 m1, .slice l1 l2 l3] 45)) (.cells #[.slice none 0 0, .int .i64 0, .slice none 0 0, .int .i64 0, .int .i64 0, .int .i64 0, .slice none 0 0] 48)
  have hb2 := new_at1 w (.cells #[.slice f1 q.free.length f3, .int .i64 o1, .slice a1 a2 a3, .int .i64 s1, .int .i64 n1, .int .i64 m1, .slice l1 l2 l3] 45) (.cells #[.slice none 0 0, .int .i64 0, .slice none 0 0, .int .i64 0, .int .i64 0, .int .i64 0, .slice none 0 0] 48)
  have HB1 := Lib.hid hb1
  have HB2 := Lib.hid hb2
  have HG := Lib.hid (vars_slice hv)
  have HC := Lib.hid (of_calls _ q.body (Nat.le_refl _) hk hb P _ _ (hn.ext hu2))
  obtain ⟨xa0, xa1, xa2, xa3, xa4, xa5, xa6⟩ := cells7 hb1
  obtain ⟨ya0, ya1, ya2, ya3, ya4, ya5, ya6⟩ := frees7 hb2
  have hL0 : (0 : Int) ≤ q.free.length := by omega
  have hL1 : (q.free.length : Int) ≤ 10000000 := by omega
  clear h hv hn hb hu2 hb1 hb2 hk
  go_enter Tryz.func25, Tryz.ntmps25
  go_wp2_with fail
  refine HC.out.mono ?_
  rintro e w3 ⟨v3, rfl, hn3, hu3⟩
  obtain ⟨ro, rn1, rn2, rn3, rs, rm, rq, rl1, rl2, rl3, rfl⟩ := hn3.six
  have HN3 := Lib.hid hn3
  have HU3 := Lib.hid hu3
  have hua : Upto [] w3 (w3.alloc (.cells #[.slice none 0 0, .int .i64 ro, .slice rn1 rn2 rn3, .int .i64 rs, .int .i64 rm, .int .i64 rq, .slice rl1 rl2 rl3] 48)) := (Upto.refl [] w3).alloc _
  have HUA := Lib.hid hua
  have hbn := new_at w3 (.cells #[.slice none 0 0, .int .i64 ro, .slice rn1 rn2 rn3, .int .i64 rs, .int .i64 rm, .int .i64 rq, .slice rl1 rl2 rl3] 48)
  have HI0 : Hid (QbI (w3.alloc (.cells #[.slice none 0 0, .int .i64 ro, .slice rn1 rn2 rn3, .int .i64 rs, .int .i64 rm, .int .i64 rq, .slice rl1 rl2 rl3] 48)) w3.heap.size (.int .i64 ro) (.slice rn1 rn2 rn3) (.int .i64 rs) (.int .i64 rm) (.int .i64 rq) (.slice rl1 rl2 rl3) 48 86 q.free 0 (w3.alloc (.cells #[.slice none 0 0, .int .i64 ro, .slice rn1 rn2 rn3, .int .i64 rs, .int .i64 rm, .int .i64 rq, .slice rl1 rl2 rl3] 48))) := Lib.hid ⟨Upto.refl _ _, none, 0, 0, hbn, by simpa using World.ownsRow_nil _ 0 86 2, by intro g hg; cases hg⟩
  have HLT : Hid (w3.heap.size < (w3.alloc (.cells #[.slice none 0 0, .int .i64 ro, .slice rn1 rn2 rn3, .int .i64 rs, .int .i64 rm, .int .i64 rq, .slice rl1 rl2 rl3] 48)).heap.size) := Lib.hid (by simp)
  have HQ4 := Lib.hid (hua.at (hu3.at HB1.out (by simp)) (by simp))
  have HR4 := Lib.hid (hua.at (hu3.at HB2.out (by simp)) (by simp))
  have HWS : Hid (w.heap.size + 1 < w3.heap.size) := Lib.hid (lt_of_heap (hu3.at HB2.out (by simp)))
  have HW4 := Lib.hid ((HU2.out.trans_ext hu3).trans_ext hua)
  clear hn3 hu3 hua hbn
  go_wp2_with fail
  generalize hw4 : w3.alloc (.cells #[.slice none 0 0, .int .i64 ro, .slice rn1 rn2 rn3, .int .i64 rs, .int .i64 rm, .int .i64 rq, .slice rl1 rl2 rl3] 48) = w4 at *
  obtain ⟨bn, hbn, HBN⟩ : ∃ bn, bn = w3.heap.size ∧ Hid (bn = w3.heap.size) := ⟨_, rfl, Lib.hid rfl⟩
  rw [← hbn] at HI0 HLT ⊢
  clear hw4 hbn
  go_loopw [4] (fun v wr => ∃ j : Nat, j ≤ q.free.length ∧ v = .int .i64 j ∧ Hid (QbI w4 bn (.int .i64 ro) (.slice rn1 rn2 rn3) (.int .i64 rs) (.int .i64 rm) (.int .i64 rq) (.slice rl1 rl2 rl3) 48 86 q.free j wr)) (fun v _ => q.free.length - (intOf v).toNat)
  case atStart => exact ⟨0, by omega, rfl, HI0⟩
  case round =>
    obtain ⟨j, hj, rfl, HI⟩ := hrel
    have hj0 : (0 : Int) ≤ j := by omega
    obtain ⟨va, vn, vc, hbk, hrow, hown⟩ := HI.out.st
    obtain ⟨va', vc', hve, -⟩ := ownsRow_len hrow
    simp only [Value.slice.injEq] at hve
    obtain rfl : vn = j := hve.2.1
    clear hve
    have hq := HI.out.up.at HQ4.out (by have h1 := HBN.out; have h2 := HWS.out; simp; omega)
    have HWR : Hid (Upto [] w wr) := Lib.hid (HW4.out.trans HI.out.up (fun k hk => by have h1 := HBN.out; have h2 := HWS.out; simp at hk; subst hk; right; omega))
    have z0 := cell_of hq 0
    have y0 := cell_of hbk 0
    have g0 := free_of hbk 0
    simp only [List.getElem?_toArray, List.getElem?_cons_zero] at z0 y0
    rcases Nat.lt_or_ge vn q.free.length with hlt | hge
    · have hltI : (vn : Int) < q.free.length := by omega
      obtain ⟨x, hx⟩ : ∃ x, q.free[vn]? = some x := ⟨_, List.getElem?_eq_getElem hlt⟩
      have HTK : Hid (q.free.take (vn + 1) = q.free.take vn ++ [x]) := Lib.hid (by rw [List.take_add_one, hx]; rfl)
      obtain ⟨g, o, rfl, c0, c1⟩ := HG.out vn x hx
      obtain ⟨x1, x2⟩ := x
      simp only at c0 c1
      replace c0 := up_cell HWR.out c0
      replace c1 := up_cell HWR.out c1
      have HROW := Lib.hid hrow
      have HBK := Lib.hid hbk
      have HOWN := Lib.hid hown
      clear hrow hbk hown hq hx
      go_wp2_with fail
      have e0 : ∀ u : Ext wr, u.w.cell? ⟨bn, 0, none⟩ = some (.slice va vn vc) := fun u => u.cell y0
      have e1 : ∀ u : Ext wr, u.w.cell? ⟨w.heap.size, 0, none⟩ = some _ := fun u => u.cell z0
      have k0 : ∀ u : Ext wr, u.w.cell? ⟨g, o + vn * 2, none⟩ = some _ := fun u => u.cell c0
      have k1 : ∀ u : Ext wr, u.w.cell? ⟨g, o + vn * 2 + 1, none⟩ = some _ := fun u => u.cell c1
      clear z0 y0 g0 c0 c1
      refine wp_region_seg_at [15] [] [0, 1, 2, 3, 4, 5, 6, 7, 8, 9, 10, 11, 12, 13, 14, 15] [16, 17, 18] 16 (by kernel_rfl) (by kernel_rfl) (by kernel_rfl) ?_
      iterate 15 (refine seg_plain rfl rfl rfl rfl rfl ?_; intro K' hK'; go_big_quiet_op; go_big_quiet_on)
      refine seg_opq (Y := Nat) (fun b => .slice (some ⟨b, 0, none⟩) 1 1) (fun b u => u.heap[b]? = some (.cells #[.string ⟨x1.toArray⟩, .int .i64 x2] 86 (0, 0))) (fun _ => []) rfl rfl rfl rfl (fun _ _ _ h hu => hu.at h (by simp)) (fun _ => List.nodup_nil) (fun w' post hu hd hp => (congrArg (opqUpon Tryz.prog post) (show _ = Result.ok (Next.value (.slice (some ⟨w'.heap.size, 0, none⟩) 1 1)) (w'.alloc (.cells #[.string ⟨x1.toArray⟩, .int .i64 x2] 86)) from by go_simp)).mpr (hp w'.heap.size _ ((Upto.refl [] w').alloc _) (new_at _ _) (fun b hb => by cases hb))) ?_
      intro b8
      simp only [Act.put, List.setIfInBounds_toArray, List.set_cons_zero, List.set_cons_succ]
      intro w10 hg
      have HU10 := Lib.hid hg.up
      have HB8 : Hid (w10.heap[b8]? = some (.cells #[.string ⟨x1.toArray⟩, .int .i64 x2] 86 (0, 0))) := Lib.hid hg.hold.1
      simp only [List.drop_succ_cons, List.drop_zero]
      clear hg e0 e1 k0 k1
      have HRR := Lib.hid (ownsRow_upto HROW.out HU10.out (by simp))
      obtain ⟨i1, hi1, hy0, hy1, hy2⟩ := infoV86
      have HA := Lib.hid (fun b5 c5 w5 (ho5 : w5.ownsRow 0 86 2 (.slice b5 (vn + 1) c5) (vn + 1) ((q.free.take vn).flatMap varC ++ [.string ⟨x1.toArray⟩, .int .i64 x2])) (hu5 : Upto (Value.slice va vn vc).ownBlock.toList w10 w5) (hw5 : ∀ g, (Value.slice b5 (vn + 1) c5).ownBlock = some g → (Value.slice va vn vc).ownBlock = some g ∨ w10.heap.size ≤ g) => qb_step (x := (x1, x2)) HI.out.up HLT.out HBK.out HOWN.out HU10.out HTK.out ho5 hu5 hw5)
      go_wp2_with (at_builtin
                   refine wpList_app _ rfl (.tmp 17) (.tmp 31) 46 rfl 86 i1 (.agg #[.string ⟨#[]⟩, .int .i64 0]) 2 24 Tryz.underlying46 hi1 hy0 hy1 hy2 rfl (by decide) (.slice va vn vc) vn ((q.free.take vn).flatMap varC) rfl HRR.out ⟨b8, 0, none⟩ 1 1 [.string ⟨x1.toArray⟩, .int .i64 x2] rfl rfl (two_at HB8.out) (by simp [Value.oneCell']) (by unfold maxLen; omega) (by omega) ?_
                   intro b5 c5 w5 ho5 hu5 hw5
                   obtain ⟨hbk5, hI5⟩ := HA.out b5 c5 w5 ho5 hu5 hw5
                   have y5 := cell_of hbk5 0
                   have g5 := free_of hbk5 0
                   simp only [List.getElem?_toArray, List.getElem?_cons_zero] at y5
                   have HI5 := Lib.hid hI5
                   clear ho5 hu5 hw5 hbk5 hI5)
      go_roundw
      case rel => exact ⟨vn + 1, by omega, by go_num, HI5⟩
      case measure => simp [intOf]; omega
    · have hgeI : ¬ (vn : Int) < q.free.length := by omega
      have HROW := Lib.hid hrow
      have HOWN := Lib.hid hown
      have hr := HI.out.up.at HR4.out (by have h1 := HBN.out; have h2 := HWS.out; simp; omega)
      obtain ⟨pa0, pa1, pa2, pa3, pa4, pa5, pa6⟩ := cells7 hbk
      obtain ⟨pf0, pf1, pf2, pf3, pf4, pf5, pf6⟩ := frees7 hbk
      obtain ⟨ra0, ra1, ra2, ra3, ra4, ra5, ra6⟩ := cells7 hr
      obtain ⟨rf0, rf1, rf2, rf3, rf4, rf5, rf6⟩ := frees7 hr
      have HEND := Lib.hid (qb_end (q := q) (R := w.heap.size + 1) HU2.out ⟨by omega, by simp⟩ HU3.out HBN.out HUA.out HI.out.up HLT.out HN3.out (by have := HROW.out; rw [List.take_of_length_le (by omega)] at this; rwa [show vn = q.free.length by omega] at this ⊢) HOWN.out)
      have HR := Lib.hid hr
      clear hrow hown hbk hq hr
      go_wp2_with fail
      have hst := set7_at HR.out (.slice va vn vc) (.int .i64 ro) (.slice rn1 rn2 rn3) (.int .i64 rs) (.int .i64 rm) (.int .i64 rq) (.slice rl1 rl2 rl3)
      obtain ⟨q0, q1, q2, q3, q4, q5, q6⟩ := cells7 hst
      exact bodyPost_ret (v := .agg #[.slice va vn vc, .int .i64 ro, .slice rn1 rn2 rn3, .int .i64 rs, .int .i64 rm, .int .i64 rq, .slice rl1 rl2 rl3]) (by simp [results, Tryz.results25, go_sem, q0, q1, q2, q3, q4, q5, q6]) rfl HEND.out
end Go.Proofs.YtkhbpebpljdifaaGreatDoor
