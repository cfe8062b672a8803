/- Texts merged, in build order: Tn, Gk, FmP6, Ck, Zo, Ke, Kh, Ki, Kj, Kk, Z6, Fm31, Zs, Fm30, Ud, Wh, Wi, Wj, Wf, Seg4, Zq, Xg, Wc, We. -/
import Derived.Test.YtbnebkkpmcjmbaaGreatDoorMSac
import Derived.Test.YtbnebkkpmcjmbaaGreatDoorRows
import Derived.WalkKit
import Derived.WalkSpells
import Derived.WalkLawsBesides
import Derived.Maps.OwnSet
import Derived.Lib.Hide
import Derived.Laws.BytesArg
import Derived.Deep.QuietTactic
import Derived.BigQuiet
import Derived.Test.YtbnebkkpmcjmbaaGreatDoorProg
import Derived.Shelf.Small.Strs
import Derived.Shelf.LaysM
import Derived.Shelf.Strings.SplitShaped
import Derived.Deep.DeepCutAuto
import Derived.Deep.CutBlock
import Derived.Lib.Strings
import Derived.Lib.Walk
import Derived.Lib.ConvBytes
import Derived.Lib.ParseIntBMem
import Derived.Lib.AtoiErrMem
import Derived.Lib.BufferWrite
import Derived.Lib.UnsafeStr
import Derived.Lib.IfaceEq
import Derived.Laws.MakeOwn
import Derived.Laws.Strings3
import Derived.Laws.Closers25
import Derived.Laws.Closers25b
import Derived.RegionTactic
import Derived.Deep.RegionWith
import Derived.BigCall
import Derived.BigGuard
import Derived.Lib.AppendIntMem
import Derived.Carry
import Derived.OrdersHeld
import Derived.Deep.RegionHeld3
import Derived.Shelf.Strconv.Itoa3
import Derived.Shelf.Slices.Turned
import Derived.Shelf.Slices.Clone
import Derived.Deep.RegionLaw
import Derived.Lib.ItoaNum
import Derived.RangeFuncNested
import Derived.RangeFuncBound
import Derived.RangeFuncCalls
import Derived.RangeFuncLeaves
import Derived.RangeFuncBox
import Derived.Shelf.Abstract
import Derived.OwnWalkIn
import Derived.TacticsInMore
import Derived.LoopNIn
import Derived.LoopIn
import Derived.Laws.EntriesVeiled
import Derived.Laws.AppendOwn
import Derived.Shelf.SlMaps.Clone
import Derived.Laws.StructEq
namespace Go.Proofs.YtbnebkkpmcjmbaaGreatDoor
open Go.RowKit Go.PL Go.Maps
/-- an operand that is renamed alone: the list of one -/
theorem mapAt_one {α : Type} (f : α → α) (x : α) : mapAt f 0 1 [x] = [f x] := mapAt_all f [x]
theorem KI.one {w0 w wr : World} {f : Nd → Nd} {x : Nd} {a2 : Option Addr} {cs : Array Value} {o g m hi : Nat} (h : KI w0 w f [x] cs o g m hi 1 wr) (ha : a2 = some ⟨g, o, none⟩) (h1 : m ≤ g) (h2 : g < hi) : KdsT wr [f x] a2 cs o g m hi := by
  have h3 := h.ow
  rw [mapAt_one] at h3
  exact Or.inr ⟨ha, h.at_, h1, h2, h3⟩
/-- the state ahead of the only operand -/
theorem KI.first {w0 w : World} {f : Nd → Nd} {l : List Nd} {a2 : Option Addr} {cs : Array Value} {o g m hi : Nat} {x : Nd} (h : KdsT w l a2 cs o g m hi) (hl : l = [x]) : KI w0 w f [x] cs o g m hi 0 w := by
  subst hl
  rcases h with h | ⟨-, h2, -, -, h5⟩
  · cases h
  · exact ⟨by rw [mapAt_zero]; exact h5, Upto.refl _ _, h2⟩
end Go.Proofs.YtbnebkkpmcjmbaaGreatDoor


namespace Go.Proofs.YtbnebkkpmcjmbaaGreatDoor
open Go.RowKit Go.PL Go.Maps
mutual
/-- a quantifier has a name and one of the four sorts -/
def sortN : Nd → Prop
  | .mk op _ so _ _ l => (op = 16 ∨ op = 17 → 0 ≤ so ∧ so ≤ 3) ∧ sortsN l
def sortsN : List Nd → Prop
  | [] => True
  | x :: xs => sortN x ∧ sortsN xs
end
/-- the number that count raises, in the cell of block B; the test, in block B2 -/
def CoJ (w0 : World) (B B2 F : Nat) (c : Nat) (r : Nat) (O : List Nat) (u : World) : Prop := u.heap[B]? = some (.cells #[.int .i64 (c : Int)] 3 (0, 0)) ∧ u.heap[B2]? = some (.cells #[.func (.func F) #[] #[]] 79 (0, 0)) ∧ O = [] ∧ w0.heap.size ≤ u.heap.size ∧ c + r ≤ 200000
theorem CoJ.ext {w0 : World} {B B2 F c r : Nat} {O : List Nat} {u u' : World} (h : CoJ w0 B B2 F c r O u) (hu : Upto [] u u') : CoJ w0 B B2 F c r O u' := ⟨hu.at h.1 (by simp), hu.at h.2.1 (by simp), h.2.2.1, Nat.le_trans h.2.2.2.1 hu.size, h.2.2.2.2⟩
end Go.Proofs.YtbnebkkpmcjmbaaGreatDoor


namespace Go.Proofs.YtbnebkkpmcjmbaaGreatDoor
open Go.PL

/-- the first token of a formula's full text is not the word that begins a declaration -/
def headOk (b : Bool) (L : List (Bool × Tok)) : Prop := ∃ t r, L = (b, t) :: r ∧ (t.text ≠ [102, 105, 110, 100] ∨ t.kind = 1)
theorem headOk.mk {b : Bool} {t : Tok} {r : List (Bool × Tok)} (h : t.text ≠ [102, 105, 110, 100] ∨ t.kind = 1) : headOk b ((b, t) :: r) := ⟨t, r, rfl, h⟩
end Go.Proofs.YtbnebkkpmcjmbaaGreatDoor


namespace Go.Proofs.YtbnebkkpmcjmbaaGreatDoor
open Go.PL

/-- the first error of the free variables; seen: the names ahead -/
def varsE (nm : List UInt8 → Bool) : List (List UInt8 × Int) → List (List UInt8) → Nat
  | [], _ => 0
  | v :: r, seen => if nm v.1 = false then 3 else if (decide (v.2 < 0) || decide (3 < v.2)) = true then 2 else if seen.contains v.1 = true then 7 else varsE nm r (seen ++ [v.1])
/-- the first error of a question -/
def rightF (nm : List UInt8 → Bool) (q : Qn) : Nat :=
  if 8 < q.free.length then 8 else if varsE nm q.free [] ≠ 0 then varsE nm q.free [] else checkF nm q.body

end Go.Proofs.YtbnebkkpmcjmbaaGreatDoor


namespace Go.Proofs.YtbnebkkpmcjmbaaGreatDoor
open Go.RowKit Go.PL Go.Maps
structure OfRow (w0 w : World) (B : Nat) (c : Nat → Nat → Value) (v : Value) (ms : List Nd) : Prop where
  row : w.ownsRow 0 30 6 v ms.length (cellsN c ms.length)
  nd : ∀ i m, ms[i]? = some m → NdV w (Lr w0 B v) m (.agg #[c i 0, c i 1, c i 2, c i 3, c i 4, c i 5])
  own : ∀ g, v.ownBlock = some g → w0.heap.size ≤ g ∧ g ≠ B
theorem OfRow.upto {w0 w w' : World} {S : List Nat} {B : Nat} {c : Nat → Nat → Value} {v : Value} {ms : List Nd} (h : OfRow w0 w B c v ms) (hu : Upto S w w') (hS : ∀ k ∈ S, k < w0.heap.size ∨ k = B) : OfRow w0 w' B c v ms :=
  ⟨ownsRow_upto h.row hu (fun g hg hm => by have h1 := h.own g hg; rcases hS g hm with h2 | h2 <;> omega),
   fun i m hi => (h.nd i m hi).upto hu (fun b hb _ hm => by have h1 := hb.1; unfold New at h1; rcases hS b hm with h2 | h2; omega; exact hb.2.1 h2), h.own⟩
theorem OfRow.app {w0 w w5 : World} {B : Nat} {c : Nat → Nat → Value} {v : Value} {ms : List Nd} {m : Nd} {v0 v1 v2 v3 v4 v5 : Value} {b' : Option Addr} {c' : Nat} (h : OfRow w0 w B c v ms) (hsz : w0.heap.size ≤ w.heap.size) (hBw : B < w.heap.size)
    (hm : NdV w (Lr w0 B v) m (.agg #[v0, v1, v2, v3, v4, v5])) (ho : w5.ownsRow 0 30 6 (.slice b' (ms.length + 1) c') (ms.length + 1) (cellsN c ms.length ++ [v0, v1, v2, v3, v4, v5])) (hu : Upto v.ownBlock.toList w w5)
    (hw : ∀ g, (Value.slice b' (ms.length + 1) c').ownBlock = some g → v.ownBlock = some g ∨ w.heap.size ≤ g) : OfRow w0 w5 B (addC c ms.length v0 v1 v2 v3 v4 v5) (.slice b' (ms.length + 1) c') (ms ++ [m]) := by
  have key : ∀ x u, NdV w (Lr w0 B v) x u → NdV w5 (Lr w0 B (.slice b' (ms.length + 1) c')) x u := fun x u hx =>
    NdV.keep ⟨hu.size, fun b hb hl => ⟨⟨hb.1, hb.2.1, fun e => by
      rcases hw b e with h1 | h1
      · exact hb.2.2 h1
      · have := hl.lt; omega⟩, hu.block b hl.lt (fun hmm => hb.2.2 (Option.mem_toList.1 hmm))⟩⟩ x u hx
  refine ⟨?_, ?_, ?_⟩
  · rw [List.length_append, List.length_singleton, cellsN_add]
    exact ho
  · intro i x hi
    by_cases hlt : i < ms.length
    · rw [List.getElem?_append_left hlt] at hi
      have := key _ _ (h.nd i x hi)
      simpa [addC, Nat.ne_of_lt hlt] using this
    · rw [List.getElem?_append_right (by omega)] at hi
      cases hd : i - ms.length with
      | zero =>
        rw [hd] at hi
        simp at hi
        subst hi
        have : i = ms.length := by omega
        subst this
        simpa [addC] using key _ _ hm
      | succ z => rw [hd] at hi; simp at hi
  · intro g hg
    rcases hw g hg with h1 | h1
    · exact h.own g h1
    · exact ⟨by omega, by omega⟩
theorem OfRow.list {w0 w : World} {B : Nat} {c : Nat → Nat → Value} {v : Value} {ms : List Nd} {Q : Nat → Prop} (h : OfRow w0 w B c v ms) (h1 : ∀ b, Lr w0 B v b → Q b) (h2 : ∀ g, v.ownBlock = some g → Q g) : (ms = [] ∧ ∃ a c, v = .slice a 0 c) ∨ ∃ g o c, v = .slice (some ⟨g, o, none⟩) ms.length c ∧ (Q g ∧ IsC w g) ∧ NdsV w Q g o ms := by
  rcases h.row.2 with ⟨e, h0⟩ | ⟨g, cap, cur, e, _, hh, _, _, _, ht⟩
  · exact Or.inl ⟨List.eq_nil_of_length_eq_zero h0, none, 0, e⟩
  · refine Or.inr ⟨g, 0, cap, e, ⟨h2 g (by rw [e]; rfl), _, _, _, hh⟩, nds_of ms 0 fun i x hi => ?_⟩
    have hil : i < ms.length := (List.getElem?_eq_some_iff.1 hi).1
    have cl : ∀ j, j < 6 → w.cell? ⟨g, 0 + i * 6 + j, none⟩ = some (c i j) := fun j hj => by
      rw [cell_of hh]
      have := cellsN_at c hil hj
      rw [← ht, List.getElem?_take] at this
      split at this
      · simpa using this
      · cases this
    exact ⟨_, _, _, _, _, _, cl 0 (by omega), cl 1 (by omega), cl 2 (by omega), cl 3 (by omega), cl 4 (by omega), cl 5 (by omega), (h.nd i x hi).mono fun b hb _ => h1 b hb⟩
theorem infoO4 : (Tryz.prog.info? 30).map (fun i => (i.zero, i.size, i.bytes)) = some (some (.agg #[.int .i64 0, .slice none 0 0, .int .i64 0, .int .i64 0, .int .i64 0, .slice none 0 0]), 6, 80) := by kernel_rfl
theorem infoO4' : ∃ i, Tryz.prog.info? 30 = some i ∧ i.zero = some (.agg #[.int .i64 0, .slice none 0 0, .int .i64 0, .int .i64 0, .int .i64 0, .slice none 0 0]) ∧ i.size = 6 ∧ i.bytes = 80 := by
  have h := infoO4
  cases hi : Tryz.prog.info? 30 with
  | none => rw [hi] at h; cases h
  | some i =>
    rw [hi] at h
    simp only [Option.map_some, Option.some.injEq, Prod.mk.injEq] at h
    exact ⟨i, rfl, h.1, h.2.1, h.2.2⟩
/-- what stands between two rounds -/
structure OfI (w w9 : World) (bn : Nat) (op so nn mm : Int) (na : Option Addr) (nl nc : Nat) (ns : List Value) (l : List Nd) (j : Nat) (wr : World) : Prop where
  up : Upto [bn] w9 wr
  old : Upto [] w wr
  st : ∃ (va : Option Addr) (vn vc : Nat) (c : Nat → Nat → Value), wr.heap[bn]? = some (.cells #[.int .i64 op, .slice na nl nc, .int .i64 so, .int .i64 nn, .int .i64 mm, .slice va vn vc] 30 (0, 0)) ∧ OfRow w9 wr bn c (.slice va vn vc) (l.take j)
theorem of_step {w w9 wr w10 w5 W : World} {bn : Nat} {op so nn mm : Int} {na : Option Addr} {nl nc : Nat} {ns : List Value} {l : List Nd} {vn : Nat} {va : Option Addr} {vc : Nat} {c : Nat → Nat → Value} {x : Nd} {v0 v1 v2 v3 v4 v5 : Value} {b5 : Option Addr} {c5 : Nat}
    (HI : OfI w w9 bn op so nn mm na nl nc ns l vn wr) (HLT : W.heap.size ≤ bn ∧ bn < w9.heap.size) (HWL : w.heap.size < W.heap.size) (HUP : Upto [] W w9)
    (hbk : wr.heap[bn]? = some (.cells #[.int .i64 op, .slice na nl nc, .int .i64 so, .int .i64 nn, .int .i64 mm, .slice va vn vc] 30 (0, 0))) (hrow : OfRow w9 wr bn c (.slice va vn vc) (l.take vn))
    (hu : Upto [] wr w10) (hn : NdV w10 (New wr) x (.agg #[v0, v1, v2, v3, v4, v5])) (hjl : (l.take vn).length = vn) (htk : l.take (vn + 1) = l.take vn ++ [x])
    (ho5 : w5.ownsRow 0 30 6 (.slice b5 (vn + 1) c5) (vn + 1) (cellsN c vn ++ [v0, v1, v2, v3, v4, v5])) (hu5 : Upto (Value.slice va vn vc).ownBlock.toList w10 w5) (hw5 : ∀ g, (Value.slice b5 (vn + 1) c5).ownBlock = some g → (Value.slice va vn vc).ownBlock = some g ∨ w10.heap.size ≤ g) :
    w5.heap[bn]? = some (.cells #[.int .i64 op, .slice na nl nc, .int .i64 so, .int .i64 nn, .int .i64 mm, .slice va vn vc] 30 (0, 0)) ∧ OfI w w9 bn op so nn mm na nl nc ns l (vn + 1) (w5.setCell ⟨bn, 5, none⟩ (.slice b5 (vn + 1) c5)) := by
  have hown : ∀ g, g ∈ (Value.slice va vn vc).ownBlock.toList → w9.heap.size ≤ g ∧ g ≠ bn := fun g hg => hrow.own g (Option.mem_toList.1 hg)
  have hold : ∀ g, (Value.slice va vn vc).ownBlock = some g → g < wr.heap.size := fun g hg => by
    obtain ⟨cur, hh⟩ := ownsRow_block hrow.row hg
    exact lt_of_heap hh
  have hb5 := hu5.at (hu.at hbk (by simp)) (fun hm => (hown _ hm).2 rfl)
  have hst : Upto [bn] w5 (w5.setCell ⟨bn, 5, none⟩ (.slice b5 (vn + 1) c5)) := (Upto.refl [bn] w5).setCell (p := ⟨bn, 5, none⟩) (Or.inl (by simp)) _
  have hs9 := HI.up.size
  have hs10 := hu.size
  have hW := HUP.size
  have hbw := lt_of_heap hbk
  refine ⟨hb5, ⟨?_, ?_, b5, vn + 1, c5, addC c vn v0 v1 v2 v3 v4 v5, ?_, ?_⟩⟩
  · exact ((HI.up.trans_ext hu).trans hu5 (fun k hk => Or.inr (hown k hk).1)).setCell (p := ⟨bn, 5, none⟩) (Or.inl (by simp)) _
  · exact ((HI.old.trans_ext hu).trans hu5 (fun k hk => Or.inr (by have := (hown k hk).1; omega))).setCell (p := ⟨bn, 5, none⟩) (Or.inr (by simp; omega)) _
  · have := set_same hb5 5 (.slice b5 (vn + 1) c5)
    simpa using this
  · have happ := OfRow.app (m := x) (v0 := v0) (v1 := v1) (v2 := v2) (v3 := v3) (v4 := v4) (v5 := v5) (b' := b5) (c' := c5) (w5 := w5) (hrow.upto hu (by simp)) (by omega) (by omega)
      (hn.mono (fun b hb _ => ⟨by unfold New at hb ⊢; omega, by unfold New at hb; omega, fun e => by have := hold b e; unfold New at hb; omega⟩)) (by rw [hjl]; exact ho5) hu5 (by rw [hjl]; exact hw5)
    rw [hjl] at happ
    rw [htk]
    exact happ.upto hst (fun k hk => Or.inr (by simpa using hk))
theorem of_end {w w9 wr W : World} {bn : Nat} {op so nn mm : Int} {na : Option Addr} {nc : Nat} {ns : List Value} {names : List (List UInt8)} {l : List Nd} {vn : Nat} {va : Option Addr} {vc : Nat} {c : Nat → Nat → Value} {_P : Nat → Prop}
    (HI : OfI w w9 bn op so nn mm na names.length nc ns l vn wr) (HLT : W.heap.size ≤ bn ∧ bn < w9.heap.size) (_HWL : w.heap.size < W.heap.size) (HW2 : w.heap.size + 1 < W.heap.size) (HUP : Upto [] W w9)
    (hbn : w9.heap[bn]? = some (.cells #[.int .i64 0, .slice none 0 0, .int .i64 0, .int .i64 0, .int .i64 0, .slice none 0 0] 30 (0, 0)))
    (hsl : SlP w9 (New W) (.slice na names.length nc) names.length (names.map sV))
    (_hz2 : wr.heap[w.heap.size + 1]? = some (.cells #[.int .i64 0, .slice none 0 0, .int .i64 0, .int .i64 0, .int .i64 0, .slice none 0 0] 30 (0, 0)))
    (hrow : OfRow w9 wr bn c (.slice va vn vc) (l.take vn)) (htk : l.take vn = l) (_hll : l.length = vn) :
    BkPost w (.mk op names so nn mm l) (.returned (.agg #[.int .i64 op, .slice na names.length nc, .int .i64 so, .int .i64 nn, .int .i64 mm, .slice va vn vc])) ((((((wr.setCell ⟨w.heap.size + 1, 0, none⟩ (.int .i64 op)).setCell ⟨w.heap.size + 1, 1, none⟩ (.slice na names.length nc)).setCell ⟨w.heap.size + 1, 2, none⟩ (.int .i64 so)).setCell ⟨w.heap.size + 1, 3, none⟩ (.int .i64 nn)).setCell ⟨w.heap.size + 1, 4, none⟩ (.int .i64 mm)).setCell ⟨w.heap.size + 1, 5, none⟩ (.slice va vn vc)) := by
  have hst := nd_self wr (w.heap.size + 1) (.int .i64 op) (.slice na names.length nc) (.int .i64 so) (.int .i64 nn) (.int .i64 mm) (.slice va vn vc)
  have hW := HUP.size
  have hrow2 := hrow.upto hst (fun k hk => Or.inl (by simp at hk; omega))
  rw [htk] at hrow2
  have hs2 := ((names_ne hsl rfl hbn).upto HI.up (fun b hb _ => by simpa using hb.2)).upto hst (fun b hb _ => by have := hb.1; unfold New at this; simp; omega)
  refine ⟨_, rfl, ?_, nd_up HI.old (Or.inr (by omega)) ..⟩
  unfold NdV
  refine ⟨_, _, rfl, hs2.mono (fun b hb _ => by have := hb.1; unfold New at this ⊢; omega), ?_⟩
  have := hrow2.list (Q := New w) (fun b hb => by have := hb.1; unfold New at this ⊢; omega) (fun g hg => by have := (hrow.own g hg).1; unfold New; omega)
  exact this

set_option maxRecDepth 100000 in
set_option maxHeartbeats 6400000 in
theorem of_calls : ∀ (k : Nat) (nd : Nd), sizeF nd ≤ k → k ≤ 10000000 → bigN nd → ∀ (P : Nat → Prop) (v : Value) (w : World), NdV w P nd v → Calls Tryz.prog 12 #[v] w (BkPost w nd)
  | 0, nd, hk, _, _, _, _, _, _ => by have := sizeF_pos nd; omega
  | k + 1, .mk op names so nn mm l, hk, hk7, hbg, P, v, w, h => by
    obtain ⟨a1, c1, a2, c2, rfl, hs, hls⟩ := h.open
    unfold bigN at hbg
    have hsz : sizesF l ≤ k := by simp only [sizeF] at hk; omega
    have hln := sizes_len l
    have hu2 : Upto [] w ((w.alloc (.cells #[.int .i64 op, .slice a1 names.length c1, .int .i64 so, .int .i64 nn, .int .i64 mm, .slice a2 l.length c2] 25)).alloc (.cells #[.int .i64 0, .slice none 0 0, .int .i64 0, .int .i64 0, .int .i64 0, .slice none 0 0] 30)) := ((Upto.refl [] w).alloc _).alloc _
    have hb1 := alloc_old (new_at w (.cells #[.int .i64 op, .slice a1 names.length c1, .int .i64 so, .int .i64 nn, .int .i64 mm, .slice a2 l.length c2] 25)) (.cells #[.int .i64 0, .slice none 0 0, .int .i64 0, .int .i64 0, .int .i64 0, .slice none 0 0] 30)
    have hb2 := new_at1 w (.cells #[.int .i64 op, .slice a1 names.length c1, .int .i64 so, .int .i64 nn, .int .i64 mm, .slice a2 l.length c2] 25) (.cells #[.int .i64 0, .slice none 0 0, .int .i64 0, .int .i64 0, .int .i64 0, .slice none 0 0] 30)
    obtain ⟨W, hW⟩ : ∃ W, W = ((w.alloc (.cells #[.int .i64 op, .slice a1 names.length c1, .int .i64 so, .int .i64 nn, .int .i64 mm, .slice a2 l.length c2] 25)).alloc (.cells #[.int .i64 0, .slice none 0 0, .int .i64 0, .int .i64 0, .int .i64 0, .slice none 0 0] 30)) := ⟨_, rfl⟩
    rw [← hW] at hu2 hb1 hb2
    have HU2 := Lib.hid hu2
    have HB1 := Lib.hid hb1
    have HB2 := Lib.hid hb2
    have hns : SlP W P (.slice a1 names.length c1) (names.map sV).length (names.map sV) := by rw [List.length_map]; exact hs.ext hu2
    have HNS := Lib.hid hns.slc
    have HNL := Lib.hid hbg.1
    obtain ⟨i0, hi0, hz0, hz1, hz2⟩ := info9'
    obtain ⟨x0, x1, x2, x3, x4, x5⟩ := cells6 hb1
    have hwl : w.heap.size < W.heap.size := lt_of_heap hb1
    have hwr := Upto.refl [] W
    clear hs h hu2 hb1 hb2 hns
    go_enter Tryz.func12, Tryz.ntmps12
    go_wp2_with fail
    simp only [← hW]
    clear hW
    have e0 : ∀ u : Ext W, u.w.cell? ⟨w.heap.size, 0, none⟩ = some _ := fun u => u.cell x0
    have e1 : ∀ u : Ext W, u.w.cell? ⟨w.heap.size, 1, none⟩ = some _ := fun u => u.cell x1
    have e2 : ∀ u : Ext W, u.w.cell? ⟨w.heap.size, 2, none⟩ = some _ := fun u => u.cell x2
    have e3 : ∀ u : Ext W, u.w.cell? ⟨w.heap.size, 3, none⟩ = some _ := fun u => u.cell x3
    have e4 : ∀ u : Ext W, u.w.cell? ⟨w.heap.size, 4, none⟩ = some _ := fun u => u.cell x4
    refine wp_region_seg_at [2, 5] [13] [0, 1, 2, 3, 4, 5, 6, 7, 8, 9, 10, 11, 12, 13] [14] 14 (by kernel_rfl) (by kernel_rfl) (by kernel_rfl) ?_
    iterate 2 (refine seg_plain rfl rfl rfl rfl rfl ?_; intro K' hK'; go_big_quiet_op; go_big_quiet_on)
    refine seg_opq (Y := Nat) (fun b => .slice (some ⟨b, 0, none⟩) 0 0) (fun _ _ => True) (fun _ => []) rfl rfl rfl rfl (fun _ _ _ h _ => h) (fun _ => List.nodup_nil) (fun w' post hu hd hp => (congrArg (opqUpon Tryz.prog post) (show _ = Result.ok (Next.value (.slice (some ⟨w'.heap.size, 0, none⟩) 0 0)) (w'.alloc (.cells #[] 9)) from by go_simp)).mpr (hp w'.heap.size _ ((Upto.refl [] w').alloc _) trivial (fun b hb => by cases hb))) ?_
    intro be
    simp only [Act.put, List.setIfInBounds_toArray, List.set_cons_zero, List.set_cons_succ]
    iterate 2 (refine seg_plain rfl rfl rfl rfl rfl ?_; intro K' hK'; go_big_quiet_op; go_big_quiet_on)
    refine seg_opq (Y := Option Addr × Nat) (fun y => .slice y.1 names.length y.2) (fun y u => SlP u (New W) (.slice y.1 names.length y.2) names.length (names.map sV)) (fun _ => []) rfl rfl rfl rfl (fun _ _ _ h hu => h.ext hu) (fun _ => List.nodup_nil) (fun w' post hu hd hp => opq_apps w' (.tmp 7) (.tmp 9) 22 rfl 9 i0 (.string ⟨#[]⟩) 16 Tryz.underlying22 hi0 hz0 hz1 hz2 rfl be rfl (.slice a1 names.length c1) (names.map sV) names.length (by simp) rfl (HNS.out.ext hu) (by have := HNL.out; unfold maxLen; omega) (by have := HNL.out; omega) (fun b' c' w2 hu2 hsl => hp (b', c') w2 hu2 (hsl.mono (fun b hb _ => New.mono hu b hb)) (fun b hb => by cases hb))) ?_
    rintro ⟨na, nc⟩
    simp only [Act.put, List.setIfInBounds_toArray, List.set_cons_zero, List.set_cons_succ]
    iterate 7 (refine seg_plain rfl rfl rfl rfl rfl ?_; intro K' hK'; go_big_quiet_op; go_big_quiet_on)
    refine seg_alloc (.cells #[.int .i64 0, .slice none 0 0, .int .i64 0, .int .i64 0, .int .i64 0, .slice none 0 0] 30) rfl rfl rfl (fun w => by go_simp) ?_
    intro bn
    simp only [Act.put, List.setIfInBounds_toArray, List.set_cons_zero, List.set_cons_succ]
    intro w9 hg
    have hup := hg.up
    have hnb := hg.hold.1
    have hsl := hg.hold.2.1
    have hin := hg.inb
    simp only [List.drop_succ_cons, List.drop_zero]
    have hbn : W.heap.size ≤ bn ∧ bn < w9.heap.size := hin _ (List.Mem.head _) bn (List.Mem.head _)
    have HSL := Lib.hid hsl
    have HUP := Lib.hid hup
    have HBN := Lib.hid hnb
    have HLT := Lib.hid hbn
    have HWL := Lib.hid hwl
    have hw2 : w.heap.size + 1 < W.heap.size := lt_of_heap HB2.out
    have HW2 := Lib.hid hw2
    obtain ⟨n0, n1, n2, n3, n4, n5⟩ := cells6 hnb
    obtain ⟨f0, f1, f2, f3, f4, f5⟩ := frees6 hnb
    have hset := set_same (set_same (set_same (set_same (set_same (set_same hnb 0 (.int .i64 op)) 1 (.slice na names.length nc)) 2 (.int .i64 so)) 3 (.int .i64 nn)) 4 (.int .i64 mm)) 5 (.slice none 0 0)
    simp only [List.setIfInBounds_toArray, List.set_cons_zero, List.set_cons_succ] at hset
    have hsu : Upto [bn] w9 ((((((w9.setCell ⟨bn, 0, none⟩ (.int .i64 op)).setCell ⟨bn, 1, none⟩ (.slice na names.length nc)).setCell ⟨bn, 2, none⟩ (.int .i64 so)).setCell ⟨bn, 3, none⟩ (.int .i64 nn)).setCell ⟨bn, 4, none⟩ (.int .i64 mm)).setCell ⟨bn, 5, none⟩ (.slice none 0 0)) := nd_self ..
    have HI0 : Hid (OfI w w9 bn op so nn mm na names.length nc (names.map sV) l 0 ((((((w9.setCell ⟨bn, 0, none⟩ (.int .i64 op)).setCell ⟨bn, 1, none⟩ (.slice na names.length nc)).setCell ⟨bn, 2, none⟩ (.int .i64 so)).setCell ⟨bn, 3, none⟩ (.int .i64 nn)).setCell ⟨bn, 4, none⟩ (.int .i64 mm)).setCell ⟨bn, 5, none⟩ (.slice none 0 0))) := Lib.hid
      ⟨hsu, (HU2.out.trans_ext hup).trans hsu (fun k hk => Or.inr (by simp at hk; omega)), none, 0, 0, fun _ _ => undef, hset, ⟨by simpa [cellsN] using World.ownsRow_nil _ 0 30 6, by simp, by intro g hg; cases hg⟩⟩
    clear hg hup hnb hsl hin hset hsu e0 e1 e2 e3 e4
    go_wp2_with fail
    have HLS := Lib.hid hls
    have HLN : Hid (l.length ≤ 10000000) := Lib.hid (by omega)
    generalize hll : l.length = ll at *
    have HLL := Lib.hid hll
    have hL0 : (0 : Int) ≤ ll := by omega
    have hL1 : (ll : Int) ≤ 10000000 := by have := HLN.out; omega
    clear hls hll
    go_loopw [4] (fun v wr => ∃ j : Nat, j ≤ ll ∧ v = .int .i64 j ∧ Hid (OfI w w9 bn op so nn mm na names.length nc (names.map sV) l j wr)) (fun v _ => ll - (intOf v).toNat)
    case atStart => exact ⟨0, by omega, rfl, HI0⟩
    case round =>
      obtain ⟨j, hj, rfl, HI⟩ := hrel
      obtain ⟨va, vn, vc, c, hbk, hrow⟩ := HI.out.st
      have hbox := HI.out.up.at (HUP.out.at HB1.out (by simp)) (by have := HLT.out; have := HWL.out; simp; omega)
      have z5 := cell_of hbox 5
      have y5 := cell_of hbk 5
      have g5 := free_of hbk 5
      simp only [List.getElem?_toArray, List.getElem?_cons_zero, List.getElem?_cons_succ] at z5 y5
      obtain ⟨va', vc', hve, -⟩ := ownsRow_len hrow.row
      simp only [Value.slice.injEq] at hve
      have hvn : vn = j := by have := HLL.out; rw [hve.2.1, List.length_take]; omega
      clear hve
      subst hvn
      rcases Nat.lt_or_ge vn ll with hlt | hge
      · obtain ⟨x, hx⟩ : ∃ x, l[vn]? = some x := ⟨_, List.getElem?_eq_getElem (by have := HLL.out; omega)⟩
        obtain ⟨g, o, xo, xn1, xn2, xn3, xs, xm, xq, xl1, xl2, xl3, rfl, c0, c1', c2', c3, c4, c5, hn⟩ := (HLS.out.ext HI.out.old) vn x hx
        have hjl : (l.take vn).length = vn := by have := HLL.out; rw [List.length_take]; omega
        have HJL := Lib.hid hjl
        have HTK : Hid (l.take (vn + 1) = l.take vn ++ [x]) := Lib.hid (by
          obtain ⟨hi, rfl⟩ := List.getElem?_eq_some_iff.1 hx
          exact List.take_succ_eq_append_getElem hi)
        have HROW := Lib.hid hrow
        have HBK := Lib.hid hbk
        have hxs := sizesF_mem (List.mem_of_getElem? hx)
        have HC := Lib.hid (fun w1 (hu : Upto [] wr w1) => of_calls k x (by omega) (by omega) (bigs_mem hbg.2 (List.mem_of_getElem? hx)) P _ w1 (hn.ext hu))
        have hltI : (vn : Int) < ll := by omega
        have hj0 : (0 : Int) ≤ vn := by omega
        clear hrow hbk hbox hn hx
        go_wp2_with fail
        have e0 : ∀ u : Ext wr, u.w.cell? ⟨bn, 5, none⟩ = some (.slice va vn vc) := fun u => u.cell y5
        have e1 : ∀ u : Ext wr, u.w.cell? ⟨w.heap.size, 5, none⟩ = some _ := fun u => u.cell z5
        have k0 : ∀ u : Ext wr, u.w.cell? ⟨g, o + vn * 6, none⟩ = some _ := fun u => u.cell c0
        have k1 : ∀ u : Ext wr, u.w.cell? ⟨g, o + vn * 6 + 1, none⟩ = some _ := fun u => u.cell c1'
        have k2 : ∀ u : Ext wr, u.w.cell? ⟨g, o + vn * 6 + 2, none⟩ = some _ := fun u => u.cell c2'
        have k3 : ∀ u : Ext wr, u.w.cell? ⟨g, o + vn * 6 + 3, none⟩ = some _ := fun u => u.cell c3
        have k4 : ∀ u : Ext wr, u.w.cell? ⟨g, o + vn * 6 + 4, none⟩ = some _ := fun u => u.cell c4
        have k5 : ∀ u : Ext wr, u.w.cell? ⟨g, o + vn * 6 + 5, none⟩ = some _ := fun u => u.cell c5
        clear y5 z5 g5 c0 c1' c2' c3 c4 c5
        refine wp_region_seg_at [7, 8] [] [0, 1, 2, 3, 4, 5, 6, 7, 8] [9, 10, 11] 9 (by kernel_rfl) (by kernel_rfl) (by kernel_rfl) ?_
        iterate 7 (refine seg_plain rfl rfl rfl rfl rfl ?_; intro K' hK'; go_big_quiet_op; go_big_quiet_on)
        refine seg_callO (Y := (Int × Option Addr × Nat × Nat) × Int × Int × Int × Option Addr × Nat × Nat) (fun y => .agg #[.int .i64 y.1.1, .slice y.1.2.1 y.1.2.2.1 y.1.2.2.2, .int .i64 y.2.1, .int .i64 y.2.2.1, .int .i64 y.2.2.2.1, .slice y.2.2.2.2.1 y.2.2.2.2.2.1 y.2.2.2.2.2.2]) (fun y u => NdV u (New wr) x (.agg #[.int .i64 y.1.1, .slice y.1.2.1 y.1.2.2.1 y.1.2.2.2, .int .i64 y.2.1, .int .i64 y.2.2.1, .int .i64 y.2.2.2.1, .slice y.2.2.2.2.1 y.2.2.2.2.2.1 y.2.2.2.2.2.2])) (fun _ => []) rfl rfl rfl rfl (fun _ _ _ h hu => h.ext hu) (fun _ => List.nodup_nil) (fun w => by go_simp) (fun w' hu hd => (HC.out w' hu).mono fun e w2 ⟨v, h1, h2, h3⟩ => by
          obtain ⟨ro, rn1, rn2, rn3, rs, rm, rq, rl1, rl2, rl3, rfl⟩ := h2.six
          exact ⟨((ro, rn1, rn2, rn3), rs, rm, rq, rl1, rl2, rl3), h1, h3, h2.mono (fun b hb _ => New.mono hu b hb), fun b hb => by cases hb⟩) ?_
        rintro ⟨⟨ro, rn1, rn2, rn3⟩, rs, rm, rq, rl1, rl2, rl3⟩
        simp only [Act.put, List.setIfInBounds_toArray, List.set_cons_zero, List.set_cons_succ]
        refine seg_opq (Y := Nat) (fun b => .slice (some ⟨b, 0, none⟩) 1 1) (fun b u => u.heap[b]? = some (.cells #[.int .i64 ro, .slice rn1 rn2 rn3, .int .i64 rs, .int .i64 rm, .int .i64 rq, .slice rl1 rl2 rl3] 30 (0, 0))) (fun _ => []) rfl rfl rfl rfl (fun _ _ _ h hu => hu.at h (by simp)) (fun _ => List.nodup_nil) (fun w' post hu hd hp => (congrArg (opqUpon Tryz.prog post) (show _ = Result.ok (Next.value (.slice (some ⟨w'.heap.size, 0, none⟩) 1 1)) (w'.alloc (.cells #[.int .i64 ro, .slice rn1 rn2 rn3, .int .i64 rs, .int .i64 rm, .int .i64 rq, .slice rl1 rl2 rl3] 30)) from by go_simp)).mpr (hp w'.heap.size _ ((Upto.refl [] w').alloc _) (new_at _ _) (fun b hb => by cases hb))) ?_
        intro b8
        simp only [Act.put, List.setIfInBounds_toArray, List.set_cons_zero, List.set_cons_succ]
        intro w10 hg
        have HU10 := Lib.hid hg.up
        have HB8 : Hid (w10.heap[b8]? = some (.cells #[.int .i64 ro, .slice rn1 rn2 rn3, .int .i64 rs, .int .i64 rm, .int .i64 rq, .slice rl1 rl2 rl3] 30 (0, 0))) := Lib.hid hg.hold.1
        have HND : Hid (NdV w10 (New wr) x (.agg #[.int .i64 ro, .slice rn1 rn2 rn3, .int .i64 rs, .int .i64 rm, .int .i64 rq, .slice rl1 rl2 rl3])) := Lib.hid hg.hold.2.1
        simp only [List.drop_succ_cons, List.drop_zero]
        clear hg e0 e1 k0 k1 k2 k3 k4 k5
        have HR10 := Lib.hid (HROW.out.upto HU10.out (by simp))
        have hr10 := HR10.out.row
        rw [hjl] at hr10
        have HRR := Lib.hid hr10
        obtain ⟨i1, hi1, hy0, hy1, hy2⟩ := infoO4'
        have hL7 := HLN.out
        have HA := Lib.hid (fun b5 c5 w5 (ho5 : w5.ownsRow 0 30 6 (.slice b5 (vn + 1) c5) (vn + 1) (cellsN c vn ++ [.int .i64 ro, .slice rn1 rn2 rn3, .int .i64 rs, .int .i64 rm, .int .i64 rq, .slice rl1 rl2 rl3])) (hu5 : Upto (Value.slice va vn vc).ownBlock.toList w10 w5) (hw5 : ∀ g, (Value.slice b5 (vn + 1) c5).ownBlock = some g → (Value.slice va vn vc).ownBlock = some g ∨ w10.heap.size ≤ g) => of_step HI.out HLT.out HWL.out HUP.out HBK.out HROW.out HU10.out HND.out HJL.out HTK.out ho5 hu5 hw5)
        clear hr10 hjl
        go_wp2_with (at_builtin
                     refine wpList_app _ rfl (.tmp 26) (.tmp 33) 28 rfl 30 i1 (.agg #[.int .i64 0, .slice none 0 0, .int .i64 0, .int .i64 0, .int .i64 0, .slice none 0 0]) 6 80 Tryz.underlying28 hi1 hy0 hy1 hy2 rfl (by decide) (.slice va vn vc) vn (cellsN c vn) rfl HRR.out ⟨b8, 0, none⟩ 1 1 [.int .i64 ro, .slice rn1 rn2 rn3, .int .i64 rs, .int .i64 rm, .int .i64 rq, .slice rl1 rl2 rl3] rfl rfl (six_at HB8.out) (by simp [Value.oneCell']) (by unfold maxLen; omega) (by omega) ?_
                     intro b5 c5 w5 ho5 hu5 hw5
                     obtain ⟨hbk5, hI5⟩ := HA.out b5 c5 w5 ho5 hu5 hw5
                     have y5 := cell_of hbk5 5
                     have g5 := free_of hbk5 5
                     simp only [List.getElem?_toArray, List.getElem?_cons_zero, List.getElem?_cons_succ] at y5
                     have HI5 := Lib.hid hI5
                     clear ho5 hu5 hw5 hbk5 hI5)
        go_roundw
        case rel => exact ⟨vn + 1, by omega, by go_num, HI5⟩
        case measure => simp [intOf]; omega
      · obtain rfl : vn = ll := by omega
        have hgeI : ¬ ((vn : Int) < vn) := by omega
        have HROW := Lib.hid hrow
        have HBK := Lib.hid hbk
        have hz2 := HI.out.up.at (HUP.out.at HB2.out (by simp)) (by have h1 := HLT.out; have h2 := HW2.out; simp; omega)
        have HZ2 := Lib.hid hz2
        obtain ⟨p0, p1, p2, p3, p4, p5⟩ := cells6 hbk
        obtain ⟨r0, r1, r2, r3, r4, r5⟩ := cells6 hz2
        obtain ⟨t0, t1, t2, t3, t4, t5⟩ := frees6 hz2
        have hF := of_end (names := names) (_P := P) HI.out HLT.out HWL.out HW2.out HUP.out HBN.out HSL.out HZ2.out HROW.out (List.take_of_length_le (by have := HLL.out; omega)) HLL.out
        have HF := Lib.hid hF
        clear hrow hbk hz2 hbox hF
        go_wp2_with fail
        have hst := nd_store HZ2.out (.int .i64 op) (.slice na names.length nc) (.int .i64 so) (.int .i64 nn) (.int .i64 mm) (.slice va vn vc)
        obtain ⟨q0, q1, q2, q3, q4, q5⟩ := cells6 hst
        exact bodyPost_ret (v := .agg #[.int .i64 op, .slice na names.length nc, .int .i64 so, .int .i64 nn, .int .i64 mm, .slice va vn vc]) (by simp [results, go_sem, q0, q1, q2, q3, q4, q5]) rfl HF.out

end Go.Proofs.YtbnebkkpmcjmbaaGreatDoor


namespace Go.Proofs.YtbnebkkpmcjmbaaGreatDoor
open Go.RowKit Go.PL Go.Maps
set_option maxRecDepth 100000 in
set_option maxHeartbeats 1600000 in
theorem rank5_calls (a1 : Option Addr) (n1 c1 : Nat) (so nn mm : Int) (a2 : Option Addr) (c2 : Nat) (w : World) : Calls Tryz.prog 26 #[.agg #[.int .i64 5, .slice a1 n1 c1, .int .i64 so, .int .i64 nn, .int .i64 mm, .slice a2 0 c2]] w fun e w' => e = .returned (.int .i64 0) ∧ Upto [] w w' := by
  have HU := Lib.hid ((Upto.refl [] w).alloc (.cells #[.int .i64 5, .slice a1 n1 c1, .int .i64 so, .int .i64 nn, .int .i64 mm, .slice a2 0 c2] 30))
  have HB := Lib.hid (new_at w (.cells #[.int .i64 5, .slice a1 n1 c1, .int .i64 so, .int .i64 nn, .int .i64 mm, .slice a2 0 c2] 30))
  have HBI := Lib.hid (fun u => binds5_calls a1 n1 c1 so nn mm a2 0 c2 u)
  obtain ⟨W, hW⟩ : ∃ W, W = w.alloc (.cells #[.int .i64 5, .slice a1 n1 c1, .int .i64 so, .int .i64 nn, .int .i64 mm, .slice a2 0 c2] 30) := ⟨_, rfl⟩
  rw [← hW] at HU HB
  go_enter Tryz.func26, Tryz.ntmps26
  go_wp2_with fail
  simp only [← hW]
  clear hW
  go_loopw [3, 9] (fun vo vi wr => vo = .int .i64 0 ∧ vi = .int .i64 0 ∧ wr = W) (fun _ _ _ => 0)
  case atStart => exact ⟨rfl, rfl, rfl⟩
  case round =>
    obtain ⟨rfl, rfl, rfl⟩ := hrel
    obtain ⟨x0, x1, x2, x3, x4, x5⟩ := cells6 HB.out
    go_wp2_with fail
    refine (HBI.out _).mono ?_
    rintro e w1 ⟨rfl, hu1⟩
    have HU1 := Lib.hid (HU.out.trans_ext hu1)
    clear hu1
    go_wp2_with fail
    go_ret
    exact ⟨rfl, HU1.out⟩
/-- the operand's six cells, now and later -/
def LfB (w : World) (gl ol : Nat) (a2 : Option Addr) (n2 c2 : Nat) (so nn mm : Int) (a3 : Option Addr) (c3 : Nat) : Prop := w.cell? ⟨gl, ol, none⟩ = some (.int .i64 5) ∧ w.cell? ⟨gl, ol + 1, none⟩ = some (.slice a2 n2 c2) ∧ w.cell? ⟨gl, ol + 2, none⟩ = some (.int .i64 so) ∧ w.cell? ⟨gl, ol + 3, none⟩ = some (.int .i64 nn) ∧ w.cell? ⟨gl, ol + 4, none⟩ = some (.int .i64 mm) ∧ w.cell? ⟨gl, ol + 5, none⟩ = some (.slice a3 0 c3)
theorem LfB.ext {w w' : World} {gl ol : Nat} {a2 : Option Addr} {n2 c2 : Nat} {so nn mm : Int} {a3 : Option Addr} {c3 : Nat} (h : LfB w gl ol a2 n2 c2 so nn mm a3 c3) (hu : Upto [] w w') : LfB w' gl ol a2 n2 c2 so nn mm a3 c3 := by
  have up : ∀ {p : Addr} {u : Value}, w.cell? p = some u → w'.cell? p = some u := fun hp => (hu.cell (World.block_lt_of_cell? w _ hp) (by simp)).trans hp
  obtain ⟨h0, h1, h2, h3, h4, h5⟩ := h
  exact ⟨up h0, up h1, up h2, up h3, up h4, up h5⟩
set_option maxRecDepth 100000 in
set_option maxHeartbeats 1600000 in
theorem rank16_calls (g1 o1 c1 gl ol cl : Nat) (a2 : Option Addr) (n2 c2 : Nat) (so nn mm : Int) (a3 : Option Addr) (c3 : Nat) (w : World) (h : LfB w gl ol a2 n2 c2 so nn mm a3 c3) : Calls Tryz.prog 26 #[.agg #[.int .i64 16, .slice (some ⟨g1, o1, none⟩) 1 c1, .int .i64 0, .int .i64 0, .int .i64 0, .slice (some ⟨gl, ol, none⟩) 1 cl]] w fun e w' => e = .returned (.int .i64 1) ∧ Upto [] w w' := by
  have HBI := Lib.hid (fun u => binds16_calls (some ⟨g1, o1, none⟩) 1 c1 0 0 0 (some ⟨gl, ol, none⟩) 1 cl (by omega) u)
  have HRK := Lib.hid (fun u => rank5_calls a2 n2 c2 so nn mm a3 c3 u)
  obtain ⟨W, hW⟩ : ∃ W, W = w.alloc (.cells #[.int .i64 16, .slice (some ⟨g1, o1, none⟩) 1 c1, .int .i64 0, .int .i64 0, .int .i64 0, .slice (some ⟨gl, ol, none⟩) 1 cl] 30) := ⟨_, rfl⟩
  have HU : Hid (Upto [] w W) := Lib.hid (by rw [hW]; exact (Upto.refl [] w).alloc _)
  have HB : Hid (W.heap[w.heap.size]? = some (.cells #[.int .i64 16, .slice (some ⟨g1, o1, none⟩) 1 c1, .int .i64 0, .int .i64 0, .int .i64 0, .slice (some ⟨gl, ol, none⟩) 1 cl] 30 (0, 0))) := Lib.hid (by rw [hW]; exact new_at w _)
  have HL := Lib.hid (h.ext HU.out)
  clear h
  go_enter Tryz.func26, Tryz.ntmps26
  go_wp2_with fail
  simp only [← hW]
  clear hW
  go_loopw [3, 9] (fun vo vi wr => ∃ j : Nat, j ≤ 1 ∧ vo = .int .i64 0 ∧ vi = .int .i64 j ∧ Hid (Upto [] W wr)) (fun _ vi _ => 1 - (intOf vi).toNat)
  case atStart => exact ⟨0, by omega, rfl, rfl, Lib.hid (Upto.refl _ _)⟩
  case round =>
    obtain ⟨j, hj, rfl, rfl, HI⟩ := hrel
    obtain rfl | rfl : j = 0 ∨ j = 1 := by omega
    · obtain ⟨l0, l1, l2, l3, l4, l5⟩ := HL.out.ext HI.out
      have HA := Lib.hid (HI.out.alloc (.cells #[.int .i64 5, .slice a2 n2 c2, .int .i64 so, .int .i64 nn, .int .i64 mm, .slice a3 0 c3] 30))
      go_wp2_with fail
      refine (HRK.out _).mono ?_
      rintro e w1 ⟨rfl, hu1⟩
      have HU1 := Lib.hid (HA.out.trans_ext hu1)
      clear hu1 l0 l1 l2 l3 l4 l5
      go_wp2_with fail
      exact ⟨⟨1, by omega, rfl, rfl, HU1⟩, by simp [intOf]⟩
    · have HB1 := Lib.hid (HI.out.at HB.out (by simp))
      obtain ⟨x0, x1, x2, x3, x4, x5⟩ := cells6 HB1.out
      go_wp2_with fail
      refine (HBI.out _).mono ?_
      rintro e w1 ⟨rfl, hu1⟩
      have HU1 := Lib.hid ((HU.out.trans_ext HI.out).trans_ext hu1)
      clear hu1
      go_wp2_with fail
      go_ret
      exact ⟨rfl, HU1.out⟩
end Go.Proofs.YtbnebkkpmcjmbaaGreatDoor


namespace Go.Proofs.YtbnebkkpmcjmbaaGreatDoor
open Go.RowKit Go.PL Go.Maps Go.Shelf
set_option maxRecDepth 100000 in
set_option maxHeartbeats 2000000 in
theorem mclone_calls (b : Nat) (es : Array MapEntry) (clock : Nat) (w : World) (hb : w.heap[b]? = some (.map es clock)) :
    Calls Tryz.prog 89 #[.map (some b)] w fun e w' => e = .returned (.map (some w.heap.size)) ∧ w' = w.alloc (.map es clock) := by
  have hq := fun w => run_eql_map_nil_sl (P := Tryz.prog) w 99 _ _ (some b) Tryz.underlying99
  go_enter Tryz.func89, Tryz.ntmps89
  go_wp2
  rw [run_callFunc_extern Tryz.func98 (by kernel_rfl) (by kernel_rfl) (by kernel_rfl) (e := Extern.MapsClone.clone) (by kernel_rfl), run_maps_clone_sl w 99 hb]
  simp only [Result.andThen]
  rw [Oper.upon_value]
  go_wp2
  rw [run_typeAssert_map_sl _ 99 20 _ _ _ Tryz.underlying99]
  simp only [Result.andThen]
  rw [Oper.upon_value]
  go_wp2
  go_ret
  exact ⟨rfl, rfl⟩
end Go.Proofs.YtbnebkkpmcjmbaaGreatDoor


namespace Go.Proofs.YtbnebkkpmcjmbaaGreatDoor
open Go.RowKit Go.PL Go.Maps
set_option maxRecDepth 100000 in
set_option maxHeartbeats 2000000 in
theorem atom_calls (g o c2 : Nat) (so nn mm : Int) (a3 : Option Addr) (n3 c3 : Nat) (b : Nat) (w : World) (h0 : w.cell? ⟨g, o, none⟩ = some (sV [120])) (hlk : ∀ u, Upto [] w u → (Instr.lookup 99 (.map (some b)) (.string ⟨#[120]⟩) true).run Tryz.prog u = .ok (.tuple #[.int .i64 0, .bool false]) u) : Calls Tryz.prog 90 #[.agg #[.int .i64 5, .slice (some ⟨g, o, none⟩) 2 c2, .int .i64 so, .int .i64 nn, .int .i64 mm, .slice a3 n3 c3], .map (some b)] w fun e w' => e = .returned (.agg #[.int .i64 21, .string ⟨#[120]⟩]) ∧ Upto [] w w' := by
  obtain ⟨W, hW⟩ : ∃ W, W = (w.alloc (.cells #[.int .i64 5, .slice (some ⟨g, o, none⟩) 2 c2, .int .i64 so, .int .i64 nn, .int .i64 mm, .slice a3 n3 c3] 30)).alloc (.cells #[.int .i64 0, .string ⟨#[]⟩] 64) := ⟨_, rfl⟩
  have HU : Hid (Upto [] w W) := Lib.hid (by rw [hW]; exact ((Upto.refl [] w).alloc _).alloc _)
  have HB1 : Hid (W.heap[w.heap.size]? = some (.cells #[.int .i64 5, .slice (some ⟨g, o, none⟩) 2 c2, .int .i64 so, .int .i64 nn, .int .i64 mm, .slice a3 n3 c3] 30 (0, 0))) := Lib.hid (by rw [hW]; exact alloc_old (new_at w _) _)
  obtain ⟨x0, x1⟩ := cells2 HB1.out
  have n0 := (HU.out.cell (World.block_lt_of_cell? w _ h0) (by simp)).trans h0
  unfold sV at n0
  have HB2 : Hid (W.heap[w.heap.size + 1]? = some (.cells #[.int .i64 0, .string ⟨#[]⟩] 64 (0, 0))) := Lib.hid (by rw [hW]; exact new_at1 w _ _)
  obtain ⟨y0, y1⟩ := cells2 HB2.out
  obtain ⟨f0, f1⟩ := frees2 HB2.out
  have hl := hlk W HU.out
  clear hlk h0
  go_enter Tryz.func90, Tryz.ntmps90
  go_wp2_with fail
  simp only [← hW]
  clear hW
  go_loopw [23] (fun vi wr => vi = .int .i64 0 ∧ wr = W) (fun _ _ => 0)
  case atStart => exact ⟨rfl, rfl⟩
  case round =>
    obtain ⟨rfl, rfl⟩ := hrel
    go_wp2_with fail
    clear x0 x1 y0 y1 f0 f1 n0 hl
    have hst := set_same (set_same HB2.out 0 (.int .i64 21)) 1 (.string ⟨#[120]⟩)
    simp only [List.setIfInBounds_toArray, List.set_cons_zero, List.set_cons_succ] at hst
    have hup := (HU.out.setCell (p := ⟨w.heap.size + 1, 0, none⟩) (Or.inr (by simp)) (.int .i64 21)).setCell (p := ⟨w.heap.size + 1, 1, none⟩) (Or.inr (by simp)) (.string ⟨#[120]⟩)
    obtain ⟨q0, q1⟩ := cells2 hst
    exact bodyPost_ret (v := .agg #[.int .i64 21, .string ⟨#[120]⟩]) (by simp [results, Tryz.results90, go_sem, q0, q1]) rfl ⟨rfl, hup⟩
end Go.Proofs.YtbnebkkpmcjmbaaGreatDoor


namespace Go.Proofs.YtbnebkkpmcjmbaaGreatDoor
open Go.RowKit Go.PL Go.Maps
set_option maxRecDepth 100000 in
set_option maxHeartbeats 2000000 in
theorem check5_calls (g o c2 : Nat) (so nn mm : Int) (a3 : Option Addr) (n3 c3 : Nat) (b : Nat) (w : World) (h0 : w.cell? ⟨g, o, none⟩ = some (sV [120])) (hlk : ∀ u, Upto [] w u → (Instr.lookup 99 (.map (some b)) (.string ⟨#[120]⟩) true).run Tryz.prog u = .ok (.tuple #[.int .i64 0, .bool false]) u) : Calls Tryz.prog 69 #[.agg #[.int .i64 5, .slice (some ⟨g, o, none⟩) 2 c2, .int .i64 so, .int .i64 nn, .int .i64 mm, .slice a3 n3 c3], .map (some b)] w fun e w' => e = .returned (.agg #[.int .i64 21, .string ⟨#[120]⟩]) ∧ Upto [] w w' := by
  obtain ⟨W, hW⟩ : ∃ W, W = (w.alloc (.cells #[.int .i64 5, .slice (some ⟨g, o, none⟩) 2 c2, .int .i64 so, .int .i64 nn, .int .i64 mm, .slice a3 n3 c3] 30)).alloc (.cells #[.int .i64 0, .string ⟨#[]⟩] 64) := ⟨_, rfl⟩
  have HU : Hid (Upto [] w W) := Lib.hid (by rw [hW]; exact ((Upto.refl [] w).alloc _).alloc _)
  have HB1 : Hid (W.heap[w.heap.size]? = some (.cells #[.int .i64 5, .slice (some ⟨g, o, none⟩) 2 c2, .int .i64 so, .int .i64 nn, .int .i64 mm, .slice a3 n3 c3] 30 (0, 0))) := Lib.hid (by rw [hW]; exact alloc_old (new_at w _) _)
  have HB2 : Hid (W.heap[w.heap.size + 1]? = some (.cells #[.int .i64 0, .string ⟨#[]⟩] 64 (0, 0))) := Lib.hid (by rw [hW]; exact new_at1 w _ _)
  have HAT := Lib.hid (fun u (hu : Upto [] w u) => atom_calls g o c2 so nn mm a3 n3 c3 b u ((hu.cell (World.block_lt_of_cell? w _ h0) (by simp)).trans h0) (fun v hv => hlk v (hu.trans_ext hv)))
  obtain ⟨x0, x1, x2, x3, x4, x5⟩ := cells6 HB1.out
  clear h0 hlk
  go_enter Tryz.func69, Tryz.ntmps69
  go_wp2_with fail
  simp only [← hW]
  clear hW
  refine (HAT.out _ HU.out).mono ?_
  rintro e w1 ⟨rfl, hu1⟩
  have HB3 := Lib.hid (hu1.at HB2.out (by simp))
  have HU1 := Lib.hid (HU.out.trans_ext hu1)
  clear hu1 x0 x1 x2 x3 x4 x5
  obtain ⟨y0, y1⟩ := cells2 HB3.out
  obtain ⟨f0, f1⟩ := frees2 HB3.out
  go_wp2_with fail
  clear y0 y1 f0 f1
  have hst := set_same (set_same HB3.out 0 (.int .i64 21)) 1 (.string ⟨#[120]⟩)
  simp only [List.setIfInBounds_toArray, List.set_cons_zero, List.set_cons_succ] at hst
  have hup := (HU1.out.setCell (p := ⟨w.heap.size + 1, 0, none⟩) (Or.inr (by simp)) (.int .i64 21)).setCell (p := ⟨w.heap.size + 1, 1, none⟩) (Or.inr (by simp)) (.string ⟨#[120]⟩)
  obtain ⟨q0, q1⟩ := cells2 hst
  exact bodyPost_ret (v := .agg #[.int .i64 21, .string ⟨#[120]⟩]) (by simp [results, Tryz.results69, go_sem, q0, q1]) rfl ⟨rfl, hup⟩
end Go.Proofs.YtbnebkkpmcjmbaaGreatDoor


namespace Go.Proofs.YtbnebkkpmcjmbaaGreatDoor
open Go.RowKit Go.PL Go.Maps
set_option maxRecDepth 100000 in
set_option maxHeartbeats 2000000 in
theorem check16_calls (g1 o1 c1 gl ol cl g o c2 : Nat) (so nn mm : Int) (a3 : Option Addr) (c3 : Nat) (b : Nat) (w : World) (hb : w.heap[b]? = some (.map #[] 0)) (hn : w.cell? ⟨g1, o1, none⟩ = some (sV [121])) (h0 : w.cell? ⟨g, o, none⟩ = some (sV [120])) (hl : LfB w gl ol (some ⟨g, o, none⟩) 2 c2 so nn mm a3 c3) : Calls Tryz.prog 69 #[.agg #[.int .i64 16, .slice (some ⟨g1, o1, none⟩) 1 c1, .int .i64 0, .int .i64 0, .int .i64 0, .slice (some ⟨gl, ol, none⟩) 1 cl], .map (some b)] w fun e w' => e = .returned (.agg #[.int .i64 21, .string ⟨#[120]⟩]) ∧ Upto [] w w' := by
  obtain ⟨W, hW⟩ : ∃ W, W = (w.alloc (.cells #[.int .i64 16, .slice (some ⟨g1, o1, none⟩) 1 c1, .int .i64 0, .int .i64 0, .int .i64 0, .slice (some ⟨gl, ol, none⟩) 1 cl] 30)).alloc (.cells #[.int .i64 0, .string ⟨#[]⟩] 64) := ⟨_, rfl⟩
  have HU : Hid (Upto [] w W) := Lib.hid (by rw [hW]; exact ((Upto.refl [] w).alloc _).alloc _)
  have HB1 : Hid (W.heap[w.heap.size]? = some (.cells #[.int .i64 16, .slice (some ⟨g1, o1, none⟩) 1 c1, .int .i64 0, .int .i64 0, .int .i64 0, .slice (some ⟨gl, ol, none⟩) 1 cl] 30 (0, 0))) := Lib.hid (by rw [hW]; exact alloc_old (new_at w _) _)
  have HB2 : Hid (W.heap[w.heap.size + 1]? = some (.cells #[.int .i64 0, .string ⟨#[]⟩] 64 (0, 0))) := Lib.hid (by rw [hW]; exact new_at1 w _ _)
  have HBI := Lib.hid (fun u => binds16_calls (some ⟨g1, o1, none⟩) 1 c1 0 0 0 (some ⟨gl, ol, none⟩) 1 cl (by omega) u)
  have HMB := Lib.hid (HU.out.at hb (by simp))
  have HLB := Lib.hid (fun u (hu : Upto [] w u) => hl.ext hu)
  have HN0 := Lib.hid (fun u (hu : Upto [] w u) => (hu.cell (World.block_lt_of_cell? w _ h0) (by simp)).trans h0)
  obtain ⟨x0, x1, x2, x3, x4, x5⟩ := cells6 HB1.out
  go_enter Tryz.func69, Tryz.ntmps69
  go_wp2_with fail
  simp only [← hW]
  clear hW
  refine (HBI.out _).mono ?_
  rintro e w1 ⟨rfl, hu1⟩
  have HB3 := Lib.hid (hu1.at HB1.out (by simp))
  have HR3 := Lib.hid (hu1.at HB2.out (by simp))
  have HM1 := Lib.hid (hu1.at HMB.out (by simp))
  have HU1 := Lib.hid (HU.out.trans_ext hu1)
  clear hu1 x0 x1 x2 x3 x4 x5
  go_wp2_with fail
  refine (mclone_calls b #[] 0 w1 HM1.out).mono ?_
  rintro e w2 ⟨rfl, rfl⟩
  go_wp2_with fail
  have hm4 := MapL.made Tryz.prog 9 w1
  obtain ⟨W4, hW4⟩ : ∃ W4, W4 = w1.alloc (.map #[] 0) := ⟨_, rfl⟩
  have HWL := Lib.hid HU1.out.size
  have HWB := Lib.hid (lt_of_heap HB3.out)
  have HU4 : Hid (Upto [] w W4) := Lib.hid (by rw [hW4]; exact HU1.out.alloc _)
  have HB4 : Hid (W4.heap[w.heap.size]? = some (.cells #[.int .i64 16, .slice (some ⟨g1, o1, none⟩) 1 c1, .int .i64 0, .int .i64 0, .int .i64 0, .slice (some ⟨gl, ol, none⟩) 1 cl] 30 (0, 0))) := Lib.hid (by rw [hW4]; exact alloc_old HB3.out _)
  have HR4 : Hid (W4.heap[w.heap.size + 1]? = some (.cells #[.int .i64 0, .string ⟨#[]⟩] 64 (0, 0))) := Lib.hid (by rw [hW4]; exact alloc_old HR3.out _)
  have HRB := Lib.hid (lt_of_heap HR3.out)
  rw [← hW4] at hm4
  have HM4 := Lib.hid hm4
  simp only [← hW4]
  clear hW4 hm4
  have hn4 := (HU4.out.cell (World.block_lt_of_cell? w _ hn) (by simp)).trans hn
  unfold sV at hn4
  have e1 : ∀ u : Ext W4, u.w.cell? ⟨w.heap.size, 1, none⟩ = some (.slice (some ⟨g1, o1, none⟩) 1 c1) := fun u => u.cell (cell_of HB4.out 1)
  have e2 : ∀ u : Ext W4, u.w.cell? ⟨w.heap.size, 2, none⟩ = some (.int .i64 0) := fun u => u.cell (cell_of HB4.out 2)
  have en : ∀ u : Ext W4, u.w.cell? ⟨g1, o1, none⟩ = some (.string ⟨#[121]⟩) := fun u => u.cell hn4
  clear hn4
  refine wp_region_seg_at [] [] [0, 1, 2, 3, 4, 5, 6] [7] 7 (by kernel_rfl) (by kernel_rfl) (by kernel_rfl) ?_
  iterate 7 (refine seg_plain rfl rfl rfl rfl rfl ?_; intro K' hK'; go_big_quiet_op; go_big_quiet_on)
  intro w5 hg
  have HU5 := Lib.hid (HU4.out.trans_ext hg.up)
  have hm5 := HM4.out.upto hg.up (by simp)
  have HB5 := Lib.hid (hg.up.at HB4.out (by simp))
  have HR5 := Lib.hid (hg.up.at HR4.out (by simp))
  simp only [List.drop_succ_cons, List.drop_zero]
  clear hg e1 e2 en
  go_wp2_with (refine wpList_insert _ rfl _ _ _ 99 rfl 9 3 lawS Tryz.underlying99 w1.heap.size [] rfl hm5 (.string ⟨#[121]⟩) (.int .i64 0) _ rfl rfl (keyS Tryz.underlying9 (by decide)) (by simp) ?_; intro w6 hm6 hg6; have HU6 := Lib.hid (HU5.out.grown hg6 (fun k hk => by cases hk; exact Or.inr HWL.out)); have HB6 := Lib.hid (((Upto.refl [w1.heap.size] w5).grown hg6 (fun k hk => by cases hk; simp)).at HB5.out (by have := HWB.out; simp; omega)); have HR6 := Lib.hid (((Upto.refl [w1.heap.size] w5).grown hg6 (fun k hk => by cases hk; simp)).at HR5.out (by have := HRB.out; simp; omega)); have HM6 := Lib.hid hm6; clear hm6 hg6; have z5 := cell_of HB6.out 5; simp only [List.getElem?_toArray, List.getElem?_cons_zero, List.getElem?_cons_succ] at z5)
  have HLK : Hid (∀ u, Upto [] w6 u → (Instr.lookup 99 (.map (some w1.heap.size)) (.string ⟨#[120]⟩) true).run Tryz.prog u = .ok (.tuple #[.int .i64 0, .bool false]) u) := Lib.hid (fun u hu => by
    rcases (HM6.out.upto hu (by simp)).look lawS Tryz.underlying99 (z := .int .i64 0) rfl (x := .string ⟨#[120]⟩) (keyS Tryz.underlying9 (by decide)) true with ⟨h1, -⟩ | ⟨v, h1, -⟩
    · exact h1
    · simp at h1)
  have HC5 := Lib.hid (fun u (hu : Upto [] w6 u) => check5_calls g o c2 so nn mm a3 0 c3 w1.heap.size u (HN0.out u (HU6.out.trans_ext hu)) (fun v hv => HLK.out v (hu.trans_ext hv)))
  obtain ⟨l0, l1, l2, l3, l4, l5⟩ := HLB.out _ HU6.out
  clear hl h0 hn hb
  go_loopw [33] (fun vi wr => vi = .int .i64 0 ∧ wr = w6) (fun _ _ => 0)
  case atStart => exact ⟨rfl, rfl⟩
  case round =>
    obtain ⟨rfl, rfl⟩ := hrel
    go_wp2_with fail
    refine (HC5.out _ ((Upto.refl [] _).alloc _)).mono ?_
    rintro e w7 ⟨rfl, hu7⟩
    have HU7 := Lib.hid (((Upto.refl [] _).alloc (.cells #[.int .i64 5, .slice (some ⟨g, o, none⟩) 2 c2, .int .i64 so, .int .i64 nn, .int .i64 mm, .slice a3 0 c3] 30)).trans_ext hu7)
    have HR7 := Lib.hid (HU7.out.at HR6.out (by simp))
    clear hu7 z5 l0 l1 l2 l3 l4 l5
    have HR8 := Lib.hid (alloc_old HR7.out (.cells #[.int .i64 21, .string ⟨#[120]⟩] 64))
    obtain ⟨y0, y1⟩ := cells2 HR8.out
    obtain ⟨f0, f1⟩ := frees2 HR8.out
    go_wp2_with fail
    clear y0 y1 f0 f1
    have hst := set_same (set_same HR8.out 0 (.int .i64 21)) 1 (.string ⟨#[120]⟩)
    simp only [List.setIfInBounds_toArray, List.set_cons_zero, List.set_cons_succ] at hst
    have hup := (((HU6.out.trans_ext HU7.out).alloc (.cells #[.int .i64 21, .string ⟨#[120]⟩] 64)).setCell (p := ⟨w.heap.size + 1, 0, none⟩) (Or.inr (by simp)) (.int .i64 21)).setCell (p := ⟨w.heap.size + 1, 1, none⟩) (Or.inr (by simp)) (.string ⟨#[120]⟩)
    obtain ⟨q0, q1⟩ := cells2 hst
    exact bodyPost_ret (v := .agg #[.int .i64 21, .string ⟨#[120]⟩]) (by simp [results, Tryz.results69, go_sem, q0, q1]) rfl ⟨rfl, hup⟩
end Go.Proofs.YtbnebkkpmcjmbaaGreatDoor


namespace Go.Proofs.YtbnebkkpmcjmbaaGreatDoor
open Go.RowKit Go.PL Go.Maps
set_option maxRecDepth 100000 in
set_option maxHeartbeats 1600000 in
theorem hasc_calls (s : List UInt8) (w : World) (he : Env w) (hmax : s.length ≤ 281474976710656) : Calls Tryz.prog 100 #[.string ⟨s.toArray⟩] w fun e w' => e = .returned (.bool (!identF s)) ∧ Upto [] w w' := by
  have H := Lib.hid (isIdent_calls s w he hmax)
  generalize identF s = b at *
  go_enter Tryz.func100, Tryz.ntmps100
  go_wp2_with fail
  refine H.out.mono ?_
  rintro e w1 ⟨rfl, hu1⟩
  have HU1 := Lib.hid hu1
  clear hu1
  cases b
  · go_wp2_with fail
    go_ret
    exact ⟨rfl, HU1.out⟩
  · go_wp2_with fail
    go_ret
    exact ⟨rfl, HU1.out⟩
set_option maxRecDepth 100000 in
set_option maxHeartbeats 3200000 in
theorem indexf_calls (xs : List (List UInt8)) (a : Option Addr) (c : Nat) (w : World) (he : Env w) (hl : xs.length ≤ 10000000) (hx : ∀ x ∈ xs, x.length ≤ 10000000) (hc : ∀ i x, xs[i]? = some x → ∃ g o, a = some ⟨g, o, none⟩ ∧ w.cell? ⟨g, o + i, none⟩ = some (.string ⟨x.toArray⟩)) :
    Calls Tryz.prog 111 #[.slice a xs.length c, .func (.func 100) #[] #[]] w fun e w' => (∃ k : Int, e = .returned (.int .i64 k) ∧ (0 ≤ k ↔ xs.all identF = false)) ∧ Upto [] w w' := by
  have HE : Hid (∀ u, Upto [] w u → Env u) := Lib.hid (fun u hu => he.ext hu)
  have HC := Lib.hid hc
  have HX := Lib.hid hx
  generalize hB : xs.all identF = B at *
  have HB := Lib.hid hB
  clear hB
  generalize hL : xs.length = L at *
  have HL := Lib.hid hL
  have hL0 : (0 : Int) ≤ L := by omega
  have hL1 : (L : Int) ≤ 10000000 := by omega
  clear he hc hx hL
  go_enter Tryz.func111, Tryz.ntmps111
  go_wp2_with fail
  go_loopw [8] (fun i wr => ∃ j : Nat, j ≤ L ∧ i = .int .i64 j ∧ Hid (∀ q x, q < j → xs[q]? = some x → identF x = true) ∧ Hid (Upto [] w wr)) (fun i _ => L - (intOf i).toNat)
  case atStart => exact ⟨0, by omega, rfl, Lib.hid (fun q x hq => by omega), Lib.hid (Upto.refl _ _)⟩
  case round =>
    obtain ⟨j, hj, rfl, HA, HU⟩ := hrel
    have hj0 : (0 : Int) ≤ j := by omega
    rcases Nat.lt_or_ge j L with hlt | hge
    · have hltI : (j : Int) < L := by omega
      obtain ⟨x, hx⟩ : ∃ x, xs[j]? = some x := ⟨_, List.getElem?_eq_getElem (by have := HL.out; omega)⟩
      have hmem := List.mem_of_getElem? hx
      obtain ⟨g, o, rfl, c0⟩ := HC.out j x hx
      replace c0 := up_cell HU.out c0
      have HK := Lib.hid (hasc_calls x wr (HE.out wr HU.out) (by have := HX.out x hmem; omega))
      have hbb : identF x = true ∨ identF x = false := by cases identF x <;> simp
      rcases hbb with hb | hb
      · rw [hb] at HK
        have HA2 : Hid (∀ q x, q < j + 1 → xs[q]? = some x → identF x = true) := Lib.hid (fun q y hq hy => by
          by_cases hqj : q = j
          · subst hqj
            rw [hx] at hy
            cases hy
            exact hb
          · exact HA.out q y (by omega) hy)
        clear hx hmem hb
        go_wp2_with fail
        refine HK.out.mono ?_
        rintro e w5 ⟨rfl, hu5⟩
        have HU5 := Lib.hid (HU.out.trans_ext hu5)
        clear hu5
        go_wp2_with fail
        go_roundw
        case rel => exact ⟨j + 1, by omega, by go_num, HA2, HU5⟩
        case measure => simp [intOf]; omega
      · rw [hb] at HK
        have HF : Hid (B = false) := Lib.hid (by
          rw [← HB.out, Bool.eq_false_iff]
          intro h
          have := List.all_eq_true.1 h x hmem
          rw [hb] at this
          cases this)
        clear hx hmem hb
        go_wp2_with fail
        refine HK.out.mono ?_
        rintro e w5 ⟨rfl, hu5⟩
        have HU5 := Lib.hid (HU.out.trans_ext hu5)
        clear hu5
        go_wp2_with fail
        go_ret
        exact ⟨⟨(j : Int), rfl, fun _ => HF.out, fun _ => hj0⟩, HU5.out⟩
    · have hgeI : ¬ (j : Int) < L := by omega
      have HF : Hid (B = true) := Lib.hid (by
        rw [← HB.out, List.all_eq_true]
        intro x hx
        obtain ⟨q, hq, rfl⟩ := List.mem_iff_getElem.1 hx
        exact HA.out q _ (by have := HL.out; omega) (List.getElem?_eq_getElem hq))
      go_wp2_with fail
      go_ret
      exact ⟨⟨-1, rfl, fun h => absurd h (by decide), fun h => by rw [HF.out] at h; cases h⟩, HU.out⟩
set_option maxRecDepth 100000 in
set_option maxHeartbeats 1600000 in
theorem containsf_calls (xs : List (List UInt8)) (a : Option Addr) (c : Nat) (w : World) (he : Env w) (hl : xs.length ≤ 10000000) (hx : ∀ x ∈ xs, x.length ≤ 10000000) (hc : ∀ i x, xs[i]? = some x → ∃ g o, a = some ⟨g, o, none⟩ ∧ w.cell? ⟨g, o + i, none⟩ = some (.string ⟨x.toArray⟩)) :
    Calls Tryz.prog 99 #[.slice a xs.length c, .func (.func 100) #[] #[]] w fun e w' => e = .returned (.bool (!xs.all identF)) ∧ Upto [] w w' := by
  have H := Lib.hid (indexf_calls xs a c w he hl hx hc)
  clear hc hx hl he
  generalize hL : xs.length = L at *
  generalize xs.all identF = b at *
  clear hL
  go_enter Tryz.func99, Tryz.ntmps99
  go_wp2_with fail
  refine H.out.mono ?_
  rintro e w1 ⟨⟨k, rfl, hk⟩, hu1⟩
  have HU1 := Lib.hid hu1
  clear hu1
  cases b
  · have h0 : (0 : Int) ≤ k := hk.2 rfl
    clear hk
    go_wp2_with fail
    go_ret
    exact ⟨rfl, HU1.out⟩
  · have h0 : ¬ (0 : Int) ≤ k := fun h => by have := hk.1 h; cases this
    clear hk
    go_wp2_with fail
    go_ret
    refine ⟨?_, HU1.out⟩
    show Ending.returned (.bool (decide (0 ≤ k))) = _
    rw [decide_eq_false (by omega)]
    rfl
end Go.Proofs.YtbnebkkpmcjmbaaGreatDoor


namespace Go.Proofs.YtbnebkkpmcjmbaaGreatDoor
open Go.RowKit Go.PL Go.Maps

def sortW (s : Int) : List UInt8 := if s = 0 then [118, 101, 114, 116, 101, 120] else if s = 1 then [101, 100, 103, 101] else if s = 2 then [115, 101, 116] else if s = 3 then [101, 100, 103, 101, 115] else []
end Go.Proofs.YtbnebkkpmcjmbaaGreatDoor


namespace Go.Proofs.YtbnebkkpmcjmbaaGreatDoor
open Go.RowKit Go.PL Go.Maps
set_option maxRecDepth 100000 in
set_option maxHeartbeats 1600000 in
theorem sname_calls (s : Int) (w : World) (hs : SEnv w) : Calls Tryz.prog 85 #[.int .i64 s] w fun e w' => e = .returned (.string ⟨(sortW s).toArray⟩) ∧ Upto [] w w' := by
  have HU := Lib.hid (Upto.refl [] w)
  by_cases h0 : s < 0
  · have e : sortW s = [] := by unfold sortW; rw [if_neg (by omega), if_neg (by omega), if_neg (by omega), if_neg (by omega)]
    rw [e]
    clear e hs
    go_enter Tryz.func85, Tryz.ntmps85
    go_wp2_with fail
    go_ret
    exact ⟨rfl, HU.out⟩
  by_cases h1 : (4 : Int) ≤ s
  · have e : sortW s = [] := by unfold sortW; rw [if_neg (by omega), if_neg (by omega), if_neg (by omega), if_neg (by omega)]
    rw [e]
    clear e hs
    go_enter Tryz.func85, Tryz.ntmps85
    go_wp2_with fail
    go_ret
    exact ⟨rfl, HU.out⟩
  have hc : s = 0 ∨ s = 1 ∨ s = 2 ∨ s = 3 := by omega
  have c0 := hs.c0
  have c1 := hs.c1
  have c2 := hs.c2
  have c3 := hs.c3
  clear hs h0 h1
  rcases hc with rfl | rfl | rfl | rfl
  · go_enter Tryz.func85, Tryz.ntmps85
    go_wp2_with fail
    go_ret
    exact ⟨rfl, HU.out⟩
  · go_enter Tryz.func85, Tryz.ntmps85
    go_wp2_with fail
    go_ret
    exact ⟨rfl, HU.out⟩
  · go_enter Tryz.func85, Tryz.ntmps85
    go_wp2_with fail
    go_ret
    exact ⟨rfl, HU.out⟩
  · go_enter Tryz.func85, Tryz.ntmps85
    go_wp2_with fail
    go_ret
    exact ⟨rfl, HU.out⟩
/-- a list of variables, element by element -/
theorem vars_get {w : World} {P : Nat → Prop} {v : Value} {f : List (List UInt8 × Int)} (h : VarsV w P v f) : ∃ a c, v = .slice a f.length c ∧ ∀ i x, f[i]? = some x → ∃ g o, a = some ⟨g, o, none⟩ ∧ w.cell? ⟨g, o + i * 2, none⟩ = some (.string ⟨x.1.toArray⟩) ∧ w.cell? ⟨g, o + i * 2 + 1, none⟩ = some (.int .i64 x.2) := by
  obtain ⟨a, c, rfl, hg⟩ := SlP.get h
  refine ⟨a, c, rfl, fun i x hi => ?_⟩
  obtain ⟨g, o, rfl, h1⟩ := hg _ _ (vars_at hi).1
  obtain ⟨g2, o2, e, h2⟩ := hg _ _ (vars_at hi).2
  simp at e
  obtain ⟨rfl, rfl⟩ := e
  exact ⟨g, o, rfl, h1, h2⟩
theorem vars_slice {w : World} {P : Nat → Prop} {a : Option Addr} {n c : Nat} {f : List (List UInt8 × Int)} (h : VarsV w P (.slice a n c) f) : ∀ i x, f[i]? = some x → ∃ g o, a = some ⟨g, o, none⟩ ∧ w.cell? ⟨g, o + i * 2, none⟩ = some (.string ⟨x.1.toArray⟩) ∧ w.cell? ⟨g, o + i * 2 + 1, none⟩ = some (.int .i64 x.2) := by
  obtain ⟨a', c', e, hg⟩ := vars_get h
  cases e
  exact hg
theorem right_vars {nm : List UInt8 → Bool} {q : Qn} {k : Nat} (h8 : ¬ 8 < q.free.length) (h0 : k ≠ 0) (h : varsE nm q.free [] = k) : rightF nm q = k := by
  unfold rightF
  rw [if_neg h8, h, if_pos h0]
theorem right_body {nm : List UInt8 → Bool} {q : Qn} (h8 : ¬ 8 < q.free.length) (h : varsE nm q.free [] = 0) : rightF nm q = checkF nm q.body := by
  unfold rightF
  rw [if_neg h8, h]
  rfl
end Go.Proofs.YtbnebkkpmcjmbaaGreatDoor


namespace Go.Proofs.YtbnebkkpmcjmbaaGreatDoor
open Go.RowKit Go.PL Go.Maps

theorem QnV.open {w : World} {P : Nat → Prop} {q : Qn} {v : Value} (h : QnV w P q v) : ∃ (f1 : Option Addr) (f3 : Nat) (op : Int) (a1 : Option Addr) (n1 c1 : Nat) (so n m : Int) (a2 : Option Addr) (n2 c2 : Nat), v = .agg #[.slice f1 q.free.length f3, .int .i64 op, .slice a1 n1 c1, .int .i64 so, .int .i64 n, .int .i64 m, .slice a2 n2 c2] ∧ VarsV w P (.slice f1 q.free.length f3) q.free ∧ NdV w P q.body (.agg #[.int .i64 op, .slice a1 n1 c1, .int .i64 so, .int .i64 n, .int .i64 m, .slice a2 n2 c2]) := by
  obtain ⟨vf, a0, a1, a2, a3, a4, a5, rfl, h1, h2⟩ := h
  obtain ⟨fa, fc, rfl⟩ := h1.len
  obtain ⟨op, x1, x2, x3, so, n, m, y1, y2, y3, hs⟩ := h2.six
  simp only [Value.agg.injEq, Array.mk.injEq, List.cons.injEq, and_true] at hs
  obtain ⟨rfl, rfl, rfl, rfl, rfl, rfl⟩ := hs
  exact ⟨fa, fc, op, x1, x2, x3, so, n, m, y1, y2, y3, rfl, h1, h2⟩

end Go.Proofs.YtbnebkkpmcjmbaaGreatDoor


namespace Go.Proofs.YtbnebkkpmcjmbaaGreatDoor
open Go.RowKit Go.PL Go.Maps
/-- a list that is under way: new since w0, and not frozen -/
structure RowU (w0 : World) (ls : List (List UInt8)) (v : Value) (wr : World) : Prop where
  slp : SlP wr (Nu w0 wr) v ls.length (ls.map sV)
  up : Upto [] w0 wr
theorem Nu.lt {w0 w : World} {b : Nat} (h : Nu w0 w b) : b < w.heap.size := by
  obtain ⟨cs, t, h⟩ := h.2
  exact lt_of_heap h
theorem Nu.ext {w0 w w' : World} {b : Nat} (h : Nu w0 w b) (hu : Upto [] w w') : Nu w0 w' b := ⟨h.1, h.2.stay (hu.block b h.lt (by simp))⟩
theorem RowU.ext {w0 wr wr' : World} {ls : List (List UInt8)} {v : Value} (h : RowU w0 ls v wr) (hu : Upto [] wr wr') : RowU w0 ls v wr' := ⟨(h.slp.ext hu).mono (fun _b hb _ => hb.ext hu), h.up.trans_ext hu⟩
theorem RowU.nil (w0 wr : World) (hu : Upto [] w0 wr) : RowU w0 [] (.slice none 0 0) wr := ⟨SlP.nil, hu⟩
theorem RowU.of {w0 wr w' : World} {ls ls' : List (List UInt8)} {v v' : Value} (h : RowU w0 ls v wr) (h2 : SlP w' (fun b => Nu w0 wr b ∨ Nu wr w' b) v' ls'.length (ls'.map sV)) (hu : Upto [] wr w') : RowU w0 ls' v' w' :=
  ⟨h2.mono (fun _b hb _ => hb.elim (fun h3 => h3.ext hu) (fun h3 => ⟨Nat.le_trans h.up.size h3.1, h3.2⟩)), h.up.trans_ext hu⟩
end Go.Proofs.YtbnebkkpmcjmbaaGreatDoor


namespace Go.PL
open Go.RowKit
section
variable {P : Program} {ops : Array Oper}
/-- where operation i leaves its value -/
def dstAt (ops : Array Oper) (i : Nat) : Option Tmp := (ops[i]?).bind (·.dst)
def putL (ops : Array Oper) (vals : Nat → Value) (l : List Nat) (a : Act) : Act := l.foldl (fun a i => a.put (dstAt ops i) (vals i)) a
/-- own: the blocks of what an operation has left; holds: what is known of it; co: (j, c): j takes over what c has left -/
structure Plan where
  own : Nat → Value → List Nat
  holds : Nat → Value → World → Prop
  co : List (Nat × Nat)
def Plan.takes (pl : Plan) (j : Nat) : Option Nat := pl.co.lookup j
def Plan.gone (pl : Plan) (j : Nat) (vals : Nat → Value) : List Nat := match pl.takes j with | some c => pl.own c (vals c) | none => []
def hopB (ops : Array Oper) (co : List (Nat × Nat)) (sz : Nat) : Bool :=
  (List.range ops.size).all (fun i => match ops[i]? with
    | some o => o.guard.isNone && o.after.all (fun e => !(Region.binds .any e) || decide (e.on < i)) && (match o.dst with | some d => decide (d < sz) | none => true) && (match co.lookup i with | some c => reach ops i c && (List.range ops.size).all (fun k => k == i || co.lookup k != some c) | none => true)
    | none => true) &&
  (List.range ops.size).all (fun i => (List.range ops.size).all fun j => i == j || (match dstAt ops i with | some d => dstAt ops j != some d | none => true))
/-- operation j, in whatever order it comes up -/
def Hop (P : Program) (ops : Array Oper) (W : World) (a0 : Act) (pl : Plan) (j : Nat) : Prop :=
  ∀ oj, ops[j]? = some oj → ∀ (a : Act) (w : World) (vals : Nat → Value),
    (∀ i d, reach ops j i = true → dstAt ops i = some d → a.eval (.tmp d) = vals i) → (∀ t, (∀ i, i < ops.size → dstAt ops i ≠ some t) → a.eval (.tmp t) = a0.eval (.tmp t)) → Upto [] W w →
    (∀ i, reach ops j i = true → (∀ k, k < ops.size → pl.takes k = some i → k = j) → pl.holds i (vals i) w ∧ ∀ b ∈ pl.own i (vals i), W.heap.size ≤ b ∧ b < w.heap.size) →
    opqUpon P (fun v w' => Upto (pl.gone j vals) w w' ∧ pl.holds j v w' ∧ ∀ b ∈ pl.own j v, (b ∈ pl.gone j vals ∨ w.heap.size ≤ b) ∧ b < w'.heap.size) ((execOp a.eval oj).run P w)
structure Inv (ops : Array Oper) (W : World) (a0 : Act) (pl : Plan) (vals : Nat → Value) (l : List Nat) (listed : Array Bool) (a : Act) (w : World) : Prop where
  up : Upto [] W w
  act : a = putL ops vals l a0
  nodup : l.Nodup
  size : listed.size = ops.size
  closed : Closed ops listed
  mem : ∀ i, i ∈ l ↔ (i < ops.size ∧ listed.getD i false = true)
  live : ∀ i ∈ l, (∀ k ∈ l, pl.takes k ≠ some i) → pl.holds i (vals i) w ∧ ∀ b ∈ pl.own i (vals i), W.heap.size ≤ b ∧ b < w.heap.size
  apart : ∀ i ∈ l, ∀ k ∈ l, i ≠ k → (∀ m ∈ l, pl.takes m ≠ some i) → (∀ m ∈ l, pl.takes m ≠ some k) → ∀ b ∈ pl.own i (vals i), b ∉ pl.own k (vals k)
theorem putL_vals {vals vals' : Nat → Value} : ∀ (l : List Nat) (a : Act), (∀ i ∈ l, vals i = vals' i) → putL ops vals l a = putL ops vals' l a
  | [], _, _ => rfl
  | i :: l, a, h => by
    unfold putL
    rw [List.foldl_cons, List.foldl_cons, h i (by simp)]
    exact putL_vals l _ (fun k hk => h k (by simp [hk]))
theorem putL_snoc (vals : Nat → Value) (l : List Nat) (j : Nat) (a : Act) : putL ops vals (l ++ [j]) a = (putL ops vals l a).put (dstAt ops j) (vals j) := by
  unfold putL
  rw [List.foldl_append]
  rfl
theorem put_size (a : Act) (d : Option Tmp) (v : Value) : (a.put d v).tmps.size = a.tmps.size := by
  cases d <;> simp [Act.put]
theorem eval_put_self {a : Act} {d : Tmp} {v : Value} (h : d < a.tmps.size) : (a.put (some d) v).eval (.tmp d) = v := by
  simp [Act.eval, Act.put, h]
theorem putL_other (vals : Nat → Value) (t : Tmp) : ∀ (l : List Nat) (a : Act), (∀ i ∈ l, dstAt ops i ≠ some t) → (putL ops vals l a).eval (.tmp t) = a.eval (.tmp t)
  | [], _, _ => rfl
  | i :: l, a, h => by
    show (putL ops vals l (a.put _ _)).eval _ = _
    rw [putL_other vals t l _ (fun k hk => h k (by simp [hk]))]
    exact Act.eval_put (fun d hd e => h i (by simp) (by rw [hd]; cases e; rfl))
theorem putL_at (vals : Nat → Value) {sz : Nat} (hd : ∀ i j, i < ops.size → j < ops.size → i ≠ j → ∀ d, dstAt ops i = some d → dstAt ops j ≠ some d) {i : Nat} {d : Tmp} (hid : dstAt ops i = some d) (hs : d < sz) :
    ∀ (l : List Nat) (a : Act), a.tmps.size = sz → (∀ k ∈ l, k < ops.size) → l.Nodup → i ∈ l → (putL ops vals l a).eval (.tmp d) = vals i
  | [], _, _, _, _, h => by cases h
  | k :: l, a, hz, hk, hn, h => by
    show (putL ops vals l (a.put _ _)).eval _ = _
    by_cases hki : k = i
    · subst hki
      rw [putL_other vals d l _ (fun m hm => hd k m (hk k (by simp)) (hk m (by simp [hm])) (fun e => (List.nodup_cons.1 hn).1 (e ▸ hm)) d hid), hid]
      exact eval_put_self (by rw [hz]; exact hs)
    · exact putL_at vals hd hid hs l _ (by rw [put_size, hz]) (fun m hm => hk m (by simp [hm])) (List.nodup_cons.1 hn).2 ((List.mem_cons.1 h).resolve_left (Ne.symm hki))
theorem putL_perm (vals : Nat → Value) (hd : ∀ i j, i < ops.size → j < ops.size → i ≠ j → ∀ d, dstAt ops i = some d → dstAt ops j ≠ some d) {l l' : List Nat} (hp : l.Perm l') (hk : ∀ k ∈ l, k < ops.size) (a : Act) : putL ops vals l a = putL ops vals l' a := by
  unfold putL
  refine List.Perm.foldl_eq' hp (fun x hx y hy z => ?_) a
  by_cases hxy : x = y
  · rw [hxy]
  · exact (Act.put_comm z _ _ (fun d h1 => hd x y (hk x hx) (hk y hy) hxy d h1))

theorem Inv.step {W w w' : World} {a0 a : Act} {pl : Plan} {vals : Nat → Value} {l : List Nat} {listed : Array Bool} {j : Nat} {oj : Oper} {v : Value} (h : Inv ops W a0 pl vals l listed a w) (hj : ops[j]? = some oj) (hun : listed.getD j false = false) (hall : ∀ e ∈ oj.after, Region.binds .any e = true → listed.getD e.on false = true)
    (hst : ∀ i v x x' S, pl.holds i v x → Upto S x x' → (∀ b ∈ pl.own i v, b ∉ S) → pl.holds i v x') (htk : ∀ c, pl.takes j = some c → c ∈ l ∧ ∀ k, k < ops.size → pl.takes k = some c → k = j)
    (h1 : Upto (pl.gone j vals) w w') (h2 : pl.holds j v w') (h3 : ∀ b ∈ pl.own j v, (b ∈ pl.gone j vals ∨ w.heap.size ≤ b) ∧ b < w'.heap.size) :
    Inv ops W a0 pl (fun i => if i = j then v else vals i) (l ++ [j]) (listed.setIfInBounds j true) (a.put oj.dst v) w' := by
  have hjlt : j < ops.size := (Array.getElem?_eq_some_iff.1 hj).1
  have hjl : j ∉ l := fun hm => by
    have := ((h.mem j).1 hm).2
    rw [hun] at this
    cases this
  have hjs : j < listed.size := by rw [h.size]; exact hjlt
  have hne : ∀ i ∈ l, i ≠ j := fun i hi e => hjl (e ▸ hi)
  have hv : ∀ i ∈ l, (if i = j then v else vals i) = vals i := fun i hi => if_neg (hne i hi)
  have hdst : dstAt ops j = oj.dst := by unfold dstAt; rw [hj]; rfl
  -- what j takes over: its blocks
  have hgone : ∀ b ∈ pl.gone j vals, ∃ c, pl.takes j = some c ∧ b ∈ pl.own c (vals c) ∧ c ∈ l ∧ (∀ k ∈ l, pl.takes k ≠ some c) := fun b hb => by
    unfold Plan.gone at hb
    split at hb
    · rename_i c hc
      obtain ⟨k1, k2⟩ := htk c hc
      exact ⟨c, hc, hb, k1, fun k hk he => hjl (by rw [← k2 k ((h.mem k).1 hk).1 he]; exact hk)⟩
    · cases hb
  have hgW : ∀ b ∈ pl.gone j vals, W.heap.size ≤ b ∧ b < w.heap.size := fun b hb => by
    obtain ⟨c, -, k1, k2, k3⟩ := hgone b hb
    exact (h.live c k2 k3).2 b k1
  have hold : ∀ i ∈ l, (∀ k ∈ l ++ [j], pl.takes k ≠ some i) → pl.holds i (vals i) w ∧ (∀ b ∈ pl.own i (vals i), W.heap.size ≤ b ∧ b < w.heap.size) ∧ ∀ b ∈ pl.own i (vals i), b ∉ pl.gone j vals := fun i hi hk => by
    have h4 := h.live i hi (fun k hk' => hk k (by simp [hk']))
    refine ⟨h4.1, h4.2, fun b hb hg => ?_⟩
    obtain ⟨c, k0, k1, k2, k3⟩ := hgone b hg
    have hic : i ≠ c := fun e => hk j (by simp) (by rw [e]; exact k0)
    exact h.apart i hi c k2 hic (fun m hm => hk m (by simp [hm])) k3 b hb k1
  refine ⟨h.up.trans h1 (fun b hb => Or.inr (hgW b hb).1), ?_, ?_, by rw [Array.size_setIfInBounds]; exact h.size, ?_, ?_, ?_, ?_⟩
  · rw [putL_snoc, putL_vals l a0 hv, ← h.act, hdst]
    simp
  · exact List.nodup_append.2 ⟨h.nodup, by simp, fun x hx y hy => by simp at hy; rw [hy]; exact hne x hx⟩
  · intro i o ho hl e he hb
    rw [getD_set hjs] at hl ⊢
    rw [Bool.or_eq_true] at hl ⊢
    rcases hl with hl | hl
    · exact Or.inl (h.closed i o ho hl e he hb)
    · simp at hl
      subst hl
      rw [hj] at ho
      cases ho
      exact Or.inl (hall e he hb)
  · intro i
    rw [List.mem_append, h.mem, getD_set hjs, Bool.or_eq_true, List.mem_singleton, decide_eq_true_eq]
    constructor
    · rintro (⟨k1, k2⟩ | rfl)
      · exact ⟨k1, Or.inl k2⟩
      · exact ⟨hjlt, Or.inr rfl⟩
    · rintro ⟨k1, k2 | k2⟩
      · exact Or.inl ⟨k1, k2⟩
      · exact Or.inr k2
  · intro i hi hk
    rcases List.mem_append.1 hi with hi | hi
    · show pl.holds i (if i = j then v else vals i) w' ∧ ∀ b ∈ pl.own i (if i = j then v else vals i), _
      rw [hv i hi]
      obtain ⟨k1, k2, k3⟩ := hold i hi hk
      exact ⟨hst _ _ _ _ _ k1 h1 k3, fun b hb => ⟨(k2 b hb).1, Nat.lt_of_lt_of_le (k2 b hb).2 h1.size⟩⟩
    · obtain rfl : i = j := by simpa using hi
      show pl.holds i (if i = i then v else vals i) w' ∧ ∀ b ∈ pl.own i (if i = i then v else vals i), _
      rw [if_pos rfl]
      refine ⟨h2, fun b hb => ⟨?_, (h3 b hb).2⟩⟩
      rcases (h3 b hb).1 with h4 | h4
      · exact (hgW b h4).1
      · exact Nat.le_trans h.up.size h4
  · have key : ∀ k ∈ l, (∀ m ∈ l ++ [j], pl.takes m ≠ some k) → ∀ b ∈ pl.own j v, b ∉ pl.own k (vals k) := fun k hk hm b hb hbk => by
      obtain ⟨k1, k2, k3⟩ := hold k hk hm
      rcases (h3 b hb).1 with h4 | h4
      · exact k3 b hbk h4
      · have := (k2 b hbk).2
        omega
    intro i hi k hk hik hmi hmk b hb
    show b ∉ pl.own k (if k = j then v else vals k)
    rcases List.mem_append.1 hi with hi | hi <;> rcases List.mem_append.1 hk with hk | hk
    · have hb : b ∈ pl.own i (if i = j then v else vals i) := hb
      rw [hv k hk]
      rw [hv i hi] at hb
      exact h.apart i hi k hk hik (fun m hm => hmi m (by simp [hm])) (fun m hm => hmk m (by simp [hm])) b hb
    · have hkj : k = j := by simpa using hk
      have hb : b ∈ pl.own i (if i = j then v else vals i) := hb
      rw [hv i hi] at hb
      rw [if_pos hkj, hkj]
      exact fun hbk => key i hi hmi b hbk hb
    · have hij : i = j := by simpa using hi
      have hb : b ∈ pl.own i (if i = j then v else vals i) := hb
      rw [if_pos hij, hij] at hb
      rw [hv k hk]
      exact key k hk hmk b hb
    · obtain rfl : i = j := by simpa using hi
      obtain rfl : k = i := by simpa using hk
      exact absurd rfl hik

theorem sub_len : ∀ (a b : List Nat), a.Nodup → (∀ x ∈ a, x ∈ b) → a.length ≤ b.length
  | [], _, _, _ => Nat.zero_le _
  | x :: a, b, hn, hs => by
    have hx := hs x (by simp)
    have := sub_len a (b.erase x) (List.nodup_cons.1 hn).2 (fun y hy => (List.mem_erase_of_ne (fun e : y = x => (List.nodup_cons.1 hn).1 (by rw [← e]; exact hy))).2 (hs y (by simp [hy])))
    rw [List.length_erase_of_mem hx] at this
    have := List.length_pos_of_mem hx
    rw [List.length_cons]
    omega
theorem inv_any {Q : Exit → Act → World → Prop} {W : World} {a0 : Act} {pl : Plan} {m fuelT : Nat} (hB : hopB ops pl.co a0.tmps.size = true) (hm : m ≤ ops.size) (hlast : ∀ k, m ≤ k → k < ops.size → ∀ i, i < m → reach ops k i = true)
    (hst : ∀ i v x x' S, pl.holds i v x → Upto S x x' → (∀ b ∈ pl.own i v, b ∉ S) → pl.holds i v x') (hop : ∀ j, j < m → Hop P ops W a0 pl j)
    (hend : ∀ vals w, Upto [] W w → (∀ i, i < m → (∀ k, k < m → pl.takes k ≠ some i) → pl.holds i (vals i) w ∧ ∀ b ∈ pl.own i (vals i), W.heap.size ≤ b ∧ b < w.heap.size) → wpAny P .any ops Q fuelT ((List.range m).foldl (fun x i => x.setIfInBounds i true) (Array.replicate ops.size false)) (putL ops vals (List.range m) a0) w) :
    ∀ (n : Nat) (vals : Nat → Value) (l : List Nat) (listed : Array Bool) (a : Act) (w : World), l.length + n = m → (∀ i ∈ l, i < m) → Inv ops W a0 pl vals l listed a w → wpAny P .any ops Q (n + fuelT) listed a w := by
  simp only [hopB, Bool.and_eq_true, List.all_eq_true, List.mem_range] at hB
  obtain ⟨hB1, hB2⟩ := hB
  have hd : ∀ i j, i < ops.size → j < ops.size → i ≠ j → ∀ d, dstAt ops i = some d → dstAt ops j ≠ some d := fun i j hi hj hij d h1 => by
    have := hB2 i hi j hj
    rw [h1] at this
    simpa [hij] using this
  have hO : ∀ (i : Nat) (o : Oper), ops[i]? = some o → o.guard = none ∧ (∀ e ∈ o.after, Region.binds .any e = true → e.on < i) ∧ (∀ d, o.dst = some d → d < a0.tmps.size) ∧ ∀ c, pl.takes i = some c → reach ops i c = true ∧ ∀ k, k < ops.size → pl.takes k = some c → k = i := fun i o ho => by
    have h1 := hB1 i (Array.getElem?_eq_some_iff.1 ho).1
    rw [ho] at h1
    simp only [Bool.and_eq_true] at h1
    obtain ⟨⟨⟨h2, h3⟩, h4⟩, h5⟩ := h1
    refine ⟨by simpa using h2, fun e he hb => ?_, fun d hdd => ?_, fun c hc => ?_⟩
    · have := Array.all_eq_true_iff_forall_mem.1 h3 e he
      rw [hb] at this
      simpa using this
    · rw [hdd] at h4
      simpa using h4
    · unfold Plan.takes at hc
      rw [hc] at h5
      simp only [Bool.and_eq_true, List.all_eq_true, List.mem_range] at h5
      refine ⟨h5.1, fun k hk he => ?_⟩
      have := h5.2 k hk
      unfold Plan.takes at he
      rw [he] at this
      simpa using this
  intro n
  induction n with
  | zero =>
    intro vals l listed a w hn hlm h
    have hp : l.Perm (List.range m) := (List.perm_ext_iff_of_nodup h.nodup List.nodup_range).2 (fun i => by
      rw [List.mem_range]
      refine ⟨hlm i, fun hi => Classical.byContradiction fun hn2 => ?_⟩
      have := sub_len (i :: l) (List.range m) (List.nodup_cons.2 ⟨hn2, h.nodup⟩) (fun x hx => by
        rw [List.mem_range]
        rcases List.mem_cons.1 hx with rfl | hx
        · exact hi
        · exact hlm x hx)
      rw [List.length_range, List.length_cons] at this
      omega)
    have hL : listed = (List.range m).foldl (fun x i => x.setIfInBounds i true) (Array.replicate ops.size false) := by
      have hsz : ((List.range m).foldl (fun x i => x.setIfInBounds i true) (Array.replicate ops.size false)).size = ops.size := by rw [foldl_size]; simp
      refine Array.ext (by rw [hsz, h.size]) (fun i hi1 hi2 => ?_)
      have h1 := foldl_getD (List.range m) (Array.replicate ops.size false) i (fun k hk => by have := List.mem_range.1 hk; simp; omega)
      have h2 := h.mem i
      rw [hp.mem_iff, List.mem_range] at h2
      rw [h.size] at hi1
      have e1 : listed[i] = listed.getD i false := by simp [Array.getD, h.size, hi1]
      have e2 : ((List.range m).foldl (fun x i => x.setIfInBounds i true) (Array.replicate ops.size false))[i] = ((List.range m).foldl (fun x i => x.setIfInBounds i true) (Array.replicate ops.size false)).getD i false := by simp [Array.getD, hsz, hi1]
      rw [e1, e2, h1]
      have e3 : (Array.replicate ops.size false).getD i false = false := by simp [Array.getD]
      rw [e3, Bool.false_or, Bool.eq_iff_iff, List.contains_iff_mem, List.mem_range]
      exact ⟨fun k => h2.2 ⟨hi1, k⟩, fun k => (h2.1 k).2⟩
    rw [Nat.zero_add, h.act, putL_perm vals hd hp (fun k hk => Nat.lt_of_lt_of_le (hlm k hk) hm), hL]
    exact hend vals w h.up (fun i hi hk => (h.live i (hp.mem_iff.2 (List.mem_range.2 hi)) (fun k hkl => hk k (hlm k hkl))))
  | succ n ih =>
    intro vals l listed a w hn hlm h
    rw [Nat.succ_add]
    have hlt : ∀ k ∈ l, k < ops.size := fun k hk => ((h.mem k).1 hk).1
    -- one of the first m has not come up; the least such is ready
    have hsome : ∃ i, i < m ∧ i ∉ l := by
      refine Classical.byContradiction fun hno => ?_
      have hsub : List.range m ⊆ l := fun k hk => Classical.byContradiction fun hkl => hno ⟨k, List.mem_range.1 hk, hkl⟩
      have := sub_len _ _ List.nodup_range hsub
      rw [List.length_range] at this
      omega
    have hready : ∀ i, i < m → i ∉ l → Region.ready .any ops listed ≠ [] := fun i => by
      induction i using Nat.strongRecOn with
      | _ i ihi =>
        intro hi hn hr
        have hio : i < ops.size := by omega
        have hun : listed.getD i false = false := by
          cases hx : listed.getD i false with
          | false => rfl
          | true => exact absurd ((h.mem i).2 ⟨hio, hx⟩) hn
        have : i ∈ Region.ready .any ops listed := by
          refine mem_ready.2 ⟨(listed_lt (by rw [h.size]; exact hio)).2 (by rw [hun]; simp), ops[i], Array.getElem?_eq_getElem hio, fun e he hb => ?_⟩
          have hlt := (hO i _ (Array.getElem?_eq_getElem hio)).2.1 e he hb
          refine Classical.byContradiction fun hne => ?_
          exact ihi e.on hlt (by omega) (fun hm => hne ((h.mem e.on).1 hm).2) hr
        rw [hr] at this
        cases this
    refine ⟨fun hr => by obtain ⟨i, hi, hil⟩ := hsome; exact absurd hr (hready i hi hil), fun j hj => ?_⟩
    obtain ⟨hjun, oj, hoj, hall⟩ := mem_ready.1 hj
    have hjlt : j < ops.size := (Array.getElem?_eq_some_iff.1 hoj).1
    have hjf : listed.getD j false = false := by
      have := (listed_lt (listed := listed) (by rw [h.size]; exact hjlt)).1 hjun
      simpa using this
    obtain ⟨hg, hb, hdz, htk⟩ := hO j oj hoj
    have hreach : ∀ i, reach ops j i = true → i ∈ l := fun i hr => by
      have h1 := reach_listed h.closed (j + 1) j oj (by omega) hoj hall hr
      refine (h.mem i).2 ⟨?_, h1⟩
      refine Nat.lt_of_not_le fun hle => ?_
      rw [← h.size] at hle
      simp [Array.getD, Nat.not_lt.2 hle] at h1
    have hjm : j < m := Nat.lt_of_not_le fun hle => by
      obtain ⟨i, hi, hil⟩ := hsome
      exact hil (hreach i (hlast j hle hjlt i hi))
    have hjl : j ∉ l := fun hm => by
      have := ((h.mem j).1 hm).2
      rw [hjf] at this
      cases this
    have hh := hop j hjm oj hoj a w vals (fun i d hr hdd => by
        rw [h.act]
        have hil := hreach i hr
        have hds : d < a0.tmps.size := by
          have hi := Array.getElem?_eq_getElem (hlt i hil)
          refine (hO i _ hi).2.2.1 d ?_
          unfold dstAt at hdd
          rw [hi] at hdd
          exact hdd
        exact putL_at vals hd hdd hds l a0 rfl hlt h.nodup hil) (fun t ht => by
        rw [h.act]
        exact putL_other vals t l a0 (fun i hi => ht i (hlt i hi))) h.up (fun i hr hk => h.live i (hreach i hr) (fun k hkl he => hjl (by rw [← hk k (hlt k hkl) he]; exact hkl)))
    refine wpOp_of_out hoj ?_
    have hw : Region.wanted oj (yielded ops a.tmps) = true := by unfold Region.wanted; rw [hg]
    unfold OutC
    rw [if_pos hw]
    refine opqUpon_mono (fun v w' hv => ?_) hh
    exact ih _ _ _ _ _ (by rw [List.length_append, List.length_singleton]; omega) (fun i hi => by rcases List.mem_append.1 hi with hi | hi; exact hlm i hi; simp at hi; omega) (h.step hoj hjf hall hst (fun c hc => ⟨hreach c (htk c hc).1, (htk c hc).2⟩) hv.1 hv.2.1 hv.2.2)

def hopsB (ops : Array Oper) (co : List (Nat × Nat)) (sz m : Nat) : Bool :=
  hopB ops co sz && decide (m ≤ ops.size) && ((List.range ops.size).drop m).all (fun k => (List.range m).all fun i => reach ops k i) &&
  tailB ops ((List.range m).foldl (fun x i => x.setIfInBounds i true) (Array.replicate ops.size false)) ((List.range ops.size).drop m)
/-- **A REGION THAT DRAWS ITS ORDER**, by what each operation leaves; the operations from m on stand behind all others -/
theorem wp_region_hop {id : Nat} {Q : Exit → Act → World → Prop} {a0 : Act} {w : World} {l : List Oper} (pl : Plan) (m : Nat) (aF : (Nat → Value) → Act) (hm : P.follows .mixedOrders = true) (hB : hopsB l.toArray pl.co a0.tmps.size m = true) (hF : ∀ vals, putL l.toArray vals (List.range m) a0 = aF vals)
    (hst : ∀ i v x x' S, pl.holds i v x → Upto S x x' → (∀ b ∈ pl.own i v, b ∉ S) → pl.holds i v x') (hop : ∀ j, j < m → Hop P l.toArray w a0 pl j)
    (hend : ∀ vals w', Upto [] w w' → (∀ i, i < m → (∀ k, k < m → pl.takes k ≠ some i) → pl.holds i (vals i) w' ∧ ∀ b ∈ pl.own i (vals i), w.heap.size ≤ b ∧ b < w'.heap.size) → wpList P l.toArray Q (l.drop m) (aF vals) w') : (Code.region id l.toArray true).wp P Q a0 w := by
  simp only [hopsB, Bool.and_eq_true, decide_eq_true_eq] at hB
  obtain ⟨⟨⟨h1, h2⟩, h3⟩, h4⟩ := hB
  refine wp_region_any hm ?_
  have hlast : ∀ k, m ≤ k → k < l.toArray.size → ∀ i, i < m → reach l.toArray k i = true := fun k hk hks i hi => by
    rw [List.all_eq_true] at h3
    have := h3 k (List.mem_drop_iff_getElem.2 ⟨k - m, by simp at hks ⊢; omega, by simp; omega⟩)
    rw [List.all_eq_true] at this
    exact this i (List.mem_range.2 hi)
  have hmap : ((List.range l.toArray.size).drop m).map (fun i => l.toArray[i]?) = (l.drop m).map some := by
    apply List.ext_getElem?
    intro i
    by_cases hi : m + i < l.length
    · simp [List.getElem?_drop, hi]
    · simp [List.getElem?_drop, hi]
  have main := inv_any (W := w) (a0 := a0) (pl := pl) (Q := Q) (fuelT := ((List.range l.toArray.size).drop m).length) h1 h2 hlast hst hop (fun vals w' hu hf => wpAny_tail _ _ _ _ h4 (by rw [wpOps_list _ _ hmap]; rw [hF]; exact hend vals w' hu hf)) m (fun _ => undef) [] (Array.replicate l.toArray.size false) a0 { w with drawn := w.drawn + 1 } (by simp) (by simp) ⟨(Upto.refl [] w).drew, rfl, by simp, by simp, ?_, ?_, by simp, by simp⟩
  · have he : m + ((List.range l.toArray.size).drop m).length = l.toArray.size := by
      rw [List.length_drop, List.length_range]
      omega
    rw [he] at main
    exact main
  · intro i o _ hl
    simp [Array.getD] at hl
  · intro i
    simp [Array.getD]
end
end Go.PL


namespace Go.PL
open Go.RowKit
theorem all_lt_succ {p : Nat → Prop} {m : Nat} (h : ∀ j, j < m → p j) (h2 : p m) : ∀ j, j < m + 1 → p j := fun j hj => by
  rcases Nat.lt_or_ge j m with h3 | h3
  · exact h j h3
  · have : j = m := by omega
    rw [this]; exact h2
/-- fix: a value known ahead; one: a built slice of one element; row: a row of one's own -/
inductive Knd where
  | fix (u : Value)
  | one (e : TypeId) (x : Value)
  | row (e : TypeId) (n : Nat) (xs : List Value)
def Knd.holds : Knd → Value → World → Prop
  | .fix u, v, _ => v = u
  | .one e x, v, w => ∃ b, v = .slice (some ⟨b, 0, none⟩) 1 1 ∧ w.heap[b]? = some (.cells #[x] e (0, 0))
  | .row e n xs, v, w => w.ownsRow 0 e 1 v n xs
def Knd.own : Knd → Value → List Nat
  | .fix _, _ => []
  | .one _ _, v => v.ownBlock.toList
  | .row _ _ _, v => v.ownBlock.toList
def plan (ks : List Knd) (co : List (Nat × Nat)) : Plan where
  own := fun i v => match ks[i]? with | some k => k.own v | none => []
  holds := fun i v w => match ks[i]? with | some k => k.holds v w | none => True
  co := co
theorem Knd.stay {k : Knd} {v : Value} {w w' : World} {S : List Nat} (h : k.holds v w) (hu : Upto S w w') (hn : ∀ b ∈ k.own v, b ∉ S) : k.holds v w' := by
  cases k with
  | fix u => exact h
  | one e x =>
    obtain ⟨b, rfl, hb⟩ := h
    exact ⟨b, rfl, hu.at hb (hn b (by simp [Knd.own, Value.ownBlock]))⟩
  | row e n xs => exact ownsRow_upto h hu (fun g hg => hn g (by simp [Knd.own, hg]))
theorem plan_stay (ks : List Knd) (co : List (Nat × Nat)) : ∀ i v x x' S, (plan ks co).holds i v x → Upto S x x' → (∀ b ∈ (plan ks co).own i v, b ∉ S) → (plan ks co).holds i v x' := by
  intro i v x x' S h hu hn
  simp only [plan] at h hn ⊢
  cases hk : ks[i]? with
  | none => simp only
  | some k =>
    simp only [hk] at h hn ⊢
    exact Knd.stay h hu hn
theorem Knd.old {k : Knd} {v : Value} {w : World} (h : k.holds v w) : ∀ b ∈ k.own v, b < w.heap.size := by
  cases k with
  | fix u => intro b hb; cases hb
  | one e x =>
    obtain ⟨b, rfl, hb⟩ := h
    intro c hc
    simp [Knd.own, Value.ownBlock] at hc
    subst hc
    exact lt_of_heap hb
  | row e n xs =>
    intro b hb
    obtain ⟨cur, hh⟩ := ownsRow_block h (Option.mem_toList.1 hb)
    exact lt_of_heap hh
section
variable {P : Program} {ol : List Oper} {W : World} {a0 : Act} {ks : List Knd} {co : List (Nat × Nat)} {j : Nat} {o : Oper}
/-- what an operation may lean on: earlier values -/
structure Lds (ops : Array Oper) (W : World) (a0 : Act) (ks : List Knd) (co : List (Nat × Nat)) (j : Nat) (a : Act) (w : World) (vals : Nat → Value) : Prop where
  ev : ∀ i d, reach ops j i = true → dstAt ops i = some d → a.eval (.tmp d) = vals i
  ev0 : ∀ t, (∀ i, i < ops.size → dstAt ops i ≠ some t) → a.eval (.tmp t) = a0.eval (.tmp t)
  up : Upto [] W w
  old : ∀ i, reach ops j i = true → (∀ k, k < ops.size → co.lookup k = some i → k = j) → (plan ks co).holds i (vals i) w ∧ ∀ b ∈ (plan ks co).own i (vals i), W.heap.size ≤ b ∧ b < w.heap.size
/-- an operation whose value is known ahead -/
theorem hop_fix (u : Value) (hk : ks[j]? = some (.fix u)) (hc : co.lookup j = none) (hi : opAt ol j = some o) (h : ∀ a w vals, Lds ol.toArray W a0 ks co j a w vals → (execOp a.eval o).run P w = .ok (.value u) w) : Hop P ol.toArray W a0 (plan ks co) j := by
  intro oj hoj a w vals h1 h2 h3 h4
  rw [opAt_eq] at hi
  obtain rfl := Option.some.inj (hi.symm.trans hoj)
  rw [h a w vals ⟨h1, h2, h3, h4⟩]
  have hg : (plan ks co).gone j vals = [] := by unfold Plan.gone Plan.takes; simp only [plan, hc]
  rw [hg]
  refine ⟨Upto.refl _ _, ?_, ?_⟩
  · simp only [plan, hk]; rfl
  · simp only [plan, hk]; intro b hb; cases hb
/-- a slice that is built, of one element or none -/
theorem hop_new (k : Knd) (hk : ks[j]? = some k) (hc : co.lookup j = none) (obj : Obj) (mk : Nat → Value) (hi : opAt ol j = some o) (h : ∀ a w vals, Lds ol.toArray W a0 ks co j a w vals → (execOp a.eval o).run P w = .ok (.value (mk w.heap.size)) (w.alloc obj))
    (hh : ∀ w : World, k.holds (mk w.heap.size) (w.alloc obj)) (ho : ∀ b, k.own (mk b) = [b]) : Hop P ol.toArray W a0 (plan ks co) j := by
  intro oj hoj a w vals h1 h2 h3 h4
  rw [opAt_eq] at hi
  obtain rfl := Option.some.inj (hi.symm.trans hoj)
  rw [h a w vals ⟨h1, h2, h3, h4⟩]
  have hg : (plan ks co).gone j vals = [] := by unfold Plan.gone Plan.takes; simp only [plan, hc]
  rw [hg]
  refine ⟨(Upto.refl _ _).alloc _, ?_, ?_⟩
  · simp only [plan, hk]; exact hh w
  · simp only [plan, hk, ho]
    intro b hb
    simp at hb
    subst hb
    exact ⟨Or.inr (Nat.le_refl _), by show _ < (w.heap.push obj).size; simp⟩
/-- append onto a row that an earlier operation has left -/
theorem hop_app (c : Nat) (e : TypeId) (n m N : Nat) (xs news : List Value) (hk : ks[j]? = some (.row e N (xs ++ news))) (hkc : ks[c]? = some (.row e n xs)) (hc : co.lookup j = some c) (hr : reach ol.toArray j c = true) (hcu : (List.range ol.length).all (fun k => k == j || co.lookup k != some c) = true) (hN : N = n + m) (hm : news.length = m)
    (s x : Operand) (t : TypeId) (i : TypeInfo) (z : Value) (bytes : Nat) (ht : P.underlying t = some (.slice e)) (hi : P.info? e = some i) (hz : i.zero = some z) (hsize : i.size = 1) (hby : i.bytes = bytes) (hzs : z.cells.size = 1)
    (d : Tmp) (hd : dstAt ol.toArray c = some d) (hs : s = .tmp d) (h1 : ∀ u ∈ news, u.oneCell' = true) (h63 : n + m ≤ maxLen) (hbytes : (n + m) * bytes ≤ 140737488355328)
    (hj : opAt ol j = some o) (ho : o.op = .call { callee := .builtin .append, args := #[s, x], argTypes := #[t, t] })
    (hx : ∀ a w vals, Lds ol.toArray W a0 ks co j a w vals → SlC w (a.eval x) news) : Hop P ol.toArray W a0 (plan ks co) j := by
  intro oj hoj a w vals k1 k2 k3 k4
  have hL : Lds ol.toArray W a0 ks co j a w vals := ⟨k1, k2, k3, k4⟩
  have hxx := hx a w vals hL
  have hg : (plan ks co).gone j vals = (vals c).ownBlock.toList := by unfold Plan.gone Plan.takes; simp only [plan, hc, hkc]; rfl
  have hrow := (k4 c hr (fun k hk he => by
    rw [List.all_eq_true] at hcu
    have := hcu k (List.mem_range.2 (by simpa using hk))
    simp only [plan, Plan.takes] at he
    rw [he] at this
    simpa using this)).1
  simp only [plan, hkc, Knd.holds] at hrow
  have hsv : a.eval s = vals c := by rw [hs]; exact k1 c d hr hd
  rw [opAt_eq] at hj
  obtain rfl := Option.some.inj (hj.symm.trans hoj)
  have hoo := ho
  subst hN hm
  rw [hg]
  have fin : ∀ (v : Value) (w' : World), w'.ownsRow 0 e 1 v (n + news.length) (xs ++ news) → Upto (vals c).ownBlock.toList w w' → (∀ g, v.ownBlock = some g → (vals c).ownBlock = some g ∨ w.heap.size ≤ g) → Upto (vals c).ownBlock.toList w w' ∧ (plan ks co).holds j v w' ∧ ∀ b ∈ (plan ks co).own j v, (b ∈ (vals c).ownBlock.toList ∨ w.heap.size ≤ b) ∧ b < w'.heap.size := fun v w' q1 q2 q3 => by
    refine ⟨q2, by simp only [plan, hk]; exact q1, ?_⟩
    simp only [plan, hk]
    intro b hb
    refine ⟨(q3 b (Option.mem_toList.1 hb)).imp (fun e => Option.mem_toList.2 e) id, ?_⟩
    exact Knd.old (k := .row e (n + news.length) (xs ++ news)) q1 b hb
  rcases hxx with ⟨hn0, ad, cc, hxe⟩ | ⟨g, off, cc, hxe, hcell⟩
  · subst hn0
    have hr := run_append_zero (P := P) w t o.type e i 1 ht hi (vals c) n xs hrow ad cc
    simp only [execOp, hoo, resolve, invoke, builtin, Sem.run_bind, Sem.run_pure, Result.andThen_ok, List.map_toArray, List.map_cons, List.map_nil, hsv, hxe, hr]
    exact fin _ w (by simpa using hrow) (Upto.refl _ _) (fun g hg => Or.inl hg)
  · have hnews : ∀ j u, news[j]? = some u → w.cell? ((⟨g, off, none⟩ : Addr).add j) = some u := fun j u hj => by simpa [Addr.add_lit] using hcell j u hj
    obtain ⟨v', w', hr, h2, h3, _⟩ := run_append_own (P := P) w 0 t o.type e i z 1 bytes ht hi hz hsize hby hzs (by decide) (vals c) n xs hrow ⟨g, off, none⟩ news.length cc news (by simp) hnews h1 h63 hbytes (Nat.zero_le _)
    have h4 := append_where w t o.type e i z 1 bytes ht hi hz hsize hby (vals c) n xs hrow ⟨g, off, none⟩ news.length cc news (by simp) hnews h1 h63 hbytes hr
    simp only [execOp, hoo, resolve, invoke, builtin, Sem.run_bind, Sem.run_pure, Result.andThen_ok, List.map_toArray, List.map_cons, List.map_nil, hsv, hxe, hr]
    exact fin v' w' h2 ⟨h3.os, h3.tape, h3.output, h3.size, fun k hk hn => h3.block k hk (fun e => hn (by rw [← e]; simp))⟩ h4
end
end Go.PL


namespace Go.Proofs.YtbnebkkpmcjmbaaGreatDoor
open Go.RowKit Go.PL Go.Maps
theorem info3' : ∃ i, Tryz.prog.info? 3 = some i ∧ i.zero = some (.int .i64 0) ∧ i.size = 1 ∧ i.bytes = 8 := by
  have h : (Tryz.prog.info? 3).map (fun i => (i.zero, i.size, i.bytes)) = some (some (.int .i64 0), 1, 8) := by kernel_rfl
  cases hi : Tryz.prog.info? 3 with
  | none => rw [hi] at h; cases h
  | some i =>
    rw [hi] at h
    simp only [Option.map_some, Option.some.injEq, Prod.mk.injEq] at h
    exact ⟨i, rfl, h.1, h.2.1, h.2.2⟩
theorem SlP.slc' {w : World} {P : Nat → Prop} {a : Option Addr} {c n : Nat} {xs : List Value} (h : SlP w P (.slice a n c) n xs) (hl : xs.length = n) : SlC w (.slice a n c) xs := by
  subst hl
  exact h.slc

def bindKs (B n : Nat) (a1 a2 a3 : Option Addr) (c1 c2 c3 : Nat) (fs ts ss : List Value) (X Y Z : Value) : List Knd := [.row 9 0 [], .fix (.pointer (some ⟨B, 0, none⟩)), .fix (.slice a1 n c1), .row 9 n fs, .fix X, .one 9 X, .row 9 (n + 1) (fs ++ [X]), .row 9 0 [], .fix (.pointer (some ⟨B, 1, none⟩)), .fix (.slice a2 n c2), .row 9 n ts, .fix Y, .one 9 Y, .row 9 (n + 1) (ts ++ [Y]), .row 3 0 [], .fix (.pointer (some ⟨B, 2, none⟩)), .fix (.slice a3 n c3), .row 3 n ss, .fix Z, .one 3 Z, .row 3 (n + 1) (ss ++ [Z])]

set_option maxRecDepth 100000 in
set_option maxHeartbeats 6400000 in
theorem bind_calls (fs ts ss : List Value) (x y : List UInt8) (z : Int) (a1 a2 a3 : Option Addr) (c1 c2 c3 n : Nat) (w : World) (P : Nat → Prop) (hn : n ≤ 8000) (hfl : fs.length = n) (htl : ts.length = n) (hsl : ss.length = n)
    (hfo : ∀ u ∈ fs, u.oneCell' = true) (hto : ∀ u ∈ ts, u.oneCell' = true) (hso : ∀ u ∈ ss, u.oneCell' = true)
    (h1 : SlP w P (.slice a1 n c1) n fs) (h2 : SlP w P (.slice a2 n c2) n ts) (h3 : SlP w P (.slice a3 n c3) n ss) :
    Calls Tryz.prog 87 #[.agg #[.slice a1 n c1, .slice a2 n c2, .slice a3 n c3], .string ⟨x.toArray⟩, .string ⟨y.toArray⟩, .int .i64 z] w fun e w' => ∃ b1 d1 b2 d2 b3 d3, e = .returned (.agg #[.slice b1 (n + 1) d1, .slice b2 (n + 1) d2, .slice b3 (n + 1) d3]) ∧
      SlP w' (New w) (.slice b1 (n + 1) d1) (n + 1) (fs ++ [sV x]) ∧ SlP w' (New w) (.slice b2 (n + 1) d2) (n + 1) (ts ++ [sV y]) ∧ SlP w' (New w) (.slice b3 (n + 1) d3) (n + 1) (ss ++ [.int .i64 z]) ∧ Upto [] w w' := by
  obtain ⟨i0, hi0, hz0, hz1, hz2⟩ := info9'
  obtain ⟨i3, hi3, hy0, hy1, hy2⟩ := info3'
  have HI := Lib.hid (And.intro hi0 (And.intro hz0 (And.intro hz1 hz2)))
  have HJ := Lib.hid (And.intro hi3 (And.intro hy0 (And.intro hy1 hy2)))
  have HS1 := Lib.hid h1
  have HS2 := Lib.hid h2
  have HS3 := Lib.hid h3
  have HL := Lib.hid (And.intro hfl (And.intro htl hsl))
  have HO := Lib.hid (And.intro hfo (And.intro hto hso))
  obtain ⟨X, hX⟩ : ∃ X, X = sV x := ⟨_, rfl⟩
  obtain ⟨Y, hY⟩ : ∃ Y, Y = sV y := ⟨_, rfl⟩
  have HXY := Lib.hid (And.intro hX hY)
  have hX1 : X.oneCell' = true := by rw [hX]; rfl
  have hY1 : Y.oneCell' = true := by rw [hY]; rfl
  have HX1 := Lib.hid (And.intro hX1 hY1)
  have hXe : Value.string ⟨x.toArray⟩ = X := hX.symm
  have hYe : Value.string ⟨y.toArray⟩ = Y := hY.symm
  rw [hXe, hYe, ← hX, ← hY]
  clear h1 h2 h3 hi0 hz0 hz1 hz2 hi3 hy0 hy1 hy2 hfl htl hsl hfo hto hso hX hY hXe hYe hX1 hY1
  obtain ⟨W, hW⟩ : ∃ W, W = (w.alloc (.cells #[.slice a1 n c1, .slice a2 n c2, .slice a3 n c3] 95)).alloc (.cells #[.slice none 0 0, .slice none 0 0, .slice none 0 0] 95) := ⟨_, rfl⟩
  have HU : Hid (Upto [] w W) := Lib.hid (by rw [hW]; exact ((Upto.refl [] w).alloc _).alloc _)
  have HB1 : Hid (W.heap[w.heap.size]? = some (.cells #[.slice a1 n c1, .slice a2 n c2, .slice a3 n c3] 95 (0, 0))) := Lib.hid (by rw [hW]; exact alloc_old (new_at w _) _)
  have HB2 : Hid (W.heap[w.heap.size + 1]? = some (.cells #[.slice none 0 0, .slice none 0 0, .slice none 0 0] 95 (0, 0))) := Lib.hid (by rw [hW]; exact new_at1 w _ _)
  go_enter Tryz.func87, Tryz.ntmps87
  go_wp2_with fail
  simp only [← hW]
  clear hW
  refine wp_region_hop (plan (bindKs w.heap.size n a1 a2 a3 c1 c2 c3 fs ts ss X Y (.int .i64 z)) [(3, 0), (6, 3), (10, 7), (13, 10), (17, 14), (20, 17)]) 21 (fun vals => Act.mk #[.agg #[.slice a1 n c1, .slice a2 n c2, .slice a3 n c3], X, Y, .int .i64 z, .pointer (some ⟨w.heap.size, 0, none⟩), undef, undef, undef, .pointer (some ⟨w.heap.size + 1, 0, none⟩), vals 0, vals 1, vals 2, vals 3, vals 4, vals 5, vals 6, vals 7, vals 8, vals 9, vals 10, vals 11, vals 12, vals 13, vals 14, vals 15, vals 16, vals 17, vals 18, vals 19, vals 20, undef] []) (by kernel_rfl) (by kernel_rfl) (fun vals => by kernel_rfl) (plan_stay _ _) ?_ ?_
  · refine all_lt_succ (all_lt_succ (all_lt_succ (all_lt_succ (all_lt_succ (all_lt_succ (all_lt_succ (all_lt_succ (all_lt_succ (all_lt_succ (all_lt_succ (all_lt_succ (all_lt_succ (all_lt_succ (all_lt_succ (all_lt_succ (all_lt_succ (all_lt_succ (all_lt_succ (all_lt_succ (all_lt_succ (fun j hj => absurd hj (Nat.not_lt_zero j)) ?h0) ?h1) ?h2) ?h3) ?h4) ?h5) ?h6) ?h7) ?h8) ?h9) ?h10) ?h11) ?h12) ?h13) ?h14) ?h15) ?h16) ?h17) ?h18) ?h19) ?h20

    case h0 =>
      refine hop_new (.row 9 0 []) rfl rfl (.cells #[] 9) (fun b => .slice (some ⟨b, 0, none⟩) 0 0) rfl ?_ (fun w => ownsRow_none w 9) (fun b => rfl)
      intro a w9 vals hL
      generalize a.eval = ρ at *
      simp [go_sem]
    case h1 =>
      refine hop_fix (.pointer (some ⟨w.heap.size, 0, none⟩)) rfl rfl rfl ?_
      intro a w9 vals hL
      have e4 : a.eval (.tmp 4) = .pointer (some ⟨w.heap.size, 0, none⟩) := hL.ev0 4 (by decide)
      generalize a.eval = ρ at *
      simp [go_sem, e4]
    case h2 =>
      refine hop_fix (.slice a1 n c1) rfl rfl rfl ?_
      intro a w9 vals hL
      have e1 := hL.ev 1 10 (by kernel_rfl) rfl
      have v1 := (hL.old 1 (by kernel_rfl) (by decide)).1
      rw [show vals 1 = .pointer (some ⟨w.heap.size, 0, none⟩) from v1] at e1
      have hu := hL.up.at HB1.out (by simp)
      have c0 := cell_of hu 0
      simp only [List.getElem?_toArray, List.getElem?_cons_zero] at c0
      generalize a.eval = ρ at *
      simp [go_sem, e1, c0]
    case h3 =>
      refine hop_app 0 9 0 n n [] fs rfl rfl rfl (by kernel_rfl) (by decide) (Nat.zero_add n).symm HL.out.1 (.tmp 9) (.tmp 11) 22 i0 _ 16 Tryz.underlying22 HI.out.1 HI.out.2.1 HI.out.2.2.1 HI.out.2.2.2 rfl 9 rfl rfl HO.out.1 (by unfold maxLen; omega) (by omega) rfl rfl ?_
      intro a w9 vals hL
      have e1 := hL.ev 2 11 (by kernel_rfl) rfl
      have v1 := (hL.old 2 (by kernel_rfl) (by decide)).1
      rw [e1, show vals 2 = .slice a1 n c1 from v1]
      exact (HS1.out.ext (HU.out.trans_ext hL.up)).slc' HL.out.1
    case h4 =>
      refine hop_fix X rfl rfl rfl ?_
      intro a w9 vals hL
      have e4 : a.eval (.tmp 1) = X := hL.ev0 1 (by decide)
      generalize a.eval = ρ at *
      simp [go_sem, e4]
    case h5 =>
      refine hop_new (.one 9 X) rfl rfl (.cells #[X] 9) (fun b => .slice (some ⟨b, 0, none⟩) 1 1) rfl ?_ (fun w => ⟨_, rfl, new_at w _⟩) (fun b => rfl)
      intro a w9 vals hL
      have e1 := hL.ev 4 13 (by kernel_rfl) rfl
      have v1 := (hL.old 4 (by kernel_rfl) (by decide)).1
      rw [show vals 4 = X from v1, HXY.out.1] at e1
      clear v1
      rw [HXY.out.1]
      generalize a.eval = ρ at *
      simp [go_sem, e1, sV]
    case h6 =>
      refine hop_app 3 9 n 1 (n + 1) fs [X] rfl rfl rfl (by kernel_rfl) (by decide) rfl rfl (.tmp 12) (.tmp 14) 22 i0 _ 16 Tryz.underlying22 HI.out.1 HI.out.2.1 HI.out.2.2.1 HI.out.2.2.2 rfl 12 rfl rfl (by simp [HX1.out.1]) (by unfold maxLen; omega) (by omega) rfl rfl ?_
      intro a w9 vals hL
      have e1 := hL.ev 5 14 (by kernel_rfl) rfl
      obtain ⟨b, v1, v2⟩ := (hL.old 5 (by kernel_rfl) (by decide)).1
      rw [e1, v1]
      exact Or.inr ⟨b, 0, 1, rfl, fun j u hj => (cell_of v2 (0 + j)).trans (by simpa using hj)⟩

    case h7 =>
      refine hop_new (.row 9 0 []) rfl rfl (.cells #[] 9) (fun b => .slice (some ⟨b, 0, none⟩) 0 0) rfl ?_ (fun w => ownsRow_none w 9) (fun b => rfl)
      intro a w9 vals hL
      generalize a.eval = ρ at *
      simp [go_sem]
    case h8 =>
      refine hop_fix (.pointer (some ⟨w.heap.size, 1, none⟩)) rfl rfl rfl ?_
      intro a w9 vals hL
      have e4 : a.eval (.tmp 4) = .pointer (some ⟨w.heap.size, 0, none⟩) := hL.ev0 4 (by decide)
      generalize a.eval = ρ at *
      simp [go_sem, e4]
    case h9 =>
      refine hop_fix (.slice a2 n c2) rfl rfl rfl ?_
      intro a w9 vals hL
      have e1 := hL.ev 8 17 (by kernel_rfl) rfl
      have v1 := (hL.old 8 (by kernel_rfl) (by decide)).1
      rw [show vals 8 = .pointer (some ⟨w.heap.size, 1, none⟩) from v1] at e1
      have hu := hL.up.at HB1.out (by simp)
      have c0 := cell_of hu 1
      simp only [List.getElem?_toArray, List.getElem?_cons_zero, List.getElem?_cons_succ] at c0
      generalize a.eval = ρ at *
      simp [go_sem, e1, c0]
    case h10 =>
      refine hop_app 7 9 0 n n [] ts rfl rfl rfl (by kernel_rfl) (by decide) (Nat.zero_add n).symm HL.out.2.1 (.tmp 16) (.tmp 18) 22 i0 _ 16 Tryz.underlying22 HI.out.1 HI.out.2.1 HI.out.2.2.1 HI.out.2.2.2 rfl 16 rfl rfl HO.out.2.1 (by unfold maxLen; omega) (by omega) rfl rfl ?_
      intro a w9 vals hL
      have e1 := hL.ev 9 18 (by kernel_rfl) rfl
      have v1 := (hL.old 9 (by kernel_rfl) (by decide)).1
      rw [e1, show vals 9 = .slice a2 n c2 from v1]
      exact (HS2.out.ext (HU.out.trans_ext hL.up)).slc' HL.out.2.1
    case h11 =>
      refine hop_fix Y rfl rfl rfl ?_
      intro a w9 vals hL
      have e4 : a.eval (.tmp 2) = Y := hL.ev0 2 (by decide)
      generalize a.eval = ρ at *
      simp [go_sem, e4]
    case h12 =>
      refine hop_new (.one 9 Y) rfl rfl (.cells #[Y] 9) (fun b => .slice (some ⟨b, 0, none⟩) 1 1) rfl ?_ (fun w => ⟨_, rfl, new_at w _⟩) (fun b => rfl)
      intro a w9 vals hL
      have e1 := hL.ev 11 20 (by kernel_rfl) rfl
      have v1 := (hL.old 11 (by kernel_rfl) (by decide)).1
      rw [show vals 11 = Y from v1, HXY.out.2] at e1
      clear v1
      rw [HXY.out.2]
      generalize a.eval = ρ at *
      simp [go_sem, e1, sV]
    case h13 =>
      refine hop_app 10 9 n 1 (n + 1) ts [Y] rfl rfl rfl (by kernel_rfl) (by decide) rfl rfl (.tmp 19) (.tmp 21) 22 i0 _ 16 Tryz.underlying22 HI.out.1 HI.out.2.1 HI.out.2.2.1 HI.out.2.2.2 rfl 19 rfl rfl (by simp [HX1.out.2]) (by unfold maxLen; omega) (by omega) rfl rfl ?_
      intro a w9 vals hL
      have e1 := hL.ev 12 21 (by kernel_rfl) rfl
      obtain ⟨b, v1, v2⟩ := (hL.old 12 (by kernel_rfl) (by decide)).1
      rw [e1, v1]
      exact Or.inr ⟨b, 0, 1, rfl, fun j u hj => (cell_of v2 (0 + j)).trans (by simpa using hj)⟩

    case h14 =>
      refine hop_new (.row 3 0 []) rfl rfl (.cells #[] 3) (fun b => .slice (some ⟨b, 0, none⟩) 0 0) rfl ?_ (fun w => ownsRow_none w 3) (fun b => rfl)
      intro a w9 vals hL
      generalize a.eval = ρ at *
      simp [go_sem]
    case h15 =>
      refine hop_fix (.pointer (some ⟨w.heap.size, 2, none⟩)) rfl rfl rfl ?_
      intro a w9 vals hL
      have e4 : a.eval (.tmp 4) = .pointer (some ⟨w.heap.size, 0, none⟩) := hL.ev0 4 (by decide)
      generalize a.eval = ρ at *
      simp [go_sem, e4]
    case h16 =>
      refine hop_fix (.slice a3 n c3) rfl rfl rfl ?_
      intro a w9 vals hL
      have e1 := hL.ev 15 24 (by kernel_rfl) rfl
      have v1 := (hL.old 15 (by kernel_rfl) (by decide)).1
      rw [show vals 15 = .pointer (some ⟨w.heap.size, 2, none⟩) from v1] at e1
      have hu := hL.up.at HB1.out (by simp)
      have c0 := cell_of hu 2
      simp only [List.getElem?_toArray, List.getElem?_cons_zero, List.getElem?_cons_succ] at c0
      generalize a.eval = ρ at *
      simp [go_sem, e1, c0]
    case h17 =>
      refine hop_app 14 3 0 n n [] ss rfl rfl rfl (by kernel_rfl) (by decide) (Nat.zero_add n).symm HL.out.2.2 (.tmp 23) (.tmp 25) 93 i3 _ 8 Tryz.underlying93 HJ.out.1 HJ.out.2.1 HJ.out.2.2.1 HJ.out.2.2.2 rfl 23 rfl rfl HO.out.2.2 (by unfold maxLen; omega) (by omega) rfl rfl ?_
      intro a w9 vals hL
      have e1 := hL.ev 16 25 (by kernel_rfl) rfl
      have v1 := (hL.old 16 (by kernel_rfl) (by decide)).1
      rw [e1, show vals 16 = .slice a3 n c3 from v1]
      exact (HS3.out.ext (HU.out.trans_ext hL.up)).slc' HL.out.2.2
    case h18 =>
      refine hop_fix (.int .i64 z) rfl rfl rfl ?_
      intro a w9 vals hL
      have e4 : a.eval (.tmp 3) = (.int .i64 z) := hL.ev0 3 (by decide)
      generalize a.eval = ρ at *
      simp [go_sem, e4]
    case h19 =>
      refine hop_new (.one 3 (.int .i64 z)) rfl rfl (.cells #[.int .i64 z] 3) (fun b => .slice (some ⟨b, 0, none⟩) 1 1) rfl ?_ (fun w => ⟨_, rfl, new_at w _⟩) (fun b => rfl)
      intro a w9 vals hL
      have e1 := hL.ev 18 27 (by kernel_rfl) rfl
      have v1 := (hL.old 18 (by kernel_rfl) (by decide)).1
      rw [show vals 18 = .int .i64 z from v1] at e1
      clear v1
      skip
      generalize a.eval = ρ at *
      simp [go_sem, e1]
    case h20 =>
      refine hop_app 17 3 n 1 (n + 1) ss [.int .i64 z] rfl rfl rfl (by kernel_rfl) (by decide) rfl rfl (.tmp 26) (.tmp 28) 93 i3 _ 8 Tryz.underlying93 HJ.out.1 HJ.out.2.1 HJ.out.2.2.1 HJ.out.2.2.2 rfl 26 rfl rfl (by simp [Value.oneCell']) (by unfold maxLen; omega) (by omega) rfl rfl ?_
      intro a w9 vals hL
      have e1 := hL.ev 19 28 (by kernel_rfl) rfl
      obtain ⟨b, v1, v2⟩ := (hL.old 19 (by kernel_rfl) (by decide)).1
      rw [e1, v1]
      exact Or.inr ⟨b, 0, 1, rfl, fun j u hj => (cell_of v2 (0 + j)).trans (by simpa using hj)⟩

  · intro vals w9 hu9 hf
    have r1 : w9.ownsRow 0 9 1 (vals 6) (n + 1) (fs ++ [X]) ∧ ∀ b ∈ (vals 6).ownBlock.toList, W.heap.size ≤ b ∧ b < w9.heap.size := hf 6 (by omega) (show ∀ k, k < 21 → List.lookup k [(3, 0), (6, 3), (10, 7), (13, 10), (17, 14), (20, 17)] ≠ some 6 by decide)
    have r2 : w9.ownsRow 0 9 1 (vals 13) (n + 1) (ts ++ [Y]) ∧ ∀ b ∈ (vals 13).ownBlock.toList, W.heap.size ≤ b ∧ b < w9.heap.size := hf 13 (by omega) (show ∀ k, k < 21 → List.lookup k [(3, 0), (6, 3), (10, 7), (13, 10), (17, 14), (20, 17)] ≠ some 13 by decide)
    have r3 : w9.ownsRow 0 3 1 (vals 20) (n + 1) (ss ++ [.int .i64 z]) ∧ ∀ b ∈ (vals 20).ownBlock.toList, W.heap.size ≤ b ∧ b < w9.heap.size := hf 20 (by omega) (show ∀ k, k < 21 → List.lookup k [(3, 0), (6, 3), (10, 7), (13, 10), (17, 14), (20, 17)] ≠ some 20 by decide)
    clear hf
    simp only [List.drop_succ_cons, List.drop_zero]
    obtain ⟨b1, d1, hv1, -⟩ := ownsRow_len r1.1
    obtain ⟨b2, d2, hv2, -⟩ := ownsRow_len r2.1
    obtain ⟨b3, d3, hv3, -⟩ := ownsRow_len r3.1
    rw [hv1] at r1
    rw [hv2] at r2
    rw [hv3] at r3
    have R1 := Lib.hid (And.intro r1 (And.intro r2 r3))
    show wpList _ _ _ _ (Act.mk _ _) w9
    rw [hv1, hv2, hv3]
    clear r1 r2 r3 hv1 hv2 hv3
    try generalize vals 0 = u0
    try generalize vals 1 = u1
    try generalize vals 2 = u2
    try generalize vals 3 = u3
    try generalize vals 4 = u4
    try generalize vals 5 = u5
    try generalize vals 7 = u7
    try generalize vals 8 = u8
    try generalize vals 9 = u9
    try generalize vals 10 = u10
    try generalize vals 11 = u11
    try generalize vals 12 = u12
    try generalize vals 14 = u14
    try generalize vals 15 = u15
    try generalize vals 16 = u16
    try generalize vals 17 = u17
    try generalize vals 18 = u18
    try generalize vals 19 = u19
    have HB9 := Lib.hid (hu9.at HB2.out (by simp))
    obtain ⟨y0, y1, y2⟩ := cells3 HB9.out
    obtain ⟨f0, f1, f2⟩ := frees3 HB9.out
    go_wp2_with fail
    have hst : ((((w9.setCell ⟨w.heap.size + 1, 0, none⟩ (.slice b1 (n + 1) d1)).setCell ⟨w.heap.size + 1, 1, none⟩ (.slice b2 (n + 1) d2)).setCell ⟨w.heap.size + 1, 2, none⟩ (.slice b3 (n + 1) d3))).heap[w.heap.size + 1]? = some (.cells #[.slice b1 (n + 1) d1, .slice b2 (n + 1) d2, .slice b3 (n + 1) d3] 95 (0, 0)) := set_same (set_same (set_same HB9.out 0 _) 1 _) 2 _
    have hself : Upto [w.heap.size + 1] w9 ((((w9.setCell ⟨w.heap.size + 1, 0, none⟩ (.slice b1 (n + 1) d1)).setCell ⟨w.heap.size + 1, 1, none⟩ (.slice b2 (n + 1) d2)).setCell ⟨w.heap.size + 1, 2, none⟩ (.slice b3 (n + 1) d3))) := (((Upto.refl _ w9).setCell (p := ⟨w.heap.size + 1, 0, none⟩) (Or.inl (by simp)) _).setCell (p := ⟨w.heap.size + 1, 1, none⟩) (Or.inl (by simp)) _).setCell (p := ⟨w.heap.size + 1, 2, none⟩) (Or.inl (by simp)) _
    have hWs : w.heap.size + 1 < W.heap.size := lt_of_heap HB2.out
    have row : ∀ {e : TypeId} {b : Option Addr} {d : Nat} {xs : List Value}, (w9.ownsRow 0 e 1 (.slice b (n + 1) d) (n + 1) xs ∧ ∀ g ∈ (Value.slice b (n + 1) d).ownBlock.toList, W.heap.size ≤ g ∧ g < w9.heap.size) → SlP ((((w9.setCell ⟨w.heap.size + 1, 0, none⟩ (.slice b1 (n + 1) d1)).setCell ⟨w.heap.size + 1, 1, none⟩ (.slice b2 (n + 1) d2)).setCell ⟨w.heap.size + 1, 2, none⟩ (.slice b3 (n + 1) d3))) (New w) (.slice b (n + 1) d) (n + 1) xs := fun {e b d xs} h => by
      have h5 := ownsRow_upto h.1 hself (fun g hg hm => by
        have := (h.2 g (Option.mem_toList.2 hg)).1
        simp at hm
        omega)
      exact SlP.of_row h5 (fun g hg => by
        have := (h.2 g (Option.mem_toList.2 hg)).1
        show w.heap.size ≤ g
        omega)
    obtain ⟨q0, q1, q2⟩ := cells3 hst
    exact bodyPost_ret (v := .agg #[.slice b1 (n + 1) d1, .slice b2 (n + 1) d2, .slice b3 (n + 1) d3]) (by simp [results, Tryz.results87, go_sem, q0, q1, q2]) rfl ⟨b1, d1, b2, d2, b3, d3, rfl, row R1.out.1, row R1.out.2.1, row R1.out.2.2, (HU.out.trans_ext hu9).trans hself (fun g hg => Or.inr (by simp at hg; omega))⟩
end Go.Proofs.YtbnebkkpmcjmbaaGreatDoor


namespace Go.PL
open Go.RowKit Go.Maps
theorem MapL.put {P : Program} {k : TypeId} {w : World} {b : Nat} {L : List (Value × Value)} {t e : TypeId} (h : MapL P k w b L) (K : Keyed P k) (ht : P.underlying t = some (.map k e)) {x v : Value} {l : Lit} (hx : keyOf P k x = some l) :
    ∃ w' L', (Instr.mapUpdate t (.map (some b)) x v).run P w = .ok () w' ∧ MapL P k w' b L' ∧ w.grownBy w' (some b) ∧ (((∀ p ∈ L, p.1 ≠ x) ∧ L' = L ++ [(x, v)]) ∨ ∃ j u, L[j]? = some (x, u) ∧ L' = L.set j (x, v)) := by
  obtain ⟨es, clock, hb, rfl, hk⟩ := h
  rcases K.find w hx es.toList hk with ⟨h1, h2⟩ | ⟨j, e0, h1, h2, h3⟩
  · have hnew : ∀ p ∈ es.toList.map (fun e => (e.key, e.val)), p.1 ≠ x := fun p hp => by
      obtain ⟨q, hq, rfl⟩ := List.mem_map.1 hp
      exact h2 q hq
    obtain ⟨w', r1, r2, r3⟩ := MapL.insert (P := P) (k := k) (w := w) (b := b) ⟨es, clock, hb, rfl, hk⟩ K ht (v := v) hx hnew
    exact ⟨w', _, r1, r2, r3, Or.inl ⟨hnew, rfl⟩⟩
  · have hj : es[j]? = some e0 := by simpa using h2
    have hlist : (es.modify j (fun e' => { e' with key := x, val := v })).toList = es.toList.set j { e0 with key := x, val := v } := by
      rw [Array.toList_modify, ChangeMaps.modify_eq_set _ _ _ _ h2]
    refine ⟨ChangeMaps.setBlock w b (.map (es.modify j (fun e' => { e' with key := x, val := v })) clock), (es.toList.map (fun e => (e.key, e.val))).set j (x, v), ?_, ⟨_, clock, ChangeMaps.heap_setBlock_same hb _, ?_, ?_⟩, ?_, Or.inr ⟨j, e0.val, ?_, rfl⟩⟩
    · have hs := K.stays w hx
      subst h3
      simp [Instr.mapUpdate, run_underlying ht, MapKept.run_getObj_map hb, K.check w false hx, h1, hj, hs, MapKept.run_setObj_map _ hb, Result.andThen, ChangeMaps.setBlock]
    · rw [hlist, List.map_set]
    · intro e he
      rw [hlist] at he
      rcases List.mem_or_eq_of_mem_set he with h4 | h4
      · exact hk e h4
      · rw [h4]
        exact ⟨l, hx⟩
    · exact ⟨rfl, rfl, rfl, by simp [ChangeMaps.setBlock], fun i _ hi => ChangeMaps.heap_setBlock_other hb _ (fun e => hi (by rw [e]))⟩
    · rw [List.getElem?_map, h2, ← h3]
      rfl
end Go.PL


namespace Go.PL
open Go.RowKit
/-- what such an operation leaves does not hang on the world -/
def pureOp (o : Oper) : Bool := match o.op with | .extract .. => true | .move _ => true | .assign _ => true | _ => false
theorem pure_any {P : Program} {o : Oper} {ρ : Operand → Value} (hp : pureOp o = true) {w : World} {v : Value} (h : (execOp ρ o).run P w = .ok (.value v) w) (w' : World) : (execOp ρ o).run P w' = .ok (.value v) w' := by
  obtain ⟨dst, op, type, pos, after, guard⟩ := o
  cases op <;> simp only [pureOp, Bool.false_eq_true] at hp
  case move x =>
    simp only [execOp, Sem.run_pure] at h ⊢
    cases h
    rfl
  case assign x =>
    simp only [execOp, Sem.run_pure] at h ⊢
    cases h
    rfl
  case extract x i =>
    simp only [execOp] at h ⊢
    cases hx : ρ x
    case tuple vs =>
      cases hv : vs[i]? <;> simp [hx, hv, Instr.extract, stuck, Result.andThen] at h ⊢
      exact h
    all_goals simp [hx, Instr.extract, stuck, Result.andThen] at h
section
variable {P : Program} {ops : Array Oper} {W : World} {Cs As : List Nat} {K : List Fact → Act → Prop}
structure FitP (ops : Array Oper) (Cs As Ps : List Nat) (l : List Nat) (listed : Array Bool) : Prop where
  size : listed.size = ops.size
  closed : Closed ops listed
  un : ∀ i ∈ l, i < ops.size ∧ listed.getD i false = false
  deps : ∀ i ∈ l, ∀ o, ops[i]? = some o → ∀ e ∈ o.after, Region.binds .any e = true → listed.getD e.on false = true ∨ (e.on ∈ l ∧ e.on ≠ i)
  others : ∀ k, k < ops.size → listed.getD k false = false → k ∉ l → ∀ i ∈ l, i ∈ Ps ∨ reach ops k i = true
  pairs : l.Pairwise fun i j => before ops Cs As i j = true
theorem FitP.step {Ps l1 l2 : List Nat} {j : Nat} {oj : Oper} {listed : Array Bool} (h : FitP ops Cs As Ps (l1 ++ j :: l2) listed) (hj : ops[j]? = some oj) (hd : ∀ e ∈ oj.after, Region.binds .any e = true → listed.getD e.on false = true) : FitP ops Cs As Ps (l1 ++ l2) (listed.setIfInBounds j true) := by
  have hjm : j ∈ l1 ++ j :: l2 := by simp
  have hjl : j < listed.size := by rw [h.size]; exact (h.un j hjm).1
  have hsub : ∀ i ∈ l1 ++ l2, i ∈ l1 ++ j :: l2 := fun i hi => by rcases List.mem_append.1 hi with hi | hi <;> simp [hi]
  have hne : ∀ i ∈ l1 ++ l2, i ≠ j := by
    intro i hi he
    subst he
    have hp := h.pairs
    rw [List.pairwise_append] at hp
    rcases List.mem_append.1 hi with hi | hi
    · have := hp.2.2 i hi i (by simp)
      simp [before] at this
    · have := (List.pairwise_cons.1 hp.2.1).1 i hi
      simp [before] at this
  refine ⟨by simp [h.size], ?_, ?_, ?_, ?_, ?_⟩
  · intro i o ho hl e he hb
    rw [getD_set hjl] at hl ⊢
    rw [Bool.or_eq_true] at hl ⊢
    rcases hl with hl | hl
    · exact Or.inl (h.closed i o ho hl e he hb)
    · simp at hl
      subst hl
      rw [hj] at ho
      cases ho
      exact Or.inl (hd e he hb)
  · intro i hi
    refine ⟨(h.un i (hsub i hi)).1, ?_⟩
    rw [getD_set hjl, (h.un i (hsub i hi)).2]
    simp [hne i hi]
  · intro i hi o ho e he hb
    rw [getD_set hjl]
    rcases h.deps i (hsub i hi) o ho e he hb with h1 | ⟨h1, h2⟩
    · exact Or.inl (by rw [h1]; rfl)
    · by_cases hej : e.on = j
      · exact Or.inl (by simp [hej])
      · refine Or.inr ⟨?_, h2⟩
        rcases List.mem_append.1 h1 with h1 | h1
        · simp [h1]
        · rcases List.mem_cons.1 h1 with h1 | h1
          · exact absurd h1 hej
          · simp [h1]
  · intro k hk hun hkl i hi
    rw [getD_set hjl, Bool.or_eq_false_iff] at hun
    refine h.others k hk hun.1 (fun hm => ?_) i (hsub i hi)
    have hkj : k ≠ j := by simpa using hun.2
    rcases List.mem_append.1 hm with hm | hm
    · exact hkl (by simp [hm])
    · rcases List.mem_cons.1 hm with hm | hm
      · exact hkj hm
      · exact hkl (by simp [hm])
  · exact h.pairs.sublist (List.Sublist.append_left (List.sublist_cons_self _ _) _)
theorem FitP.head {Ps l' : List Nat} {i0 : Nat} {listed : Array Bool} (hF : FitP ops Cs As Ps (i0 :: l') listed) : i0 ∈ Region.ready .any ops listed := by
  have h0 := hF.un i0 (by simp)
  refine mem_ready.2 ⟨(listed_lt (by rw [hF.size]; exact h0.1)).2 (by rw [h0.2]; simp), ops[i0]'h0.1, Array.getElem?_eq_getElem h0.1, fun e he hb => ?_⟩
  rcases hF.deps i0 (by simp) _ (Array.getElem?_eq_getElem h0.1) e he hb with h1 | ⟨h1, h2⟩
  · exact h1
  · have hm : e.on ∈ l' := by
      rcases List.mem_cons.1 h1 with h1 | h1
      · exact absurd h1 h2
      · exact h1
    have hp := (List.pairwise_cons.1 hF.pairs).1 _ hm
    have hwt := waits_true (Array.getElem?_eq_getElem h0.1) he hb rfl
    simp [before, hwt] at hp
/-- nobody but those that i waits for, or that wait for i, has to do with i -/
def pfree (ops : Array Oper) (i : Nat) : Bool :=
  match ops[i]? with
  | none => false
  | some oi => (List.range ops.size).all fun j => j == i || reach ops i j || match ops[j]? with
      | some oj => oj.after.any (fun e => Region.binds .any e && e.on == i) || oi.apart ops oj
      | none => true
theorem pfree_free {i : Nat} {o : Oper} {listed : Array Bool} (hs : listed.size = ops.size) (hc : Closed ops listed) (ho : ops[i]? = some o) (hall : ∀ e ∈ o.after, Region.binds .any e = true → listed.getD e.on false = true) (h : pfree ops i = true) : Region.free .any ops listed i = true := by
  unfold pfree at h
  unfold Region.free
  split at h
  · cases h
  · rename_i oi hoi
    simp only [hoi]
    rw [List.all_eq_true] at h ⊢
    intro j hj
    have h1 := h j hj
    have hjl : j < ops.size := List.mem_range.1 hj
    cases hr : reach ops i j with
    | false =>
      rw [hr, Bool.or_false] at h1
      obtain ⟨oj, hoj⟩ : ∃ oj, ops[j]? = some oj := ⟨_, Array.getElem?_eq_getElem hjl⟩
      simp only [hoj] at h1 ⊢
      rw [Bool.or_assoc, Bool.or_left_comm, h1, Bool.or_true]
    | true =>
      have h2 := reach_listed hc (i + 1) i o (by omega) ho hall hr
      have h3 : listed.getD j true = true := by
        have := (listed_lt (listed := listed) (i := j) (by rw [hs]; exact hjl))
        cases h4 : listed.getD j true with
        | true => rfl
        | false => exact absurd h2 (this.1 h4)
      rw [h3, Bool.or_true, Bool.true_or]
/-- the operations that are left only hand values on: they are taken ahead of all others -/
theorem take_all {Q : Exit → Act → World → Prop} (hQ : ∀ c a d v w, Q (.panic c) (Act.put a d v) w → Q (.panic c) a w) (hsel : Region.noSelect ops = true) {Ps : List Nat} (hPs : ∀ i ∈ Ps, i ∉ Cs ∧ i ∉ As ∧ (∀ o, ops[i]? = some o → pureOp o = true) ∧ pfree ops i = true)
    {fuelT : Nat} {listedT : Array Bool} (hfin : ∀ Fs a w, K Fs a → Good W Fs w → wpAny P .any ops Q fuelT listedT a w) :
    ∀ (l : List Nat) (Fs : List Fact) (a : Act) (w : World) (listed : Array Bool), (∀ i ∈ l, i ∈ Ps) → FitP ops Cs As Ps l listed → l.foldl (fun x i => x.setIfInBounds i true) listed = listedT → Good W Fs w → Seg P ops W Cs As K l Fs a →
      wpAny P .any ops Q (l.length + fuelT) listed a w
  | [], Fs, a, w, listed, _, _, hT, hg, hs => by
    cases hT
    rw [List.length_nil, Nat.zero_add]
    exact hfin Fs a w hs hg
  | i :: l, Fs, a, w, listed, hl, hF, hT, hg, hs => by
    obtain ⟨o, ho, h⟩ := Seg_cons.1 hs
    obtain ⟨p1, p2, p3, p4⟩ := hPs i (hl i (by simp))
    have hr := hF.head
    obtain ⟨-, o', ho', hall⟩ := mem_ready.1 hr
    rw [ho] at ho'
    cases ho'
    have hF' := FitP.step (l1 := []) hF ho hall
    rw [List.length_cons, Nat.succ_add]
    unfold Head at h
    by_cases hw : Region.wanted o (yielded ops a.tmps) = true
    · rw [if_pos hw, if_neg p2, if_neg p1] at h
      obtain ⟨hp, C, hC, v, h1, h2⟩ := h
      have hv := plain_val hp (h1 w (hC w hg.up (DF_iff.2 fun f hf _ => AllHold_iff.1 hg.hold f hf)))
      exact wpAny_take ho hsel (pfree_free hF.size hF.closed ho hall p4) (by simpa using hr) (fun c a w h => hQ c a _ _ w h) (Or.inl ⟨hw, pure_any (p3 o ho) hv⟩) (take_all hQ hsel hPs hfin l Fs _ w _ (fun k hk => hl k (by simp [hk])) hF' hT hg h2)
    · rw [if_neg hw] at h
      exact wpAny_take ho hsel (pfree_free hF.size hF.closed ho hall p4) (by simpa using hr) (fun c a w h => hQ c a _ _ w h) (Or.inr ⟨by simpa using hw, rfl⟩) (take_all hQ hsel hPs hfin l Fs _ w _ (fun k hk => hl k (by simp [hk])) hF' hT hg h)
theorem seg_anyP {Q : Exit → Act → World → Prop} (hQ : ∀ c a d v w, Q (.panic c) (Act.put a d v) w → Q (.panic c) a w) (hsel : Region.noSelect ops = true) (hK : ∀ Fs Fs' a, Fs.Perm Fs' → K Fs a → K Fs' a) {Ps : List Nat} (hPs : ∀ i ∈ Ps, i ∉ Cs ∧ i ∉ As ∧ (∀ o, ops[i]? = some o → pureOp o = true) ∧ pfree ops i = true)
    {fuelT : Nat} {listedT : Array Bool} (hfin : ∀ Fs a w, K Fs a → Good W Fs w → wpAny P .any ops Q fuelT listedT a w) :
    ∀ (n : Nat) (l : List Nat) (Fs : List Fact) (a : Act) (w : World) (listed : Array Bool), l.length = n → FitP ops Cs As Ps l listed → l.foldl (fun x i => x.setIfInBounds i true) listed = listedT → Good W Fs w → Seg P ops W Cs As K l Fs a →
      wpAny P .any ops Q (n + fuelT) listed a w := by
  intro n
  induction n with
  | zero =>
    intro l Fs a w listed hl _ hT hg hs
    obtain rfl := List.length_eq_zero_iff.1 hl
    cases hT
    rw [Nat.zero_add]
    exact hfin Fs a w hs hg
  | succ n ih =>
    intro l Fs a w listed hl hF hT hg hs
    by_cases hallP : ∀ i ∈ l, i ∈ Ps
    · rw [← hl]
      exact take_all hQ hsel hPs hfin l Fs a w listed hallP hF hT hg hs
    obtain ⟨i9, hi9, hn9⟩ : ∃ i, i ∈ l ∧ i ∉ Ps := Classical.byContradiction fun hno => hallP fun i hi => Classical.byContradiction fun hn => hno ⟨i, hi, hn⟩
    obtain ⟨i0, l', rfl⟩ : ∃ i l', l = i :: l' := by cases l with | nil => simp at hl | cons i l' => exact ⟨i, l', rfl⟩
    have hr0 := hF.head
    rw [Nat.succ_add]
    refine ⟨(fun hn => by rw [hn] at hr0; cases hr0), fun j hj => ?_⟩
    obtain ⟨hjun, oj, hoj, hall⟩ := mem_ready.1 hj
    have hjlt : j < ops.size := (Array.getElem?_eq_some_iff.1 hoj).1
    have hjf : listed.getD j false = false := by
      have := (listed_lt (listed := listed) (by rw [hF.size]; exact hjlt)).1 hjun
      simpa using this
    have hreach : ∀ i, reach ops j i = true → listed.getD i false = true := fun i hr => reach_listed hF.closed (j + 1) j oj (by omega) hoj hall hr
    have hjl : j ∈ i0 :: l' := by
      by_cases hm : j ∈ i0 :: l'
      · exact hm
      · have := hreach i9 ((hF.others j hjlt hjf hm i9 hi9).resolve_left hn9)
        rw [(hF.un i9 hi9).2] at this
        cases this
    obtain ⟨l1, l2, hsplit⟩ := List.append_of_mem hjl
    rw [hsplit] at hF hT hs hl
    have hcond : ∀ i ∈ l1, before ops Cs As i j = true ∧ waits ops j i = false ∧ reach ops j i = false := by
      intro i hi
      have hun := (hF.un i (by simp [hi])).2
      refine ⟨(List.pairwise_append.1 hF.pairs).2.2 i hi j (by simp), ?_, ?_⟩
      · cases hwt : waits ops j i with
        | false => rfl
        | true =>
          unfold waits at hwt
          rw [hoj] at hwt
          obtain ⟨e, he, hb⟩ := Array.any_eq_true'.1 hwt
          simp only [Bool.and_eq_true, beq_iff_eq] at hb
          have := hall e he hb.1
          rw [hb.2, hun] at this
          cases this
      · cases hr : reach ops j i with
        | false => rfl
        | true =>
          have := hreach i hr
          rw [hun] at this
          cases this
    have hne : ∀ i ∈ l1, i ≠ j := fun i hi he => by
      have := (hcond i hi).1
      simp [before, he] at this
    have hdf : DF ops j Fs w := DF_iff.2 fun f hf _ => AllHold_iff.1 hg.hold f hf
    have hF' := hF.step hoj hall
    have hT' : (l1 ++ l2).foldl (fun x i => x.setIfInBounds i true) (listed.setIfInBounds j true) = listedT := by rw [foldl_move l2 j l1 listed hne]; exact hT
    have hl' : (l1 ++ l2).length = n := by
      simp at hl ⊢
      omega
    by_cases hjc : j ∈ Cs ∧ j ∉ As
    · refine wpOp_of_out hoj ((moveC hsel hoj hjc.1 hjc.2 hg.up l1 Fs a hcond hdf hs).mono ?_)
      rintro u w' ⟨nf, h1, h2⟩
      exact ih _ _ _ _ _ hl' hF' hT' (hg.step h1) h2
    · obtain ⟨u, w', nf, h1, h2, h3⟩ := moveN hsel hK hoj (fun hc => by
        refine Classical.byContradiction fun hn => hjc ⟨hc, hn⟩) hg.up l1 Fs a hcond hdf hs
      exact wpOp_of_res hoj h1 (ih _ _ _ _ _ hl' hF' hT' (hg.step h2.sc) h3)
def seg4B (ops : Array Oper) (Cs As Ps ord tail : List Nat) : Bool :=
  Region.noSelect ops && pairsB ops Cs As ord && (ord.length + tail.length == ops.size) &&
  ord.all (fun i => match ops[i]? with | some o => o.after.all fun e => !(Region.binds .any e) || (ord.contains e.on && e.on != i) | none => false) &&
  (List.range ops.size).all (fun k => ord.contains k || ord.all fun i => Ps.contains i || reach ops k i) &&
  tailB ops (ord.foldl (fun x i => x.setIfInBounds i true) (Array.replicate ops.size false)) tail &&
  Ps.all (fun i => !(Cs.contains i) && !(As.contains i) && (match ops[i]? with | some o => pureOp o | none => true) && pfree ops i)
/-- **A REGION THAT DRAWS ITS ORDER**, where the operations of Ps only hand values on and the last ones need not wait for them -/
theorem wp_region_seg4_at {id : Nat} {Q : Exit → Act → World → Prop} {a : Act} {w : World} {l : List Oper} (Cs As Ps ord tail : List Nat) (n : Nat) (hQ : ∀ c a d v w, Q (.panic c) (Act.put a d v) w → Q (.panic c) a w) (hm : P.follows .mixedOrders = true)
    (hB : seg4B l.toArray Cs As Ps ord tail = true) (ht : (tail == (List.range l.length).drop n) = true)
    (h : Seg P l.toArray w Cs As (fun Fs a' => ∀ w', Good w Fs w' → wpList P l.toArray Q (l.drop n) a' w') ord [] a) : (Code.region id l.toArray true).wp P Q a w := by
  have ht2 : tail.map (fun i => l.toArray[i]?) = (l.drop n).map some := by
    rw [beq_iff_eq] at ht
    subst ht
    apply List.ext_getElem?
    intro i
    by_cases hi : n + i < l.length
    · simp [List.getElem?_drop, hi]
    · simp [List.getElem?_drop, hi]
  simp only [seg4B, Bool.and_eq_true, List.all_eq_true, beq_iff_eq] at hB
  obtain ⟨⟨⟨⟨⟨⟨h1, h2⟩, h3⟩, h4⟩, h5⟩, h6⟩, h7⟩ := hB
  refine wp_region_any hm ?_
  have hrep : ∀ k, (Array.replicate l.toArray.size false).getD k false = false := by
    intro k
    simp [Array.getD]
  have hPs : ∀ i ∈ Ps, i ∉ Cs ∧ i ∉ As ∧ (∀ o, l.toArray[i]? = some o → pureOp o = true) ∧ pfree l.toArray i = true := fun i hi => by
    obtain ⟨⟨⟨g1, g2⟩, g3⟩, g4⟩ := h7 i hi
    refine ⟨by simpa using g1, by simpa using g2, fun o ho => ?_, g4⟩
    rw [ho] at g3
    exact g3
  have hs := seg_anyP (P := P) (ops := l.toArray) (W := w) (Cs := Cs) (As := As) (Q := Q) (K := fun Fs a' => ∀ w', Good w Fs w' → wpList P l.toArray Q (l.drop n) a' w') hQ h1 (fun Fs Fs' a hp hk w' hg => hk w' (hg.perm hp)) hPs (fuelT := tail.length)
    (listedT := ord.foldl (fun x i => x.setIfInBounds i true) (Array.replicate l.toArray.size false))
    (fun Fs a w' hk hg => wpAny_tail tail _ a w' h6 (by rw [wpOps_list tail _ ht2]; exact hk w' hg)) ord.length ord [] a { w with drawn := w.drawn + 1 } (Array.replicate l.toArray.size false) rfl ?_ rfl ⟨(Upto.refl [] w).drew, trivial, (by simp), (by simp), (by simp [ownAll])⟩ h
  · rw [h3] at hs
    exact hs
  · refine ⟨by simp, ?_, ?_, ?_, ?_, pairsB_spec _ h2⟩
    · intro i o _ hl
      rw [hrep] at hl
      cases hl
    · intro i hi
      refine ⟨?_, hrep i⟩
      have := h4 i hi
      split at this
      · rename_i o ho
        exact (Array.getElem?_eq_some_iff.1 ho).1
      · cases this
    · intro i hi o ho e he hb
      have := h4 i hi
      rw [ho] at this
      have := Array.all_eq_true_iff_forall_mem.1 this e he
      rw [hb] at this
      simp at this
      exact Or.inr this
    · intro k hk _ hn i hi
      have := h5 k (List.mem_range.2 hk)
      simp [hn] at this
      rcases this i hi with h8 | h8
      · exact Or.inl h8
      · exact Or.inr h8
end
end Go.PL


namespace Go.Proofs.YtbnebkkpmcjmbaaGreatDoor
open Go.RowKit Go.PL Go.Maps
theorem two_at {w : World} {g : Nat} {v0 v1 : Value} {t : TypeId} {z : Nat × Nat} (h : w.heap[g]? = some (.cells #[v0, v1] t z)) : ∀ (j : Nat) u, [v0, v1][j]? = some u → w.cell? ((⟨g, 0, none⟩ : Addr).add j) = some u := by
  intro j u hj
  rw [Addr.add_lit, Nat.zero_add, cell_of h]
  simpa using hj
theorem infoV (T : TypeId) (h : (Tryz.prog.info? T).map (fun i => (i.zero, i.size, i.bytes)) = some (some (.agg #[.string ⟨#[]⟩, .int .i64 0]), 2, 24)) : ∃ i, Tryz.prog.info? T = some i ∧ i.zero = some (.agg #[.string ⟨#[]⟩, .int .i64 0]) ∧ i.size = 2 ∧ i.bytes = 24 := by
  cases hi : Tryz.prog.info? T with
  | none => rw [hi] at h; cases h
  | some i =>
    rw [hi] at h
    simp only [Option.map_some, Option.some.injEq, Prod.mk.injEq] at h
    exact ⟨i, rfl, h.1, h.2.1, h.2.2⟩
theorem infoV86 : ∃ i, Tryz.prog.info? 86 = some i ∧ i.zero = some (.agg #[.string ⟨#[]⟩, .int .i64 0]) ∧ i.size = 2 ∧ i.bytes = 24 := infoV 86 (by kernel_rfl)
/-- a question made anew -/
def QuPost (w : World) (q : Qn) (e : Ending) (w' : World) : Prop := ∃ v, e = .returned v ∧ QnV w' (New w) q v ∧ Upto [] w w'
/-- the question under way: its body is laid, so many variables are taken -/
structure QbI (w4 : World) (bn : Nat) (x1 x2 x3 x4 x5 x6 : Value) (T EL : TypeId) (f : List (List UInt8 × Int)) (j : Nat) (wr : World) : Prop where
  up : Upto [bn] w4 wr
  st : ∃ (va : Option Addr) (vn vc : Nat), wr.heap[bn]? = some (.cells #[.slice va vn vc, x1, x2, x3, x4, x5, x6] T (0, 0)) ∧ wr.ownsRow 0 EL 2 (.slice va vn vc) j ((f.take j).flatMap varC) ∧ ∀ g, (Value.slice va vn vc).ownBlock = some g → w4.heap.size ≤ g
theorem qb_step {w4 wr w10 w5 : World} {bn : Nat} {x1 x2 x3 x4 x5 x6 : Value} {T EL : TypeId} {f : List (List UInt8 × Int)} {j : Nat} {va : Option Addr} {vn vc : Nat} {x : List UInt8 × Int} {b5 : Option Addr} {c5 : Nat}
    (HU : Upto [bn] w4 wr) (hlt : bn < w4.heap.size) (hbk : wr.heap[bn]? = some (.cells #[.slice va vn vc, x1, x2, x3, x4, x5, x6] T (0, 0))) (hown : ∀ g, (Value.slice va vn vc).ownBlock = some g → w4.heap.size ≤ g)
    (hu : Upto [] wr w10) (htk : f.take (j + 1) = f.take j ++ [x]) (ho5 : w5.ownsRow 0 EL 2 (.slice b5 (j + 1) c5) (j + 1) ((f.take j).flatMap varC ++ [.string ⟨x.1.toArray⟩, .int .i64 x.2])) (hu5 : Upto (Value.slice va vn vc).ownBlock.toList w10 w5)
    (hw5 : ∀ g, (Value.slice b5 (j + 1) c5).ownBlock = some g → (Value.slice va vn vc).ownBlock = some g ∨ w10.heap.size ≤ g) :
    w5.heap[bn]? = some (.cells #[.slice va vn vc, x1, x2, x3, x4, x5, x6] T (0, 0)) ∧ QbI w4 bn x1 x2 x3 x4 x5 x6 T EL f (j + 1) (w5.setCell ⟨bn, 0, none⟩ (.slice b5 (j + 1) c5)) := by
  have hb5 := hu5.at (hu.at hbk (by simp)) (fun hm => by have := hown _ (Option.mem_toList.1 hm); omega)
  have hst : Upto [bn] w5 (w5.setCell ⟨bn, 0, none⟩ (.slice b5 (j + 1) c5)) := (Upto.refl [bn] w5).setCell (p := ⟨bn, 0, none⟩) (Or.inl (by simp)) _
  have h1 := HU.size
  have h2 := hu.size
  have hnew : ∀ g, (Value.slice b5 (j + 1) c5).ownBlock = some g → w4.heap.size ≤ g := fun g hg => by
    rcases hw5 g hg with h | h
    · exact hown g h
    · omega
  refine ⟨hb5, ?_, b5, j + 1, c5, ?_, ?_, hnew⟩
  · exact ((HU.trans_ext hu).trans hu5 (fun k hk => Or.inr (hown k (Option.mem_toList.1 hk)))).setCell (p := ⟨bn, 0, none⟩) (Or.inl (by simp)) _
  · simpa using set_same hb5 0 (.slice b5 (j + 1) c5)
  · rw [htk, List.flatMap_append]
    exact ownsRow_upto ho5 hst (fun g hg => by have := hnew g hg; simp; omega)
theorem set7_up {S : List Nat} {a w : World} {R : Nat} (h : Upto S a w) (hR : R ∈ S ∨ a.heap.size ≤ R) (v0 v1 v2 v3 v4 v5 v6 : Value) : Upto S a (((((((w.setCell ⟨R, 0, none⟩ v0).setCell ⟨R, 1, none⟩ v1).setCell ⟨R, 2, none⟩ v2).setCell ⟨R, 3, none⟩ v3).setCell ⟨R, 4, none⟩ v4).setCell ⟨R, 5, none⟩ v5).setCell ⟨R, 6, none⟩ v6) :=
  ((((((h.setCell (p := ⟨R, 0, none⟩) hR v0).setCell (p := ⟨R, 1, none⟩) hR v1).setCell (p := ⟨R, 2, none⟩) hR v2).setCell (p := ⟨R, 3, none⟩) hR v3).setCell (p := ⟨R, 4, none⟩) hR v4).setCell (p := ⟨R, 5, none⟩) hR v5).setCell (p := ⟨R, 6, none⟩) hR v6
theorem set7_at {w : World} {R : Nat} {a0 a1 a2 a3 a4 a5 a6 : Value} {T : TypeId} {z : Nat × Nat} (h : w.heap[R]? = some (.cells #[a0, a1, a2, a3, a4, a5, a6] T z)) (v0 v1 v2 v3 v4 v5 v6 : Value) : (((((((w.setCell ⟨R, 0, none⟩ v0).setCell ⟨R, 1, none⟩ v1).setCell ⟨R, 2, none⟩ v2).setCell ⟨R, 3, none⟩ v3).setCell ⟨R, 4, none⟩ v4).setCell ⟨R, 5, none⟩ v5).setCell ⟨R, 6, none⟩ v6).heap[R]? = some (.cells #[v0, v1, v2, v3, v4, v5, v6] T z) := by
  have := set_same (set_same (set_same (set_same (set_same (set_same (set_same h 0 v0) 1 v1) 2 v2) 3 v3) 4 v4) 5 v5) 6 v6
  simpa using this
theorem qb_end {w W2 w3 w4 wr : World} {bn R : Nat} {x1 x2 x3 x4 x5 x6 : Value} {EL : TypeId} {q : Qn} {va : Option Addr} {vn vc : Nat} (hW : Upto [] w W2) (hR : w.heap.size ≤ R ∧ R < W2.heap.size) (h3 : Upto [] W2 w3) (hb : bn = w3.heap.size) (h4 : Upto [] w3 w4) (HU : Upto [bn] w4 wr) (hlt : bn < w4.heap.size)
    (hn : NdV w3 (New W2) q.body (.agg #[x1, x2, x3, x4, x5, x6])) (hrow : wr.ownsRow 0 EL 2 (.slice va vn vc) q.free.length (q.free.flatMap varC)) (hown : ∀ g, (Value.slice va vn vc).ownBlock = some g → w4.heap.size ≤ g) :
    QuPost w q (.returned (.agg #[.slice va vn vc, x1, x2, x3, x4, x5, x6])) (((((((wr.setCell ⟨R, 0, none⟩ (.slice va vn vc)).setCell ⟨R, 1, none⟩ x1).setCell ⟨R, 2, none⟩ x2).setCell ⟨R, 3, none⟩ x3).setCell ⟨R, 4, none⟩ x4).setCell ⟨R, 5, none⟩ x5).setCell ⟨R, 6, none⟩ x6) := by
  have hst := set7_up (R := R) (Upto.refl [R] wr) (Or.inl (by simp)) (.slice va vn vc) x1 x2 x3 x4 x5 x6
  have s1 := hW.size
  have s2 := h3.size
  have s3 := h4.size
  have hold : Upto [] w wr := ((hW.trans_ext h3).trans_ext h4).trans HU (fun k hk => by simp at hk; subst hk; right; omega)
  refine ⟨_, rfl, ⟨_, _, _, _, _, _, _, rfl, ?_, ?_⟩, set7_up hold (Or.inr hR.1) ..⟩
  · exact SlP.upto (slP_rowN (P := fun g => w4.heap.size ≤ g) hrow hown) hst (fun b hb2 _ => by simp; omega) |>.mono (fun b hb2 _ => by unfold New; omega)
  · have k1 := hn.mono (Q := fun b => W2.heap.size ≤ b ∧ b < bn) (fun b hb2 hi => ⟨hb2, by have := hi.lt; omega⟩)
    have k2 := (k1.ext h4).upto HU (fun b hb2 _ => by have := hb2.2; simp; omega)
    exact (k2.upto hst (fun b hb2 _ => by have := hb2.1; simp; omega)).mono (fun b hb2 _ => by have := hb2.1; unfold New; omega)
set_option maxRecDepth 100000 in
set_option maxHeartbeats 6400000 in
theorem ofq_calls (q : Qn) (v : Value) (w : World) (P : Nat → Prop) (h : QnV w P q v) (hk : sizeF q.body ≤ 10000000) (hb : bigN q.body) (hl : q.free.length ≤ 10000000) : Calls Tryz.prog 30 #[v] w (QuPost w q) := by
  obtain ⟨f1, f3, o1, a1, a2, a3, s1, n1, m1, l1, l2, l3, rfl, hv, hn⟩ := h.open
  have hu2 : Upto [] w ((w.alloc (.cells #[.slice f1 q.free.length f3, .int .i64 o1, .slice a1 a2 a3, .int .i64 s1, .int .i64 n1, .int .i64 m1, .slice l1 l2 l3] 50)).alloc (.cells #[.slice none 0 0, .int .i64 0, .slice none 0 0, .int .i64 0, .int .i64 0, .int .i64 0, .slice none 0 0] 53)) := ((Upto.refl [] w).alloc _).alloc _
  have HU2 := Lib.hid hu2
  have hb1 := alloc_old (new_at w (.cells #[.slice f1 q.free.length f3, .int .i64 o1, .slice a1 a2 a3, .int .i64 s1, .int .i64 n1, .int .i64 m1, .slice l1 l2 l3] 50)) (.cells #[.slice none 0 0, .int .i64 0, .slice none 0 0, .int .i64 0, .int .i64 0, .int .i64 0, .slice none 0 0] 53)
  have hb2 := new_at1 w (.cells #[.slice f1 q.free.length f3, .int .i64 o1, .slice a1 a2 a3, .int .i64 s1, .int .i64 n1, .int .i64 m1, .slice l1 l2 l3] 50) (.cells #[.slice none 0 0, .int .i64 0, .slice none 0 0, .int .i64 0, .int .i64 0, .int .i64 0, .slice none 0 0] 53)
  have HB1 := Lib.hid hb1
  have HB2 := Lib.hid hb2
  have HG := Lib.hid (vars_slice hv)
  have HC := Lib.hid (of_calls _ q.body (Nat.le_refl _) hk hb P _ _ (hn.ext hu2))
  obtain ⟨xa0, xa1, xa2, xa3, xa4, xa5, xa6⟩ := cells7 hb1
  obtain ⟨ya0, ya1, ya2, ya3, ya4, ya5, ya6⟩ := frees7 hb2
  have hL0 : (0 : Int) ≤ q.free.length := by omega
  have hL1 : (q.free.length : Int) ≤ 10000000 := by omega
  clear h hv hn hb hu2 hb1 hb2 hk
  go_enter Tryz.func30, Tryz.ntmps30
  go_wp2_with fail
  refine HC.out.mono ?_
  rintro e w3 ⟨v3, rfl, hn3, hu3⟩
  obtain ⟨ro, rn1, rn2, rn3, rs, rm, rq, rl1, rl2, rl3, rfl⟩ := hn3.six
  have HN3 := Lib.hid hn3
  have HU3 := Lib.hid hu3
  have hua : Upto [] w3 (w3.alloc (.cells #[.slice none 0 0, .int .i64 ro, .slice rn1 rn2 rn3, .int .i64 rs, .int .i64 rm, .int .i64 rq, .slice rl1 rl2 rl3] 53)) := (Upto.refl [] w3).alloc _
  have HUA := Lib.hid hua
  have hbn := new_at w3 (.cells #[.slice none 0 0, .int .i64 ro, .slice rn1 rn2 rn3, .int .i64 rs, .int .i64 rm, .int .i64 rq, .slice rl1 rl2 rl3] 53)
  have HI0 : Hid (QbI (w3.alloc (.cells #[.slice none 0 0, .int .i64 ro, .slice rn1 rn2 rn3, .int .i64 rs, .int .i64 rm, .int .i64 rq, .slice rl1 rl2 rl3] 53)) w3.heap.size (.int .i64 ro) (.slice rn1 rn2 rn3) (.int .i64 rs) (.int .i64 rm) (.int .i64 rq) (.slice rl1 rl2 rl3) 53 86 q.free 0 (w3.alloc (.cells #[.slice none 0 0, .int .i64 ro, .slice rn1 rn2 rn3, .int .i64 rs, .int .i64 rm, .int .i64 rq, .slice rl1 rl2 rl3] 53))) := Lib.hid ⟨Upto.refl _ _, none, 0, 0, hbn, by simpa using World.ownsRow_nil _ 0 86 2, by intro g hg; cases hg⟩
  have HLT : Hid (w3.heap.size < (w3.alloc (.cells #[.slice none 0 0, .int .i64 ro, .slice rn1 rn2 rn3, .int .i64 rs, .int .i64 rm, .int .i64 rq, .slice rl1 rl2 rl3] 53)).heap.size) := Lib.hid (by simp)
  have HQ4 := Lib.hid (hua.at (hu3.at HB1.out (by simp)) (by simp))
  have HR4 := Lib.hid (hua.at (hu3.at HB2.out (by simp)) (by simp))
  have HWS : Hid (w.heap.size + 1 < w3.heap.size) := Lib.hid (lt_of_heap (hu3.at HB2.out (by simp)))
  have HW4 := Lib.hid ((HU2.out.trans_ext hu3).trans_ext hua)
  clear hn3 hu3 hua hbn
  go_wp2_with fail
  generalize hw4 : w3.alloc (.cells #[.slice none 0 0, .int .i64 ro, .slice rn1 rn2 rn3, .int .i64 rs, .int .i64 rm, .int .i64 rq, .slice rl1 rl2 rl3] 53) = w4 at *
  obtain ⟨bn, hbn, HBN⟩ : ∃ bn, bn = w3.heap.size ∧ Hid (bn = w3.heap.size) := ⟨_, rfl, Lib.hid rfl⟩
  rw [← hbn] at HI0 HLT ⊢
  clear hw4 hbn
  go_loopw [4] (fun v wr => ∃ j : Nat, j ≤ q.free.length ∧ v = .int .i64 j ∧ Hid (QbI w4 bn (.int .i64 ro) (.slice rn1 rn2 rn3) (.int .i64 rs) (.int .i64 rm) (.int .i64 rq) (.slice rl1 rl2 rl3) 53 86 q.free j wr)) (fun v _ => q.free.length - (intOf v).toNat)
  case atStart => exact ⟨0, by omega, rfl, HI0⟩
  case round =>
    obtain ⟨j, hj, rfl, HI⟩ := hrel
    have hj0 : (0 : Int) ≤ j := by omega
    obtain ⟨va, vn, vc, hbk, hrow, hown⟩ := HI.out.st
    obtain ⟨va', vc', hve, -⟩ := ownsRow_len hrow
    simp only [Value.slice.injEq] at hve
    obtain rfl : vn = j := hve.2.1
    clear hve
    have hq := HI.out.up.at HQ4.out (by have h1 := HBN.out; have h2 := HWS.out; simp; omega)
    have HWR : Hid (Upto [] w wr) := Lib.hid (HW4.out.trans HI.out.up (fun k hk => by have h1 := HBN.out; have h2 := HWS.out; simp at hk; subst hk; right; omega))
    have z0 := cell_of hq 0
    have y0 := cell_of hbk 0
    have g0 := free_of hbk 0
    simp only [List.getElem?_toArray, List.getElem?_cons_zero] at z0 y0
    rcases Nat.lt_or_ge vn q.free.length with hlt | hge
    · have hltI : (vn : Int) < q.free.length := by omega
      obtain ⟨x, hx⟩ : ∃ x, q.free[vn]? = some x := ⟨_, List.getElem?_eq_getElem hlt⟩
      have HTK : Hid (q.free.take (vn + 1) = q.free.take vn ++ [x]) := Lib.hid (by rw [List.take_add_one, hx]; rfl)
      obtain ⟨g, o, rfl, c0, c1⟩ := HG.out vn x hx
      obtain ⟨x1, x2⟩ := x
      simp only at c0 c1
      replace c0 := up_cell HWR.out c0
      replace c1 := up_cell HWR.out c1
      have HROW := Lib.hid hrow
      have HBK := Lib.hid hbk
      have HOWN := Lib.hid hown
      clear hrow hbk hown hq hx
      go_wp2_with fail
      have e0 : ∀ u : Ext wr, u.w.cell? ⟨bn, 0, none⟩ = some (.slice va vn vc) := fun u => u.cell y0
      have e1 : ∀ u : Ext wr, u.w.cell? ⟨w.heap.size, 0, none⟩ = some _ := fun u => u.cell z0
      have k0 : ∀ u : Ext wr, u.w.cell? ⟨g, o + vn * 2, none⟩ = some _ := fun u => u.cell c0
      have k1 : ∀ u : Ext wr, u.w.cell? ⟨g, o + vn * 2 + 1, none⟩ = some _ := fun u => u.cell c1
      clear z0 y0 g0 c0 c1
      refine wp_region_seg_at [15] [] [0, 1, 2, 3, 4, 5, 6, 7, 8, 9, 10, 11, 12, 13, 14, 15] [16, 17, 18] 16 (by kernel_rfl) (by kernel_rfl) (by kernel_rfl) ?_
      iterate 15 (refine seg_plain rfl rfl rfl rfl rfl ?_; intro K' hK'; go_big_quiet_op; go_big_quiet_on)
      refine seg_opq (Y := Nat) (fun b => .slice (some ⟨b, 0, none⟩) 1 1) (fun b u => u.heap[b]? = some (.cells #[.string ⟨x1.toArray⟩, .int .i64 x2] 86 (0, 0))) (fun _ => []) rfl rfl rfl rfl (fun _ _ _ h hu => hu.at h (by simp)) (fun _ => List.nodup_nil) (fun w' post hu hd hp => (congrArg (opqUpon Tryz.prog post) (show _ = Result.ok (Next.value (.slice (some ⟨w'.heap.size, 0, none⟩) 1 1)) (w'.alloc (.cells #[.string ⟨x1.toArray⟩, .int .i64 x2] 86)) from by go_simp)).mpr (hp w'.heap.size _ ((Upto.refl [] w').alloc _) (new_at _ _) (fun b hb => by cases hb))) ?_
      intro b8
      simp only [Act.put, List.setIfInBounds_toArray, List.set_cons_zero, List.set_cons_succ]
      intro w10 hg
      have HU10 := Lib.hid hg.up
      have HB8 : Hid (w10.heap[b8]? = some (.cells #[.string ⟨x1.toArray⟩, .int .i64 x2] 86 (0, 0))) := Lib.hid hg.hold.1
      simp only [List.drop_succ_cons, List.drop_zero]
      clear hg e0 e1 k0 k1
      have HRR := Lib.hid (ownsRow_upto HROW.out HU10.out (by simp))
      obtain ⟨i1, hi1, hy0, hy1, hy2⟩ := infoV86
      have HA := Lib.hid (fun b5 c5 w5 (ho5 : w5.ownsRow 0 86 2 (.slice b5 (vn + 1) c5) (vn + 1) ((q.free.take vn).flatMap varC ++ [.string ⟨x1.toArray⟩, .int .i64 x2])) (hu5 : Upto (Value.slice va vn vc).ownBlock.toList w10 w5) (hw5 : ∀ g, (Value.slice b5 (vn + 1) c5).ownBlock = some g → (Value.slice va vn vc).ownBlock = some g ∨ w10.heap.size ≤ g) => qb_step (x := (x1, x2)) HI.out.up HLT.out HBK.out HOWN.out HU10.out HTK.out ho5 hu5 hw5)
      go_wp2_with (at_builtin
                   refine wpList_app _ rfl (.tmp 17) (.tmp 31) 51 rfl 86 i1 (.agg #[.string ⟨#[]⟩, .int .i64 0]) 2 24 Tryz.underlying51 hi1 hy0 hy1 hy2 rfl (by decide) (.slice va vn vc) vn ((q.free.take vn).flatMap varC) rfl HRR.out ⟨b8, 0, none⟩ 1 1 [.string ⟨x1.toArray⟩, .int .i64 x2] rfl rfl (two_at HB8.out) (by simp [Value.oneCell']) (by unfold maxLen; omega) (by omega) ?_
                   intro b5 c5 w5 ho5 hu5 hw5
                   obtain ⟨hbk5, hI5⟩ := HA.out b5 c5 w5 ho5 hu5 hw5
                   have y5 := cell_of hbk5 0
                   have g5 := free_of hbk5 0
                   simp only [List.getElem?_toArray, List.getElem?_cons_zero] at y5
                   have HI5 := Lib.hid hI5
                   clear ho5 hu5 hw5 hbk5 hI5)
      go_roundw
      case rel => exact ⟨vn + 1, by omega, by go_num, HI5⟩
      case measure => simp [intOf]; omega
    · have hgeI : ¬ (vn : Int) < q.free.length := by omega
      have HROW := Lib.hid hrow
      have HOWN := Lib.hid hown
      have hr := HI.out.up.at HR4.out (by have h1 := HBN.out; have h2 := HWS.out; simp; omega)
      obtain ⟨pa0, pa1, pa2, pa3, pa4, pa5, pa6⟩ := cells7 hbk
      obtain ⟨pf0, pf1, pf2, pf3, pf4, pf5, pf6⟩ := frees7 hbk
      obtain ⟨ra0, ra1, ra2, ra3, ra4, ra5, ra6⟩ := cells7 hr
      obtain ⟨rf0, rf1, rf2, rf3, rf4, rf5, rf6⟩ := frees7 hr
      have HEND := Lib.hid (qb_end (q := q) (R := w.heap.size + 1) HU2.out ⟨by omega, by simp⟩ HU3.out HBN.out HUA.out HI.out.up HLT.out HN3.out (by have := HROW.out; rw [List.take_of_length_le (by omega)] at this; rwa [show vn = q.free.length by omega] at this ⊢) HOWN.out)
      have HR := Lib.hid hr
      clear hrow hown hbk hq hr
      go_wp2_with fail
      have hst := set7_at HR.out (.slice va vn vc) (.int .i64 ro) (.slice rn1 rn2 rn3) (.int .i64 rs) (.int .i64 rm) (.int .i64 rq) (.slice rl1 rl2 rl3)
      obtain ⟨q0, q1, q2, q3, q4, q5, q6⟩ := cells7 hst
      exact bodyPost_ret (v := .agg #[.slice va vn vc, .int .i64 ro, .slice rn1 rn2 rn3, .int .i64 rs, .int .i64 rm, .int .i64 rq, .slice rl1 rl2 rl3]) (by simp [results, Tryz.results30, go_sem, q0, q1, q2, q3, q4, q5, q6]) rfl HEND.out
end Go.Proofs.YtbnebkkpmcjmbaaGreatDoor


namespace Go.Proofs.YtbnebkkpmcjmbaaGreatDoor
open Go.RowKit Go.PL Go.Maps
theorem eq_var90 (p q : List UInt8) (b d : Int) (w : World) : (Op.equalIn 10000 90 (.agg #[.string ⟨p.toArray⟩, .int .i64 b]) (.agg #[.string ⟨q.toArray⟩, .int .i64 d])).run Tryz.prog w = .ok (decide (p = q) && decide (b = d)) w := by
  have u9 := Tryz.underlying9
  have a9 := Tryz.isAgg9
  have z9 := Tryz.sizeOf9
  have u3 := Tryz.underlying3
  have a3 := Tryz.isAgg3
  have z3 := Tryz.sizeOf3
  have hS : Tryz.prog.underlying 90 = some (.struct (Tryz.prog.fieldsOf 90)) := by kernel_rfl
  have hp : Tryz.prog.stoodInHeld 90 = false := by kernel_rfl
  rw [show (10000 : Nat) = 9999 + 1 from rfl, run_equalIn_agg w 9999 90 _ _ hS hp]
  simp only [Program.fieldsOf, Tryz.underlying90]
  go_simp
  by_cases h1 : p = q <;> by_cases h2 : b = d <;> simp [h1, h2]
theorem eq_var86 (p q : List UInt8) (b d : Int) (w : World) : (Op.equalIn 10000 86 (.agg #[.string ⟨p.toArray⟩, .int .i64 b]) (.agg #[.string ⟨q.toArray⟩, .int .i64 d])).run Tryz.prog w = .ok (decide (p = q) && decide (b = d)) w := by
  have u9 := Tryz.underlying9
  have a9 := Tryz.isAgg9
  have z9 := Tryz.sizeOf9
  have u3 := Tryz.underlying3
  have a3 := Tryz.isAgg3
  have z3 := Tryz.sizeOf3
  have hS : Tryz.prog.underlying 86 = some (.struct (Tryz.prog.fieldsOf 86)) := by kernel_rfl
  have hp : Tryz.prog.stoodInHeld 86 = false := by kernel_rfl
  rw [show (10000 : Nat) = 9999 + 1 from rfl, run_equalIn_agg w 9999 86 _ _ hS hp]
  simp only [Program.fieldsOf, Tryz.underlying86]
  go_simp
  by_cases h1 : p = q <;> by_cases h2 : b = d <;> simp [h1, h2]
end Go.Proofs.YtbnebkkpmcjmbaaGreatDoor


namespace Go.Proofs.YtbnebkkpmcjmbaaGreatDoor
open Go.RowKit Go.PL Go.Maps Go.Shelf
set_option maxRecDepth 100000 in
set_option maxHeartbeats 2000000 in
theorem mcloneT_calls (b : Nat) (es : Array MapEntry) (clock : Nat) (w : World) (hb : w.heap[b]? = some (.map es clock)) :
    Calls Tryz.prog 86 #[.map (some b)] w fun e w' => e = .returned (.map (some w.heap.size)) ∧ w' = w.alloc (.map es clock) := by
  have hq := fun w => run_eql_map_nil_sl (P := Tryz.prog) w 88 _ _ (some b) Tryz.underlying88
  go_enter Tryz.func86, Tryz.ntmps86
  go_wp2
  rw [run_callFunc_extern Tryz.func98 (by kernel_rfl) (by kernel_rfl) (by kernel_rfl) (e := Extern.MapsClone.clone) (by kernel_rfl), run_maps_clone_sl w 88 hb]
  simp only [Result.andThen]
  rw [Oper.upon_value]
  go_wp2
  rw [run_typeAssert_map_sl _ 88 20 _ _ _ Tryz.underlying88]
  simp only [Result.andThen]
  rw [Oper.upon_value]
  go_wp2
  go_ret
  exact ⟨rfl, rfl⟩
end Go.Proofs.YtbnebkkpmcjmbaaGreatDoor


namespace Go.Proofs.YtbnebkkpmcjmbaaGreatDoor
open Go.RowKit Go.PL Go.Maps
set_option maxRecDepth 100000 in
set_option maxHeartbeats 3200000 in
theorem vclone0_calls (xs : List Value) (a : Option Addr) (n c : Nat) (w : World) (P : Nat → Prop) (hn : xs.length = n * 2) (hN : n ≤ 10000000) (hx : ∀ u ∈ xs, u.oneCell' = true) (h : SlP w P (.slice a n c) n xs) : Calls Tryz.prog 63 #[.slice a n c] w fun e w' => ∃ a' c', e = .returned (.slice a' n c') ∧ SlP w' (Nu w w') (.slice a' n c') n xs ∧ Upto [] w w' := by
  have q22 : ∀ (w : World) (a : Option Addr) (n c n' c' : Nat), (binOp .eql 51 (.slice a n c) (.slice none n' c')).run Tryz.prog w = .ok (.bool a.isNone) w := fun w a n c n' c' => Lib.run_eql_slice_nil w _ _ a n c n' c' Tryz.underlying51
  cases a with
  | none =>
    have hn0 : n = 0 := by
      rcases h with ⟨h0, -⟩ | ⟨g, o, c, h0, -⟩
      · exact h0
      · cases h0
    subst hn0
    have hx0 : xs = [] := List.eq_nil_of_length_eq_zero hn
    subst hx0
    clear h hx
    go_enter Tryz.func63, Tryz.ntmps63
    go_wp2
    go_ret
    exact ⟨none, 0, rfl, Or.inl ⟨rfl, rfl, none, 0, rfl⟩, Upto.refl _ _⟩
  | some ad =>
    obtain ⟨i0, hi, hz0, hz1, hz2⟩ := infoV86
    have A : Aside (∀ j u, xs[j]? = some u → w.cell? (ad.add j) = some u) := by
      intro j u hj
      rcases h with ⟨-, h0, -⟩ | ⟨g, o, c, h0, -, hc⟩
      · subst h0; cases hj
      · simp only [Value.slice.injEq, Option.some.injEq] at h0
        obtain ⟨h0, -, -⟩ := h0
        subst h0
        rw [Addr.add_lit]
        exact hc j u hj
    have HX := Lib.hid hx
    have HN := Lib.hid hn
    clear h hx hn
    go_enter Tryz.func63, Tryz.ntmps63
    go_wp2_with (at_builtin; refine wpList_append_own _ rfl _ _ 51 rfl w.heap.size 86 i0 (.agg #[.string ⟨#[]⟩, .int .i64 0]) 2 24 Tryz.underlying51 hi hz0 hz1 hz2 rfl (by decide) _ _ _ rfl (World.ownsRow_made w #[] 0 (Nat.le_refl _) (Nat.zero_le _) rfl) ad n c xs rfl ?qc1 ?qc2 ?qc3 ?qc4 ?qc5 ?qc6 ?_)
    case qc1 => have := HN.out; omega
    case qc2 =>
      intro j u hj
      exact Lib.cell?_alloc_some _ (A.out j u hj)
    case qc3 => exact HX.out
    case qc4 => unfold maxLen; omega
    case qc5 => omega
    case qc6 => simp
    intro v' w1 hown hgrow _
    obtain ⟨a', c', rfl, -⟩ := ownsRow_len hown
    have hup : Upto [] w w1 := ((Upto.refl [] w).alloc _).grown hgrow (by intro k hk; simp [Value.ownBlock] at hk; omega)
    have hsl : SlP w1 (Nu w w1) (.slice a' n c') n xs := by
      have hown2 : w1.ownsRow w.heap.size 86 2 (.slice a' n c') n xs := by simpa using hown
      have hnu : ∀ g, (Value.slice a' n c').ownBlock = some g → Nu w w1 g := fun g hg => by
        rcases hown2.2 with ⟨e, -⟩ | ⟨g', cap, cur, e, hge, hh, -⟩
        · rw [e] at hg; cases hg
        · rw [e] at hg
          simp [Value.ownBlock] at hg
          subst hg
          exact ⟨hge, _, _, hh⟩
      exact slP_rowN (e := 86) ⟨hown2.1, hown2.2.imp id (fun ⟨g, cap, cur, h1, h2, h3⟩ => ⟨g, cap, cur, h1, Nat.zero_le _, h3⟩)⟩ hnu
    clear hown hgrow
    have HF := Lib.hid (And.intro hsl hup)
    clear hsl hup
    go_wp2
    go_ret
    exact ⟨a', c', by simp, HF.out.1, HF.out.2⟩
theorem vclone_calls (out : List (List UInt8 × Int)) (v : Value) (w : World) (P : Nat → Prop) (hN : out.length ≤ 10000000) (h : VarsV w P v out) : Calls Tryz.prog 63 #[v] w fun e w' => ∃ v', e = .returned v' ∧ VarsV w' (Nu w w') v' out ∧ Upto [] w w' := by
  have h0 := h
  unfold VarsV at h0
  obtain ⟨a, c, rfl⟩ := h0.len
  have hlen : ∀ l : List (List UInt8 × Int), (l.flatMap varC).length = l.length * 2 := fun l => by
    induction l with
    | nil => rfl
    | cons x r ih => rw [List.flatMap_cons, List.length_append, ih, List.length_cons]; show 2 + _ = _; omega
  refine (vclone0_calls (out.flatMap varC) a out.length c w P (hlen out) hN (fun u hu => ?_) h0).mono (fun e w' ⟨a', c', h1, h2, h3⟩ => ⟨_, h1, h2, h3⟩)
  obtain ⟨x, -, hx⟩ := List.mem_flatMap.1 hu
  unfold varC at hx
  simp only [List.mem_cons, List.not_mem_nil, or_false] at hx
  rcases hx with rfl | rfl <;> rfl
end Go.Proofs.YtbnebkkpmcjmbaaGreatDoor

