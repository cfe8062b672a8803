/- Texts merged, in build order: Cm, Cn, Cn2, Ga, Z1, Gb, Ka, Kb, Kc, Kd, Gd, Ge, Hp, Wa, Ta. -/
import Derived.Test.YtbnebkkpmcjmbaaGreatDoorMSub
import Derived.Test.YtbnebkkpmcjmbaaGreatDoorRows
import Derived.WalkKit
import Derived.WalkSpells
import Derived.WalkLawsBesides
import Derived.Maps.OwnSet
import Derived.Lib.Hide
import Derived.Laws.BytesArg
import Derived.Deep.QuietTactic
import Derived.BigQuiet
import Derived.Test.YtbnebkkpmcjmbaaGreatDoorProg
import Derived.Shelf.Small.Strs
import Derived.Shelf.LaysM
import Derived.Shelf.Strings.SplitShaped
import Derived.Deep.DeepCutAuto
import Derived.Deep.CutBlock
import Derived.Lib.Strings
import Derived.Lib.Walk
import Derived.Lib.ConvBytes
import Derived.Lib.ParseIntBMem
import Derived.Lib.AtoiErrMem
import Derived.Lib.BufferWrite
import Derived.Lib.UnsafeStr
import Derived.Lib.IfaceEq
import Derived.Laws.MakeOwn
import Derived.Laws.Strings3
import Derived.Laws.Closers25
import Derived.Laws.Closers25b
import Derived.RegionTactic
import Derived.Deep.RegionWith
import Derived.BigCall
import Derived.BigGuard
import Derived.Lib.AppendIntMem
import Derived.Carry
import Derived.OrdersHeld
import Derived.Deep.RegionHeld3
import Derived.Shelf.Strconv.Itoa3
import Derived.Shelf.Slices.Turned
import Derived.Shelf.Slices.Clone
import Derived.Deep.RegionLaw
import Derived.Lib.ItoaNum
import Derived.RangeFuncNested
import Derived.RangeFuncBound
import Derived.RangeFuncCalls
import Derived.RangeFuncLeaves
import Derived.RangeFuncBox
import Derived.Shelf.Abstract
import Derived.OwnWalkIn
import Derived.TacticsInMore
import Derived.LoopNIn
import Derived.LoopIn
import Derived.Laws.EntriesVeiled
import Derived.Laws.AppendOwn
namespace Go.Proofs.YtbnebkkpmcjmbaaGreatDoor
open Go.RowKit Go.PL Go.Maps
def ClPost (w : World) (nd : Nd) (e : Ending) (w' : World) : Prop := ∃ v, e = .returned v ∧ NdV w' (Nu w w') nd v ∧ Upto [] w w'
/-- a slice of one's own that holds these formulas -/
structure ClRow (w0 w : World) (B : Nat) (c : Nat → Nat → Value) (v : Value) (ms : List Nd) : Prop where
  row : w.ownsRow 0 30 6 v ms.length (cellsN c ms.length)
  nd : ∀ i m, ms[i]? = some m → NdV w (Lu w0 w B v) m (.agg #[c i 0, c i 1, c i 2, c i 3, c i 4, c i 5])
  own : ∀ g, v.ownBlock = some g → w0.heap.size ≤ g ∧ g ≠ B
theorem ClRow.upto {w0 w w' : World} {S : List Nat} {B : Nat} {c : Nat → Nat → Value} {v : Value} {ms : List Nd} (h : ClRow w0 w B c v ms) (hu : Upto S w w') (hS : ∀ k ∈ S, k < w0.heap.size ∨ k = B) : ClRow w0 w' B c v ms :=
  ⟨ownsRow_upto h.row hu (fun g hg hm => by have h1 := h.own g hg; rcases hS g hm with h2 | h2 <;> omega),
   fun i m hi => NdV.keep ⟨hu.size, fun b hb hl => by
     have hne : b ∉ S := fun hm => by
       have h1 := hb.1.1
       unfold New at h1
       rcases hS b hm with h2 | h2
       · omega
       · exact hb.1.2.1 h2
     exact ⟨⟨hb.1, hb.2.stay (hu.block b hl.lt hne)⟩, hu.block b hl.lt hne⟩⟩ _ _ (h.nd i m hi), h.own⟩
theorem ClRow.app {w0 w w5 : World} {B : Nat} {c : Nat → Nat → Value} {v : Value} {ms : List Nd} {m : Nd} {v0 v1 v2 v3 v4 v5 : Value} {b' : Option Addr} {c' : Nat} (h : ClRow w0 w B c v ms) (hsz : w0.heap.size ≤ w.heap.size) (hBw : B < w.heap.size)
    (hm : NdV w (Lu w0 w B v) m (.agg #[v0, v1, v2, v3, v4, v5])) (ho : w5.ownsRow 0 30 6 (.slice b' (ms.length + 1) c') (ms.length + 1) (cellsN c ms.length ++ [v0, v1, v2, v3, v4, v5])) (hu : Upto v.ownBlock.toList w w5)
    (hw : ∀ g, (Value.slice b' (ms.length + 1) c').ownBlock = some g → v.ownBlock = some g ∨ w.heap.size ≤ g) : ClRow w0 w5 B (addC c ms.length v0 v1 v2 v3 v4 v5) (.slice b' (ms.length + 1) c') (ms ++ [m]) := by
  have key : ∀ x u, NdV w (Lu w0 w B v) x u → NdV w5 (Lu w0 w5 B (.slice b' (ms.length + 1) c')) x u := fun x u hx =>
    NdV.keep ⟨hu.size, fun b hb hl => by
      have hs := hu.block b hl.lt (fun hmm => hb.1.2.2 (Option.mem_toList.1 hmm))
      refine ⟨⟨⟨hb.1.1, hb.1.2.1, fun e => ?_⟩, hb.2.stay hs⟩, hs⟩
      rcases hw b e with h1 | h1
      · exact hb.1.2.2 h1
      · have := hl.lt; omega⟩ x u hx
  refine ⟨?_, ?_, ?_⟩
  · rw [List.length_append, List.length_singleton, cellsN_add]
    exact ho
  · intro i x hi
    by_cases hlt : i < ms.length
    · rw [List.getElem?_append_left hlt] at hi
      have := key _ _ (h.nd i x hi)
      simpa [addC, Nat.ne_of_lt hlt] using this
    · rw [List.getElem?_append_right (by omega)] at hi
      cases hd : i - ms.length with
      | zero =>
        rw [hd] at hi
        simp at hi
        subst hi
        have : i = ms.length := by omega
        subst this
        simpa [addC] using key _ _ hm
      | succ z => rw [hd] at hi; simp at hi
  · intro g hg
    rcases hw g hg with h1 | h1
    · exact h.own g h1
    · exact ⟨by omega, by omega⟩
/-- the row, as a formula's list -/
theorem ClRow.list {w0 w : World} {B : Nat} {c : Nat → Nat → Value} {v : Value} {ms : List Nd} {Q : Nat → Prop} (h : ClRow w0 w B c v ms) (h1 : ∀ b, Lu w0 w B v b → Q b) (h2 : ∀ g, v.ownBlock = some g → Unf w g → Q g) : (ms = [] ∧ ∃ a c, v = .slice a 0 c) ∨ ∃ g o c, v = .slice (some ⟨g, o, none⟩) ms.length c ∧ (Q g ∧ IsC w g) ∧ NdsV w Q g o ms := by
  rcases h.row.2 with ⟨e, h0⟩ | ⟨g, cap, cur, e, _, hh, _, _, _, ht⟩
  · exact Or.inl ⟨List.eq_nil_of_length_eq_zero h0, none, 0, e⟩
  · refine Or.inr ⟨g, 0, cap, e, ⟨h2 g (by rw [e]; rfl) ⟨_, _, hh⟩, _, _, _, hh⟩, nds_of ms 0 fun i x hi => ?_⟩
    have hil : i < ms.length := (List.getElem?_eq_some_iff.1 hi).1
    have cl : ∀ j, j < 6 → w.cell? ⟨g, 0 + i * 6 + j, none⟩ = some (c i j) := fun j hj => by
      rw [cell_of hh]
      have := cellsN_at c hil hj
      rw [← ht, List.getElem?_take] at this
      split at this
      · simpa using this
      · cases this
    exact ⟨_, _, _, _, _, _, cl 0 (by omega), cl 1 (by omega), cl 2 (by omega), cl 3 (by omega), cl 4 (by omega), cl 5 (by omega), (h.nd i x hi).mono fun b hb _ => h1 b hb⟩
/-- what stands between two rounds -/
structure ClI (w w9 : World) (bn : Nat) (op so nn mm : Int) (na : Option Addr) (nl nc : Nat) (l : List Nd) (j : Nat) (wr : World) : Prop where
  up : Upto [bn] w9 wr
  old : Upto [] w wr
  st : ∃ (va : Option Addr) (vn vc : Nat) (c : Nat → Nat → Value), wr.heap[bn]? = some (.cells #[.int .i64 op, .slice na nl nc, .int .i64 so, .int .i64 nn, .int .i64 mm, .slice va vn vc] 30 (0, 0)) ∧ ClRow w9 wr bn c (.slice va vn vc) (l.take j)
theorem ClI.ext {w w9 wr w2 : World} {bn : Nat} {op so nn mm : Int} {na : Option Addr} {nl nc : Nat} {l : List Nd} {j : Nat} (h : ClI w w9 bn op so nn mm na nl nc l j wr) (hu : Upto [] wr w2) : ClI w w9 bn op so nn mm na nl nc l j w2 := by
  obtain ⟨va, vn, vc, c, h1, h2⟩ := h.st
  exact ⟨h.up.trans_ext hu, h.old.trans_ext hu, va, vn, vc, c, hu.at h1 (by simp), h2.upto hu (by simp)⟩
theorem cl_step {w w9 wr w10 w5 : World} {bn : Nat} {op so nn mm : Int} {na : Option Addr} {nl nc : Nat} {l : List Nd} {vn : Nat} {va : Option Addr} {vc : Nat} {c : Nat → Nat → Value} {x : Nd} {v0 v1 v2 v3 v4 v5 : Value} {b5 : Option Addr} {c5 : Nat}
    (HI : ClI w w9 bn op so nn mm na nl nc l vn wr) (HLT : w.heap.size ≤ bn ∧ bn < w9.heap.size)
    (hbk : wr.heap[bn]? = some (.cells #[.int .i64 op, .slice na nl nc, .int .i64 so, .int .i64 nn, .int .i64 mm, .slice va vn vc] 30 (0, 0))) (hrow : ClRow w9 wr bn c (.slice va vn vc) (l.take vn))
    (hu : Upto [] wr w10) (hn : NdV w10 (Nu wr w10) x (.agg #[v0, v1, v2, v3, v4, v5])) (hjl : (l.take vn).length = vn) (htk : l.take (vn + 1) = l.take vn ++ [x])
    (ho5 : w5.ownsRow 0 30 6 (.slice b5 (vn + 1) c5) (vn + 1) (cellsN c vn ++ [v0, v1, v2, v3, v4, v5])) (hu5 : Upto (Value.slice va vn vc).ownBlock.toList w10 w5) (hw5 : ∀ g, (Value.slice b5 (vn + 1) c5).ownBlock = some g → (Value.slice va vn vc).ownBlock = some g ∨ w10.heap.size ≤ g) :
    w5.heap[bn]? = some (.cells #[.int .i64 op, .slice na nl nc, .int .i64 so, .int .i64 nn, .int .i64 mm, .slice va vn vc] 30 (0, 0)) ∧ ClI w w9 bn op so nn mm na nl nc l (vn + 1) (w5.setCell ⟨bn, 5, none⟩ (.slice b5 (vn + 1) c5)) := by
  have hown : ∀ g, g ∈ (Value.slice va vn vc).ownBlock.toList → w9.heap.size ≤ g ∧ g ≠ bn := fun g hg => hrow.own g (Option.mem_toList.1 hg)
  have hold : ∀ g, (Value.slice va vn vc).ownBlock = some g → g < wr.heap.size := fun g hg => by
    obtain ⟨cur, hh⟩ := ownsRow_block hrow.row hg
    exact lt_of_heap hh
  have hb5 := hu5.at (hu.at hbk (by simp)) (fun hm => (hown _ hm).2 rfl)
  have hst : Upto [bn] w5 (w5.setCell ⟨bn, 5, none⟩ (.slice b5 (vn + 1) c5)) := (Upto.refl [bn] w5).setCell (p := ⟨bn, 5, none⟩) (Or.inl (by simp)) _
  have hs9 := HI.up.size
  have hs10 := hu.size
  have hbw := lt_of_heap hbk
  refine ⟨hb5, ⟨?_, ?_, b5, vn + 1, c5, addC c vn v0 v1 v2 v3 v4 v5, ?_, ?_⟩⟩
  · exact ((HI.up.trans_ext hu).trans hu5 (fun k hk => Or.inr (hown k hk).1)).setCell (p := ⟨bn, 5, none⟩) (Or.inl (by simp)) _
  · exact ((HI.old.trans_ext hu).trans hu5 (fun k hk => Or.inr (by have := (hown k hk).1; omega))).setCell (p := ⟨bn, 5, none⟩) (Or.inr (by simp; omega)) _
  · have := set_same hb5 5 (.slice b5 (vn + 1) c5)
    simpa using this
  · have happ := ClRow.app (m := x) (v0 := v0) (v1 := v1) (v2 := v2) (v3 := v3) (v4 := v4) (v5 := v5) (b' := b5) (c' := c5) (w5 := w5) (hrow.upto hu (by simp)) (by omega) (by omega)
      (hn.mono (fun b hb _ => ⟨⟨by have := hb.1; unfold New at this ⊢; omega, by have := hb.1; unfold New at this; omega, fun e => by have := hold b e; have := hb.1; unfold New at this; omega⟩, hb.2⟩)) (by rw [hjl]; exact ho5) hu5 (by rw [hjl]; exact hw5)
    rw [hjl] at happ
    rw [htk]
    exact happ.upto hst (fun k hk => Or.inr (by simpa using hk))
theorem cl_end {w w9 wr : World} {bn : Nat} {op so nn mm : Int} {na : Option Addr} {nc : Nat} {names : List (List UInt8)} {l : List Nd} {vn : Nat} {va : Option Addr} {vc : Nat} {c : Nat → Nat → Value}
    (HI : ClI w w9 bn op so nn mm na names.length nc l vn wr) (HLT : w.heap.size = bn ∧ bn + 1 < w9.heap.size)
    (hsl : SlP w9 (fun b => Nu w w9 b ∧ b ≠ bn ∧ b ≠ bn + 1) (.slice na names.length nc) names.length (names.map sV))
    (hrow : ClRow w9 wr bn c (.slice va vn vc) (l.take vn)) (htk : l.take vn = l) (hll : l.length = vn) :
    ClPost w (.mk op names so nn mm l) (.returned (.agg #[.int .i64 op, .slice na names.length nc, .int .i64 so, .int .i64 nn, .int .i64 mm, .slice va vn vc])) ((((((wr.setCell ⟨w.heap.size + 1, 0, none⟩ (.int .i64 op)).setCell ⟨w.heap.size + 1, 1, none⟩ (.slice na names.length nc)).setCell ⟨w.heap.size + 1, 2, none⟩ (.int .i64 so)).setCell ⟨w.heap.size + 1, 3, none⟩ (.int .i64 nn)).setCell ⟨w.heap.size + 1, 4, none⟩ (.int .i64 mm)).setCell ⟨w.heap.size + 1, 5, none⟩ (.slice va vn vc)) := by
  have hst := nd_self wr (w.heap.size + 1) (.int .i64 op) (.slice na names.length nc) (.int .i64 so) (.int .i64 nn) (.int .i64 mm) (.slice va vn vc)
  have hrow2 := hrow.upto hst (fun k hk => Or.inl (by simp at hk; omega))
  rw [htk] at hrow2
  obtain ⟨wE, hE⟩ : ∃ wE, wE = ((((((wr.setCell ⟨w.heap.size + 1, 0, none⟩ (.int .i64 op)).setCell ⟨w.heap.size + 1, 1, none⟩ (.slice na names.length nc)).setCell ⟨w.heap.size + 1, 2, none⟩ (.int .i64 so)).setCell ⟨w.heap.size + 1, 3, none⟩ (.int .i64 nn)).setCell ⟨w.heap.size + 1, 4, none⟩ (.int .i64 mm)).setCell ⟨w.heap.size + 1, 5, none⟩ (.slice va vn vc)) := ⟨_, rfl⟩
  have hup : Upto [] w wE := by rw [hE]; exact nd_up HI.old (Or.inr (by omega)) ..
  rw [← hE] at hst hrow2 ⊢
  have hu9 : Upto [bn, bn + 1] w9 wE := (HI.up.mono (by simp)).trans (hst.mono (by simp; omega)) (fun k hk => Or.inl hk)
  have hs2 : SlP wE (Nu w wE) (.slice na names.length nc) names.length (names.map sV) := hsl.keep ⟨hu9.size, fun b hb hl => by
    have he := hu9.block b hl.lt (by simp; exact hb.2)
    exact ⟨⟨hb.1.1, hb.1.2.stay he⟩, he⟩⟩
  refine ⟨_, rfl, ?_, hup⟩
  unfold NdV
  refine ⟨_, _, rfl, hs2, ?_⟩
  rw [← hll]
  have := hrow2.list (Q := Nu w wE) (fun b hb => ⟨by have := hb.1.1; unfold New at this ⊢; omega, hb.2⟩) (fun g hg hf => ⟨by have := (hrow.own g hg).1; unfold New; omega, hf⟩)
  rw [hll] at this ⊢
  exact this
end Go.Proofs.YtbnebkkpmcjmbaaGreatDoor


namespace Go.Proofs.YtbnebkkpmcjmbaaGreatDoor
open Go.RowKit Go.PL Go.Maps
set_option maxRecDepth 100000 in
set_option maxHeartbeats 6400000 in
theorem fclone_calls : ∀ (k : Nat) (nd : Nd), sizeF nd ≤ k → k ≤ 10000000 → bigN nd → ∀ (P : Nat → Prop) (v : Value) (w : World), NdV w P nd v → Calls Tryz.prog 42 #[v] w (ClPost w nd)
  | 0, nd, hk, _, _, _, _, _, _ => by have := sizeF_pos nd; omega
  | k + 1, .mk op names so nn mm l, hk, hk7, hbg, P, v, w, h => by
    obtain ⟨a1, c1, a2, c2, rfl, hs, hls⟩ := h.open
    unfold bigN at hbg
    have hsz : sizesF l ≤ k := by simp only [sizeF] at hk; omega
    have hln := sizes_len l
    have hu2 : Upto [] w ((w.alloc (.cells #[.int .i64 op, .slice a1 names.length c1, .int .i64 so, .int .i64 nn, .int .i64 mm, .slice a2 l.length c2] 30)).alloc (.cells #[.int .i64 0, .slice none 0 0, .int .i64 0, .int .i64 0, .int .i64 0, .slice none 0 0] 30)) := ((Upto.refl [] w).alloc _).alloc _
    have hb1 := alloc_old (new_at w (.cells #[.int .i64 op, .slice a1 names.length c1, .int .i64 so, .int .i64 nn, .int .i64 mm, .slice a2 l.length c2] 30)) (.cells #[.int .i64 0, .slice none 0 0, .int .i64 0, .int .i64 0, .int .i64 0, .slice none 0 0] 30)
    have hb2 := new_at1 w (.cells #[.int .i64 op, .slice a1 names.length c1, .int .i64 so, .int .i64 nn, .int .i64 mm, .slice a2 l.length c2] 30) (.cells #[.int .i64 0, .slice none 0 0, .int .i64 0, .int .i64 0, .int .i64 0, .slice none 0 0] 30)
    obtain ⟨W, hW⟩ : ∃ W, W = ((w.alloc (.cells #[.int .i64 op, .slice a1 names.length c1, .int .i64 so, .int .i64 nn, .int .i64 mm, .slice a2 l.length c2] 30)).alloc (.cells #[.int .i64 0, .slice none 0 0, .int .i64 0, .int .i64 0, .int .i64 0, .slice none 0 0] 30)) := ⟨_, rfl⟩
    rw [← hW] at hu2 hb1 hb2
    have HU2 := Lib.hid hu2
    have HB1 := Lib.hid hb1
    have HB2 := Lib.hid hb2
    have HCL := Lib.hid (fun W2 (hu : Upto [] W W2) => sclone_calls (names.map sV) a1 names.length c1 W2 P (by simp) hbg.1 (by intro u hu; obtain ⟨x, _, rfl⟩ := List.mem_map.1 hu; rfl) ((hs.ext hu2).ext hu))
    obtain ⟨x0, x1, x2, x3, x4, x5⟩ := cells6 hb1
    have hwl : w.heap.size + 1 < W.heap.size := lt_of_heap hb2
    have HWL := Lib.hid hwl
    clear hs h hu2 hb1 hb2
    go_enter Tryz.func42, Tryz.ntmps42
    go_wp2_with fail
    simp only [← hW]
    clear hW x0 x1 x2 x3 x4 x5
    refine (HCL.out W (Upto.refl [] W)).mono ?_
    rintro e w9 ⟨na, nc, rfl, hsl, hu9⟩
    have hc1 := hu9.at HB1.out (by simp)
    have hc2 := hu9.at HB2.out (by simp)
    have HUP := Lib.hid hu9
    have HC2 := Lib.hid hc2
    have HSL : Hid (SlP w9 (fun b => Nu w w9 b ∧ b ≠ w.heap.size ∧ b ≠ w.heap.size + 1) (.slice na names.length nc) names.length (names.map sV)) := Lib.hid (hsl.mono (fun b hb _ => ⟨⟨by have := hb.1; unfold New at this ⊢; omega, hb.2⟩, by have := hb.1; unfold New at this; omega, by have := hb.1; unfold New at this; omega⟩))
    have HLT : Hid (w.heap.size = w.heap.size ∧ w.heap.size + 1 < w9.heap.size) := Lib.hid ⟨rfl, lt_of_heap hc2⟩
    obtain ⟨n0, n1, n2, n3, n4, n5⟩ := cells6 hc1
    obtain ⟨f0, f1, f2, f3, f4, f5⟩ := frees6 hc1
    have hset := set_same (set_same hc1 1 (.slice na names.length nc)) 5 (.slice none 0 0)
    simp only [List.setIfInBounds_toArray, List.set_cons_zero, List.set_cons_succ] at hset
    have HI0 : Hid (ClI w w9 w.heap.size op so nn mm na names.length nc l 0 ((w9.setCell ⟨w.heap.size, 1, none⟩ (.slice na names.length nc)).setCell ⟨w.heap.size, 5, none⟩ (.slice none 0 0))) := Lib.hid
      ⟨((Upto.refl [w.heap.size] w9).setCell (p := ⟨w.heap.size, 1, none⟩) (Or.inl (by simp)) _).setCell (p := ⟨w.heap.size, 5, none⟩) (Or.inl (by simp)) _,
       (((HU2.out.trans_ext hu9).setCell (p := ⟨w.heap.size, 1, none⟩) (Or.inr (by simp)) _).setCell (p := ⟨w.heap.size, 5, none⟩) (Or.inr (by simp)) _), none, 0, 0, fun _ _ => undef, hset, ⟨by simpa [cellsN] using World.ownsRow_nil _ 0 30 6, by simp, by intro g hg; cases hg⟩⟩
    clear hsl hu9 hc1 hc2 hset
    have HLS := Lib.hid hls
    have HLN : Hid (l.length ≤ 10000000) := Lib.hid (by omega)
    clear hls
    go_wp2_with fail
    generalize hll : l.length = ll at *
    have HLL := Lib.hid hll
    have hL0 : (0 : Int) ≤ ll := by omega
    have hL1 : (ll : Int) ≤ 10000000 := by have := HLN.out; omega
    clear hll n0 n1 n2 n3 n4 n5 f0 f1 f2 f3 f4 f5
    go_loopw [15] (fun v wr => ∃ j : Nat, j ≤ ll ∧ v = .int .i64 j ∧ Hid (ClI w w9 w.heap.size op so nn mm na names.length nc l j wr)) (fun v _ => ll - (intOf v).toNat)
    case atStart => exact ⟨0, by omega, rfl, HI0⟩
    case round =>
      obtain ⟨j, hj, rfl, HI⟩ := hrel
      obtain ⟨va, vn, vc, c, hbk, hrow⟩ := HI.out.st
      obtain ⟨va', vc', hve, -⟩ := ownsRow_len hrow.row
      simp only [Value.slice.injEq] at hve
      have hvn : vn = j := by have := HLL.out; rw [hve.2.1, List.length_take]; omega
      clear hve
      subst hvn
      rcases Nat.lt_or_ge vn ll with hlt | hge
      · obtain ⟨x, hx⟩ : ∃ x, l[vn]? = some x := ⟨_, List.getElem?_eq_getElem (by have := HLL.out; omega)⟩
        obtain ⟨g, o, xo, xn1, xn2, xn3, xs, xm, xq, xl1, xl2, xl3, rfl, c0, c1', c2', c3, c4, c5, hn⟩ := (HLS.out.ext HI.out.old) vn x hx
        have hjl : (l.take vn).length = vn := by have := HLL.out; rw [List.length_take]; omega
        have HJL := Lib.hid hjl
        have HTK : Hid (l.take (vn + 1) = l.take vn ++ [x]) := Lib.hid (by
          obtain ⟨hi, rfl⟩ := List.getElem?_eq_some_iff.1 hx
          exact List.take_succ_eq_append_getElem hi)
        have hxs := sizesF_mem (List.mem_of_getElem? hx)
        have hu7 : Upto [] wr (wr.alloc (.cells #[.int .i64 xo, .slice xn1 xn2 xn3, .int .i64 xs, .int .i64 xm, .int .i64 xq, .slice xl1 xl2 xl3] 30)) := (Upto.refl [] wr).alloc _
        have hb7 := new_at wr (.cells #[.int .i64 xo, .slice xn1 xn2 xn3, .int .i64 xs, .int .i64 xm, .int .i64 xq, .slice xl1 xl2 xl3] 30)
        obtain ⟨W7, hW7⟩ : ∃ W7, W7 = wr.alloc (.cells #[.int .i64 xo, .slice xn1 xn2 xn3, .int .i64 xs, .int .i64 xm, .int .i64 xq, .slice xl1 xl2 xl3] 30) := ⟨_, rfl⟩
        rw [← hW7] at hu7 hb7
        have HI7 := Lib.hid (HI.out.ext hu7)
        have hbk7 := hu7.at hbk (by simp)
        have HBK := Lib.hid hbk7
        have HROW := Lib.hid (hrow.upto hu7 (by simp))
        have HC := Lib.hid (fun w1 (hu : Upto [] W7 w1) => fclone_calls k x (by omega) (by omega) (bigs_mem hbg.2 (List.mem_of_getElem? hx)) P _ w1 ((hn.ext hu7).ext hu))
        have HB7 := Lib.hid hb7
        have hltI : (vn : Int) < ll := by omega
        have hj0 : (0 : Int) ≤ vn := by omega
        clear hrow hbk hn hx hu7 hb7 hbk7
        go_wp2_with fail
        simp only [← hW7]
        clear hW7
        have y5 := cell_of HBK.out 5
        simp only [List.getElem?_toArray, List.getElem?_cons_zero, List.getElem?_cons_succ] at y5
        obtain ⟨z0, z1, z2, z3, z4, z5⟩ := cells6 HB7.out
        have e0 : ∀ u : Ext W7, u.w.cell? ⟨w.heap.size, 5, none⟩ = some (.slice va vn vc) := fun u => u.cell y5
        have k0 : ∀ u : Ext W7, u.w.cell? ⟨wr.heap.size, 0, none⟩ = some _ := fun u => u.cell z0
        have k1 : ∀ u : Ext W7, u.w.cell? ⟨wr.heap.size, 1, none⟩ = some _ := fun u => u.cell z1
        have k2 : ∀ u : Ext W7, u.w.cell? ⟨wr.heap.size, 2, none⟩ = some _ := fun u => u.cell z2
        have k3 : ∀ u : Ext W7, u.w.cell? ⟨wr.heap.size, 3, none⟩ = some _ := fun u => u.cell z3
        have k4 : ∀ u : Ext W7, u.w.cell? ⟨wr.heap.size, 4, none⟩ = some _ := fun u => u.cell z4
        have k5 : ∀ u : Ext W7, u.w.cell? ⟨wr.heap.size, 5, none⟩ = some _ := fun u => u.cell z5
        clear y5 z0 z1 z2 z3 z4 z5 c0 c1' c2' c3 c4 c5
        refine wp_region_seg_at [3, 4] [] [0, 1, 2, 3, 4] [5, 6, 7] 5 (by kernel_rfl) (by kernel_rfl) (by kernel_rfl) ?_
        iterate 3 (refine seg_plain rfl rfl rfl rfl rfl ?_; intro K' hK'; go_big_quiet_op; go_big_quiet_on)
        refine seg_callO (Y := (Int × Option Addr × Nat × Nat) × Int × Int × Int × Option Addr × Nat × Nat) (fun y => .agg #[.int .i64 y.1.1, .slice y.1.2.1 y.1.2.2.1 y.1.2.2.2, .int .i64 y.2.1, .int .i64 y.2.2.1, .int .i64 y.2.2.2.1, .slice y.2.2.2.2.1 y.2.2.2.2.2.1 y.2.2.2.2.2.2]) (fun y u => NdV u (Nu W7 u) x (.agg #[.int .i64 y.1.1, .slice y.1.2.1 y.1.2.2.1 y.1.2.2.2, .int .i64 y.2.1, .int .i64 y.2.2.1, .int .i64 y.2.2.2.1, .slice y.2.2.2.2.1 y.2.2.2.2.2.1 y.2.2.2.2.2.2])) (fun _ => []) rfl rfl rfl rfl (fun _ _ _ h hu => h.nu hu) (fun _ => List.nodup_nil) (fun w => by go_simp) (fun w' hu hd => (HC.out w' hu).mono fun e w2 ⟨v, h1, h2, h3⟩ => by
          obtain ⟨ro, rn1, rn2, rn3, rs, rm, rq, rl1, rl2, rl3, rfl⟩ := h2.six
          exact ⟨((ro, rn1, rn2, rn3), rs, rm, rq, rl1, rl2, rl3), h1, h3, h2.mono (fun b hb _ => ⟨New.mono hu b hb.1, hb.2⟩), fun b hb => by cases hb⟩) ?_
        rintro ⟨⟨ro, rn1, rn2, rn3⟩, rs, rm, rq, rl1, rl2, rl3⟩
        simp only [Act.put, List.setIfInBounds_toArray, List.set_cons_zero, List.set_cons_succ]
        refine seg_opq (Y := Nat) (fun b => .slice (some ⟨b, 0, none⟩) 1 1) (fun b u => u.heap[b]? = some (.cells #[.int .i64 ro, .slice rn1 rn2 rn3, .int .i64 rs, .int .i64 rm, .int .i64 rq, .slice rl1 rl2 rl3] 30 (0, 0))) (fun _ => []) rfl rfl rfl rfl (fun _ _ _ h hu => hu.at h (by simp)) (fun _ => List.nodup_nil) (fun w' post hu hd hp => (congrArg (opqUpon Tryz.prog post) (show _ = Result.ok (Next.value (.slice (some ⟨w'.heap.size, 0, none⟩) 1 1)) (w'.alloc (.cells #[.int .i64 ro, .slice rn1 rn2 rn3, .int .i64 rs, .int .i64 rm, .int .i64 rq, .slice rl1 rl2 rl3] 30)) from by go_simp)).mpr (hp w'.heap.size _ ((Upto.refl [] w').alloc _) (new_at _ _) (fun b hb => by cases hb))) ?_
        intro b8
        simp only [Act.put, List.setIfInBounds_toArray, List.set_cons_zero, List.set_cons_succ]
        intro w10 hg
        have HU10 := Lib.hid hg.up
        have HB8 : Hid (w10.heap[b8]? = some (.cells #[.int .i64 ro, .slice rn1 rn2 rn3, .int .i64 rs, .int .i64 rm, .int .i64 rq, .slice rl1 rl2 rl3] 30 (0, 0))) := Lib.hid hg.hold.1
        have HND : Hid (NdV w10 (Nu W7 w10) x (.agg #[.int .i64 ro, .slice rn1 rn2 rn3, .int .i64 rs, .int .i64 rm, .int .i64 rq, .slice rl1 rl2 rl3])) := Lib.hid hg.hold.2.1
        simp only [List.drop_succ_cons, List.drop_zero]
        clear hg e0 k0 k1 k2 k3 k4 k5
        have HR10 := Lib.hid (HROW.out.upto HU10.out (by simp))
        have hr10 := HR10.out.row
        rw [hjl] at hr10
        have HRR := Lib.hid hr10
        obtain ⟨i1, hi1, hy0, hy1, hy2⟩ := info59'
        have hL7 := HLN.out
        have HA := Lib.hid (fun b5 c5 w5 (ho5 : w5.ownsRow 0 30 6 (.slice b5 (vn + 1) c5) (vn + 1) (cellsN c vn ++ [.int .i64 ro, .slice rn1 rn2 rn3, .int .i64 rs, .int .i64 rm, .int .i64 rq, .slice rl1 rl2 rl3])) (hu5 : Upto (Value.slice va vn vc).ownBlock.toList w10 w5) (hw5 : ∀ g, (Value.slice b5 (vn + 1) c5).ownBlock = some g → (Value.slice va vn vc).ownBlock = some g ∨ w10.heap.size ≤ g) => cl_step HI7.out ⟨Nat.le_refl _, by have := HLT.out.2; omega⟩ HBK.out HROW.out HU10.out HND.out HJL.out HTK.out ho5 hu5 hw5)
        clear hr10 hjl
        go_wp2_with (at_builtin
                     refine wpList_app _ rfl (.tmp 20) (.tmp 23) 28 rfl 30 i1 (.agg #[.int .i64 0, .slice none 0 0, .int .i64 0, .int .i64 0, .int .i64 0, .slice none 0 0]) 6 80 Tryz.underlying28 hi1 hy0 hy1 hy2 rfl (by decide) (.slice va vn vc) vn (cellsN c vn) rfl HRR.out ⟨b8, 0, none⟩ 1 1 [.int .i64 ro, .slice rn1 rn2 rn3, .int .i64 rs, .int .i64 rm, .int .i64 rq, .slice rl1 rl2 rl3] rfl rfl (six_at HB8.out) (by simp [Value.oneCell']) (by unfold maxLen; omega) (by omega) ?_
                     intro b5 c5 w5 ho5 hu5 hw5
                     obtain ⟨hbk5, hI5⟩ := HA.out b5 c5 w5 ho5 hu5 hw5
                     have y5 := cell_of hbk5 5
                     have g5 := free_of hbk5 5
                     simp only [List.getElem?_toArray, List.getElem?_cons_zero, List.getElem?_cons_succ] at y5
                     have HI5 := Lib.hid hI5
                     clear ho5 hu5 hw5 hbk5 hI5)
        go_roundw
        case rel => exact ⟨vn + 1, by omega, by go_num, HI5⟩
        case measure => simp [intOf]; omega
      · obtain rfl : vn = ll := by omega
        have hgeI : ¬ ((vn : Int) < vn) := by omega
        have HROW := Lib.hid hrow
        have hz2 := HI.out.up.at HC2.out (by simp)
        have HZ2 := Lib.hid hz2
        obtain ⟨p0, p1, p2, p3, p4, p5⟩ := cells6 hbk
        obtain ⟨r0, r1, r2, r3, r4, r5⟩ := cells6 hz2
        obtain ⟨t0, t1, t2, t3, t4, t5⟩ := frees6 hz2
        have hF := cl_end (names := names) HI.out ⟨rfl, HLT.out.2⟩ HSL.out HROW.out (List.take_of_length_le (by have := HLL.out; omega)) HLL.out
        have HF := Lib.hid hF
        clear hrow hbk hz2 hF
        go_wp2_with fail
        have hst := nd_store HZ2.out (.int .i64 op) (.slice na names.length nc) (.int .i64 so) (.int .i64 nn) (.int .i64 mm) (.slice va vn vc)
        obtain ⟨q0, q1, q2, q3, q4, q5⟩ := cells6 hst
        exact bodyPost_ret (v := .agg #[.int .i64 op, .slice na names.length nc, .int .i64 so, .int .i64 nn, .int .i64 mm, .slice va vn vc]) (by simp [results, Tryz.results42, go_sem, q0, q1, q2, q3, q4, q5]) rfl HF.out
end Go.Proofs.YtbnebkkpmcjmbaaGreatDoor


namespace Go.Proofs.YtbnebkkpmcjmbaaGreatDoor
open Go.RowKit Go.PL Go.Maps
def ClPost2 (w : World) (op : Int) (names : List (List UInt8)) (so nn mm : Int) (l : List Nd) (e : Ending) (w' : World) : Prop := ∃ vn vl m, e = .returned (.agg #[.int .i64 op, vn, .int .i64 so, .int .i64 nn, .int .i64 mm, vl]) ∧ Upto [] w w' ∧ SlP w' (fun b => Nu w w' b ∧ b < m) vn names.length (names.map sV) ∧
  ((l = [] ∧ ∃ a c, vl = .slice a 0 c) ∨ ∃ g o c, vl = .slice (some ⟨g, o, none⟩) l.length c ∧ ((Nu w w' g ∧ m ≤ g) ∧ IsC w' g) ∧ NdsV w' (fun b => Nu w w' b ∧ m ≤ b ∧ b ≠ g) g o l)
theorem ClRow.list2 {w0 w : World} {B : Nat} {c : Nat → Nat → Value} {v : Value} {ms : List Nd} (h : ClRow w0 w B c v ms) : (ms = [] ∧ ∃ a c, v = .slice a 0 c) ∨ ∃ g o c, v = .slice (some ⟨g, o, none⟩) ms.length c ∧ (v.ownBlock = some g ∧ Unf w g) ∧ NdsV w (Lu w0 w B v) g o ms := by
  rcases h.row.2 with ⟨e, h0⟩ | ⟨g, cap, cur, e, _, hh, _, _, _, ht⟩
  · exact Or.inl ⟨List.eq_nil_of_length_eq_zero h0, none, 0, e⟩
  · refine Or.inr ⟨g, 0, cap, e, ⟨by rw [e]; rfl, _, _, hh⟩, nds_of ms 0 fun i x hi => ?_⟩
    have hil : i < ms.length := (List.getElem?_eq_some_iff.1 hi).1
    have cl : ∀ j, j < 6 → w.cell? ⟨g, 0 + i * 6 + j, none⟩ = some (c i j) := fun j hj => by
      rw [cell_of hh]
      have := cellsN_at c hil hj
      rw [← ht, List.getElem?_take] at this
      split at this
      · simpa using this
      · cases this
    exact ⟨_, _, _, _, _, _, cl 0 (by omega), cl 1 (by omega), cl 2 (by omega), cl 3 (by omega), cl 4 (by omega), cl 5 (by omega), h.nd i x hi⟩
theorem cl_end2 {w w9 wr : World} {bn : Nat} {op so nn mm : Int} {na : Option Addr} {nc : Nat} {names : List (List UInt8)} {l : List Nd} {vn : Nat} {va : Option Addr} {vc : Nat} {c : Nat → Nat → Value}
    (HI : ClI w w9 bn op so nn mm na names.length nc l vn wr) (HLT : w.heap.size = bn ∧ bn + 1 < w9.heap.size)
    (hsl : SlP w9 (fun b => Nu w w9 b ∧ b ≠ bn ∧ b ≠ bn + 1) (.slice na names.length nc) names.length (names.map sV))
    (hrow : ClRow w9 wr bn c (.slice va vn vc) (l.take vn)) (htk : l.take vn = l) (_hll : l.length = vn) :
    ClPost2 w op names so nn mm l (.returned (.agg #[.int .i64 op, .slice na names.length nc, .int .i64 so, .int .i64 nn, .int .i64 mm, .slice va vn vc])) ((((((wr.setCell ⟨w.heap.size + 1, 0, none⟩ (.int .i64 op)).setCell ⟨w.heap.size + 1, 1, none⟩ (.slice na names.length nc)).setCell ⟨w.heap.size + 1, 2, none⟩ (.int .i64 so)).setCell ⟨w.heap.size + 1, 3, none⟩ (.int .i64 nn)).setCell ⟨w.heap.size + 1, 4, none⟩ (.int .i64 mm)).setCell ⟨w.heap.size + 1, 5, none⟩ (.slice va vn vc)) := by
  have hst := nd_self wr (w.heap.size + 1) (.int .i64 op) (.slice na names.length nc) (.int .i64 so) (.int .i64 nn) (.int .i64 mm) (.slice va vn vc)
  have hrow2 := hrow.upto hst (fun k hk => Or.inl (by simp at hk; omega))
  rw [htk] at hrow2
  obtain ⟨wE, hE⟩ : ∃ wE, wE = ((((((wr.setCell ⟨w.heap.size + 1, 0, none⟩ (.int .i64 op)).setCell ⟨w.heap.size + 1, 1, none⟩ (.slice na names.length nc)).setCell ⟨w.heap.size + 1, 2, none⟩ (.int .i64 so)).setCell ⟨w.heap.size + 1, 3, none⟩ (.int .i64 nn)).setCell ⟨w.heap.size + 1, 4, none⟩ (.int .i64 mm)).setCell ⟨w.heap.size + 1, 5, none⟩ (.slice va vn vc)) := ⟨_, rfl⟩
  have hup : Upto [] w wE := by rw [hE]; exact nd_up HI.old (Or.inr (by omega)) ..
  rw [← hE] at hst hrow2 ⊢
  have hu9 : Upto [bn, bn + 1] w9 wE := (HI.up.mono (by simp)).trans (hst.mono (by simp; omega)) (fun k hk => Or.inl hk)
  have hs2 : SlP wE (fun b => Nu w wE b ∧ b < w9.heap.size) (.slice na names.length nc) names.length (names.map sV) := hsl.keep ⟨hu9.size, fun b hb hl => by
    have he := hu9.block b hl.lt (by simp; exact hb.2)
    exact ⟨⟨⟨hb.1.1, hb.1.2.stay he⟩, hl.lt⟩, he⟩⟩
  refine ⟨_, _, w9.heap.size, rfl, hup, hs2, ?_⟩
  rcases hrow2.list2 with ⟨h1, h2⟩ | ⟨g, o, cc, h1, ⟨h2, h3⟩, h4⟩
  · exact Or.inl ⟨h1, h2⟩
  · refine Or.inr ⟨g, o, cc, h1, ⟨⟨⟨by have := (hrow.own g h2).1; unfold New; omega, h3⟩, (hrow.own g h2).1⟩, (by obtain ⟨cs, t, h⟩ := h3; exact ⟨cs, t, _, h⟩)⟩, ?_⟩
    refine NdsV.keep (P := Lu w9 wE bn (.slice va vn vc)) ⟨Nat.le_refl _, fun b hb hl => ⟨⟨⟨by have := hb.1.1; unfold New at this ⊢; omega, hb.2⟩, hb.1.1, fun e => hb.1.2.2 (by rw [e]; exact h2)⟩, rfl⟩⟩ g rfl _ _ h4
set_option maxRecDepth 100000 in
set_option maxHeartbeats 6400000 in
theorem fclone2_calls (k : Nat) (op : Int) (names : List (List UInt8)) (so nn mm : Int) (l : List Nd) (hk : sizeF (.mk op names so nn mm l) ≤ k + 1) (hk7 : k + 1 ≤ 10000000) (hbg : bigN (.mk op names so nn mm l)) (P : Nat → Prop) (v : Value) (w : World) (h : NdV w P (.mk op names so nn mm l) v) : Calls Tryz.prog 42 #[v] w (ClPost2 w op names so nn mm l) := by
  obtain ⟨a1, c1, a2, c2, rfl, hs, hls⟩ := h.open
  unfold bigN at hbg
  have hsz : sizesF l ≤ k := by simp only [sizeF] at hk; omega
  have hln := sizes_len l
  have hu2 : Upto [] w ((w.alloc (.cells #[.int .i64 op, .slice a1 names.length c1, .int .i64 so, .int .i64 nn, .int .i64 mm, .slice a2 l.length c2] 30)).alloc (.cells #[.int .i64 0, .slice none 0 0, .int .i64 0, .int .i64 0, .int .i64 0, .slice none 0 0] 30)) := ((Upto.refl [] w).alloc _).alloc _
  have hb1 := alloc_old (new_at w (.cells #[.int .i64 op, .slice a1 names.length c1, .int .i64 so, .int .i64 nn, .int .i64 mm, .slice a2 l.length c2] 30)) (.cells #[.int .i64 0, .slice none 0 0, .int .i64 0, .int .i64 0, .int .i64 0, .slice none 0 0] 30)
  have hb2 := new_at1 w (.cells #[.int .i64 op, .slice a1 names.length c1, .int .i64 so, .int .i64 nn, .int .i64 mm, .slice a2 l.length c2] 30) (.cells #[.int .i64 0, .slice none 0 0, .int .i64 0, .int .i64 0, .int .i64 0, .slice none 0 0] 30)
  obtain ⟨W, hW⟩ : ∃ W, W = ((w.alloc (.cells #[.int .i64 op, .slice a1 names.length c1, .int .i64 so, .int .i64 nn, .int .i64 mm, .slice a2 l.length c2] 30)).alloc (.cells #[.int .i64 0, .slice none 0 0, .int .i64 0, .int .i64 0, .int .i64 0, .slice none 0 0] 30)) := ⟨_, rfl⟩
  rw [← hW] at hu2 hb1 hb2
  have HU2 := Lib.hid hu2
  have HB1 := Lib.hid hb1
  have HB2 := Lib.hid hb2
  have HCL := Lib.hid (fun W2 (hu : Upto [] W W2) => sclone_calls (names.map sV) a1 names.length c1 W2 P (by simp) hbg.1 (by intro u hu; obtain ⟨x, _, rfl⟩ := List.mem_map.1 hu; rfl) ((hs.ext hu2).ext hu))
  obtain ⟨x0, x1, x2, x3, x4, x5⟩ := cells6 hb1
  have hwl : w.heap.size + 1 < W.heap.size := lt_of_heap hb2
  have HWL := Lib.hid hwl
  clear hs h hu2 hb1 hb2
  go_enter Tryz.func42, Tryz.ntmps42
  go_wp2_with fail
  simp only [← hW]
  clear hW x0 x1 x2 x3 x4 x5
  refine (HCL.out W (Upto.refl [] W)).mono ?_
  rintro e w9 ⟨na, nc, rfl, hsl, hu9⟩
  have hc1 := hu9.at HB1.out (by simp)
  have hc2 := hu9.at HB2.out (by simp)
  have HUP := Lib.hid hu9
  have HC2 := Lib.hid hc2
  have HSL : Hid (SlP w9 (fun b => Nu w w9 b ∧ b ≠ w.heap.size ∧ b ≠ w.heap.size + 1) (.slice na names.length nc) names.length (names.map sV)) := Lib.hid (hsl.mono (fun b hb _ => ⟨⟨by have := hb.1; unfold New at this ⊢; omega, hb.2⟩, by have := hb.1; unfold New at this; omega, by have := hb.1; unfold New at this; omega⟩))
  have HLT : Hid (w.heap.size = w.heap.size ∧ w.heap.size + 1 < w9.heap.size) := Lib.hid ⟨rfl, lt_of_heap hc2⟩
  obtain ⟨n0, n1, n2, n3, n4, n5⟩ := cells6 hc1
  obtain ⟨f0, f1, f2, f3, f4, f5⟩ := frees6 hc1
  have hset := set_same (set_same hc1 1 (.slice na names.length nc)) 5 (.slice none 0 0)
  simp only [List.setIfInBounds_toArray, List.set_cons_zero, List.set_cons_succ] at hset
  have HI0 : Hid (ClI w w9 w.heap.size op so nn mm na names.length nc l 0 ((w9.setCell ⟨w.heap.size, 1, none⟩ (.slice na names.length nc)).setCell ⟨w.heap.size, 5, none⟩ (.slice none 0 0))) := Lib.hid
    ⟨((Upto.refl [w.heap.size] w9).setCell (p := ⟨w.heap.size, 1, none⟩) (Or.inl (by simp)) _).setCell (p := ⟨w.heap.size, 5, none⟩) (Or.inl (by simp)) _,
     (((HU2.out.trans_ext hu9).setCell (p := ⟨w.heap.size, 1, none⟩) (Or.inr (by simp)) _).setCell (p := ⟨w.heap.size, 5, none⟩) (Or.inr (by simp)) _), none, 0, 0, fun _ _ => undef, hset, ⟨by simpa [cellsN] using World.ownsRow_nil _ 0 30 6, by simp, by intro g hg; cases hg⟩⟩
  clear hsl hu9 hc1 hc2 hset
  have HLS := Lib.hid hls
  have HLN : Hid (l.length ≤ 10000000) := Lib.hid (by omega)
  clear hls
  go_wp2_with fail
  generalize hll : l.length = ll at *
  have HLL := Lib.hid hll
  have hL0 : (0 : Int) ≤ ll := by omega
  have hL1 : (ll : Int) ≤ 10000000 := by have := HLN.out; omega
  clear hll n0 n1 n2 n3 n4 n5 f0 f1 f2 f3 f4 f5
  go_loopw [15] (fun v wr => ∃ j : Nat, j ≤ ll ∧ v = .int .i64 j ∧ Hid (ClI w w9 w.heap.size op so nn mm na names.length nc l j wr)) (fun v _ => ll - (intOf v).toNat)
  case atStart => exact ⟨0, by omega, rfl, HI0⟩
  case round =>
    obtain ⟨j, hj, rfl, HI⟩ := hrel
    obtain ⟨va, vn, vc, c, hbk, hrow⟩ := HI.out.st
    obtain ⟨va', vc', hve, -⟩ := ownsRow_len hrow.row
    simp only [Value.slice.injEq] at hve
    have hvn : vn = j := by have := HLL.out; rw [hve.2.1, List.length_take]; omega
    clear hve
    subst hvn
    rcases Nat.lt_or_ge vn ll with hlt | hge
    · obtain ⟨x, hx⟩ : ∃ x, l[vn]? = some x := ⟨_, List.getElem?_eq_getElem (by have := HLL.out; omega)⟩
      obtain ⟨g, o, xo, xn1, xn2, xn3, xs, xm, xq, xl1, xl2, xl3, rfl, c0, c1', c2', c3, c4, c5, hn⟩ := (HLS.out.ext HI.out.old) vn x hx
      have hjl : (l.take vn).length = vn := by have := HLL.out; rw [List.length_take]; omega
      have HJL := Lib.hid hjl
      have HTK : Hid (l.take (vn + 1) = l.take vn ++ [x]) := Lib.hid (by
        obtain ⟨hi, rfl⟩ := List.getElem?_eq_some_iff.1 hx
        exact List.take_succ_eq_append_getElem hi)
      have hxs := sizesF_mem (List.mem_of_getElem? hx)
      have hu7 : Upto [] wr (wr.alloc (.cells #[.int .i64 xo, .slice xn1 xn2 xn3, .int .i64 xs, .int .i64 xm, .int .i64 xq, .slice xl1 xl2 xl3] 30)) := (Upto.refl [] wr).alloc _
      have hb7 := new_at wr (.cells #[.int .i64 xo, .slice xn1 xn2 xn3, .int .i64 xs, .int .i64 xm, .int .i64 xq, .slice xl1 xl2 xl3] 30)
      obtain ⟨W7, hW7⟩ : ∃ W7, W7 = wr.alloc (.cells #[.int .i64 xo, .slice xn1 xn2 xn3, .int .i64 xs, .int .i64 xm, .int .i64 xq, .slice xl1 xl2 xl3] 30) := ⟨_, rfl⟩
      rw [← hW7] at hu7 hb7
      have HI7 := Lib.hid (HI.out.ext hu7)
      have hbk7 := hu7.at hbk (by simp)
      have HBK := Lib.hid hbk7
      have HROW := Lib.hid (hrow.upto hu7 (by simp))
      have HC := Lib.hid (fun w1 (hu : Upto [] W7 w1) => fclone_calls k x (by omega) (by omega) (bigs_mem hbg.2 (List.mem_of_getElem? hx)) P _ w1 ((hn.ext hu7).ext hu))
      have HB7 := Lib.hid hb7
      have hltI : (vn : Int) < ll := by omega
      have hj0 : (0 : Int) ≤ vn := by omega
      clear hrow hbk hn hx hu7 hb7 hbk7
      go_wp2_with fail
      simp only [← hW7]
      clear hW7
      have y5 := cell_of HBK.out 5
      simp only [List.getElem?_toArray, List.getElem?_cons_zero, List.getElem?_cons_succ] at y5
      obtain ⟨z0, z1, z2, z3, z4, z5⟩ := cells6 HB7.out
      have e0 : ∀ u : Ext W7, u.w.cell? ⟨w.heap.size, 5, none⟩ = some (.slice va vn vc) := fun u => u.cell y5
      have k0 : ∀ u : Ext W7, u.w.cell? ⟨wr.heap.size, 0, none⟩ = some _ := fun u => u.cell z0
      have k1 : ∀ u : Ext W7, u.w.cell? ⟨wr.heap.size, 1, none⟩ = some _ := fun u => u.cell z1
      have k2 : ∀ u : Ext W7, u.w.cell? ⟨wr.heap.size, 2, none⟩ = some _ := fun u => u.cell z2
      have k3 : ∀ u : Ext W7, u.w.cell? ⟨wr.heap.size, 3, none⟩ = some _ := fun u => u.cell z3
      have k4 : ∀ u : Ext W7, u.w.cell? ⟨wr.heap.size, 4, none⟩ = some _ := fun u => u.cell z4
      have k5 : ∀ u : Ext W7, u.w.cell? ⟨wr.heap.size, 5, none⟩ = some _ := fun u => u.cell z5
      clear y5 z0 z1 z2 z3 z4 z5 c0 c1' c2' c3 c4 c5
      refine wp_region_seg_at [3, 4] [] [0, 1, 2, 3, 4] [5, 6, 7] 5 (by kernel_rfl) (by kernel_rfl) (by kernel_rfl) ?_
      iterate 3 (refine seg_plain rfl rfl rfl rfl rfl ?_; intro K' hK'; go_big_quiet_op; go_big_quiet_on)
      refine seg_callO (Y := (Int × Option Addr × Nat × Nat) × Int × Int × Int × Option Addr × Nat × Nat) (fun y => .agg #[.int .i64 y.1.1, .slice y.1.2.1 y.1.2.2.1 y.1.2.2.2, .int .i64 y.2.1, .int .i64 y.2.2.1, .int .i64 y.2.2.2.1, .slice y.2.2.2.2.1 y.2.2.2.2.2.1 y.2.2.2.2.2.2]) (fun y u => NdV u (Nu W7 u) x (.agg #[.int .i64 y.1.1, .slice y.1.2.1 y.1.2.2.1 y.1.2.2.2, .int .i64 y.2.1, .int .i64 y.2.2.1, .int .i64 y.2.2.2.1, .slice y.2.2.2.2.1 y.2.2.2.2.2.1 y.2.2.2.2.2.2])) (fun _ => []) rfl rfl rfl rfl (fun _ _ _ h hu => h.nu hu) (fun _ => List.nodup_nil) (fun w => by go_simp) (fun w' hu hd => (HC.out w' hu).mono fun e w2 ⟨v, h1, h2, h3⟩ => by
        obtain ⟨ro, rn1, rn2, rn3, rs, rm, rq, rl1, rl2, rl3, rfl⟩ := h2.six
        exact ⟨((ro, rn1, rn2, rn3), rs, rm, rq, rl1, rl2, rl3), h1, h3, h2.mono (fun b hb _ => ⟨New.mono hu b hb.1, hb.2⟩), fun b hb => by cases hb⟩) ?_
      rintro ⟨⟨ro, rn1, rn2, rn3⟩, rs, rm, rq, rl1, rl2, rl3⟩
      simp only [Act.put, List.setIfInBounds_toArray, List.set_cons_zero, List.set_cons_succ]
      refine seg_opq (Y := Nat) (fun b => .slice (some ⟨b, 0, none⟩) 1 1) (fun b u => u.heap[b]? = some (.cells #[.int .i64 ro, .slice rn1 rn2 rn3, .int .i64 rs, .int .i64 rm, .int .i64 rq, .slice rl1 rl2 rl3] 30 (0, 0))) (fun _ => []) rfl rfl rfl rfl (fun _ _ _ h hu => hu.at h (by simp)) (fun _ => List.nodup_nil) (fun w' post hu hd hp => (congrArg (opqUpon Tryz.prog post) (show _ = Result.ok (Next.value (.slice (some ⟨w'.heap.size, 0, none⟩) 1 1)) (w'.alloc (.cells #[.int .i64 ro, .slice rn1 rn2 rn3, .int .i64 rs, .int .i64 rm, .int .i64 rq, .slice rl1 rl2 rl3] 30)) from by go_simp)).mpr (hp w'.heap.size _ ((Upto.refl [] w').alloc _) (new_at _ _) (fun b hb => by cases hb))) ?_
      intro b8
      simp only [Act.put, List.setIfInBounds_toArray, List.set_cons_zero, List.set_cons_succ]
      intro w10 hg
      have HU10 := Lib.hid hg.up
      have HB8 : Hid (w10.heap[b8]? = some (.cells #[.int .i64 ro, .slice rn1 rn2 rn3, .int .i64 rs, .int .i64 rm, .int .i64 rq, .slice rl1 rl2 rl3] 30 (0, 0))) := Lib.hid hg.hold.1
      have HND : Hid (NdV w10 (Nu W7 w10) x (.agg #[.int .i64 ro, .slice rn1 rn2 rn3, .int .i64 rs, .int .i64 rm, .int .i64 rq, .slice rl1 rl2 rl3])) := Lib.hid hg.hold.2.1
      simp only [List.drop_succ_cons, List.drop_zero]
      clear hg e0 k0 k1 k2 k3 k4 k5
      have HR10 := Lib.hid (HROW.out.upto HU10.out (by simp))
      have hr10 := HR10.out.row
      rw [hjl] at hr10
      have HRR := Lib.hid hr10
      obtain ⟨i1, hi1, hy0, hy1, hy2⟩ := info59'
      have hL7 := HLN.out
      have HA := Lib.hid (fun b5 c5 w5 (ho5 : w5.ownsRow 0 30 6 (.slice b5 (vn + 1) c5) (vn + 1) (cellsN c vn ++ [.int .i64 ro, .slice rn1 rn2 rn3, .int .i64 rs, .int .i64 rm, .int .i64 rq, .slice rl1 rl2 rl3])) (hu5 : Upto (Value.slice va vn vc).ownBlock.toList w10 w5) (hw5 : ∀ g, (Value.slice b5 (vn + 1) c5).ownBlock = some g → (Value.slice va vn vc).ownBlock = some g ∨ w10.heap.size ≤ g) => cl_step HI7.out ⟨Nat.le_refl _, by have := HLT.out.2; omega⟩ HBK.out HROW.out HU10.out HND.out HJL.out HTK.out ho5 hu5 hw5)
      clear hr10 hjl
      go_wp2_with (at_builtin
                   refine wpList_app _ rfl (.tmp 20) (.tmp 23) 28 rfl 30 i1 (.agg #[.int .i64 0, .slice none 0 0, .int .i64 0, .int .i64 0, .int .i64 0, .slice none 0 0]) 6 80 Tryz.underlying28 hi1 hy0 hy1 hy2 rfl (by decide) (.slice va vn vc) vn (cellsN c vn) rfl HRR.out ⟨b8, 0, none⟩ 1 1 [.int .i64 ro, .slice rn1 rn2 rn3, .int .i64 rs, .int .i64 rm, .int .i64 rq, .slice rl1 rl2 rl3] rfl rfl (six_at HB8.out) (by simp [Value.oneCell']) (by unfold maxLen; omega) (by omega) ?_
                   intro b5 c5 w5 ho5 hu5 hw5
                   obtain ⟨hbk5, hI5⟩ := HA.out b5 c5 w5 ho5 hu5 hw5
                   have y5 := cell_of hbk5 5
                   have g5 := free_of hbk5 5
                   simp only [List.getElem?_toArray, List.getElem?_cons_zero, List.getElem?_cons_succ] at y5
                   have HI5 := Lib.hid hI5
                   clear ho5 hu5 hw5 hbk5 hI5)
      go_roundw
      case rel => exact ⟨vn + 1, by omega, by go_num, HI5⟩
      case measure => simp [intOf]; omega
    · obtain rfl : vn = ll := by omega
      have hgeI : ¬ ((vn : Int) < vn) := by omega
      have HROW := Lib.hid hrow
      have hz2 := HI.out.up.at HC2.out (by simp)
      have HZ2 := Lib.hid hz2
      obtain ⟨p0, p1, p2, p3, p4, p5⟩ := cells6 hbk
      obtain ⟨r0, r1, r2, r3, r4, r5⟩ := cells6 hz2
      obtain ⟨t0, t1, t2, t3, t4, t5⟩ := frees6 hz2
      have hF := cl_end2 (names := names) HI.out ⟨rfl, HLT.out.2⟩ HSL.out HROW.out (List.take_of_length_le (by have := HLL.out; omega)) HLL.out
      have HF := Lib.hid hF
      clear hrow hbk hz2 hF
      go_wp2_with fail
      have hst := nd_store HZ2.out (.int .i64 op) (.slice na names.length nc) (.int .i64 so) (.int .i64 nn) (.int .i64 mm) (.slice va vn vc)
      obtain ⟨q0, q1, q2, q3, q4, q5⟩ := cells6 hst
      exact bodyPost_ret (v := .agg #[.int .i64 op, .slice na names.length nc, .int .i64 so, .int .i64 nn, .int .i64 mm, .slice va vn vc]) (by simp [results, Tryz.results42, go_sem, q0, q1, q2, q3, q4, q5]) rfl HF.out
end Go.Proofs.YtbnebkkpmcjmbaaGreatDoor


namespace Go.Proofs.YtbnebkkpmcjmbaaGreatDoor
open Go.RowKit Go.PL Go.Maps
theorem binds_16 (n : Nat) : bindsF 16 n = decide (0 < n) := by simp [bindsF]
theorem binds_17 (n : Nat) : bindsF 17 n = decide (0 < n) := by simp [bindsF]
theorem binds_no {op : Int} (h1 : ¬ op = 16) (h2 : ¬ op = 17) (n : Nat) : bindsF op n = false := by simp [bindsF, h1, h2]
set_option maxRecDepth 100000 in
set_option maxHeartbeats 1600000 in
theorem binds_calls (op : Int) (a1 : Option Addr) (n1 c1 : Nat) (so nn mm : Int) (a2 : Option Addr) (n2 c2 : Nat) (w : World) : Calls Tryz.prog 57 #[.agg #[.int .i64 op, .slice a1 n1 c1, .int .i64 so, .int .i64 nn, .int .i64 mm, .slice a2 n2 c2]] w fun e w' => e = .returned (.bool (bindsF op n1)) ∧ Upto [] w w' := by
  have HU := Lib.hid ((Upto.refl [] w).alloc (.cells #[.int .i64 op, .slice a1 n1 c1, .int .i64 so, .int .i64 nn, .int .i64 mm, .slice a2 n2 c2] 30))
  by_cases h16 : op = 16
  · subst h16
    rw [binds_16]
    go_enter Tryz.func57, Tryz.ntmps57
    go_wp2_with fail
    go_ret
    exact ⟨ret_bool rfl, HU.out⟩
  by_cases h17 : op = 17
  · subst h17
    rw [binds_17]
    go_enter Tryz.func57, Tryz.ntmps57
    go_wp2_with fail
    go_ret
    exact ⟨ret_bool rfl, HU.out⟩
  · rw [binds_no h16 h17]
    have e1 : (op == 16) = false := by simpa using h16
    have e2 : (op == 17) = false := by simpa using h17
    go_enter Tryz.func57, Tryz.ntmps57
    go_wp2_with fail
    go_ret
    exact ⟨rfl, HU.out⟩
set_option maxRecDepth 100000 in
set_option maxHeartbeats 1600000 in
theorem bindsR_calls (op : Int) (a1 : Option Addr) (n1 c1 : Nat) (so nn mm : Int) (a2 : Option Addr) (n2 c2 : Nat) (w : World) (hg : op = 16 ∨ op = 17 → 0 < n1) : Calls Tryz.prog 48 #[.agg #[.int .i64 op, .slice a1 n1 c1, .int .i64 so, .int .i64 nn, .int .i64 mm, .slice a2 n2 c2]] w fun e w' => e = .returned (.bool (bindsF op n1)) ∧ Upto [] w w' := by
  have HU := Lib.hid ((Upto.refl [] w).alloc (.cells #[.int .i64 op, .slice a1 n1 c1, .int .i64 so, .int .i64 nn, .int .i64 mm, .slice a2 n2 c2] 25))
  by_cases h16 : op = 16
  · subst h16
    rw [binds_16, decide_eq_true (hg (Or.inl rfl))]
    clear hg
    go_enter Tryz.func48, Tryz.ntmps48
    go_wp2_with fail
    go_ret
    exact ⟨rfl, HU.out⟩
  by_cases h17 : op = 17
  · subst h17
    rw [binds_17, decide_eq_true (hg (Or.inr rfl))]
    clear hg
    go_enter Tryz.func48, Tryz.ntmps48
    go_wp2_with fail
    go_ret
    exact ⟨rfl, HU.out⟩
  · rw [binds_no h16 h17]
    clear hg
    have e1 : (op == 16) = false := by simpa using h16
    have e2 : (op == 17) = false := by simpa using h17
    go_enter Tryz.func48, Tryz.ntmps48
    go_wp2_with fail
    go_ret
    exact ⟨rfl, HU.out⟩
/-- the names that a node uses, as a slice -/
def UsP (P : Nat → Prop) (op : Int) (nms : List (List UInt8)) (w : World) (e : Ending) (w' : World) : Prop := ∃ v, e = .returned v ∧ SlP w' P v (usesF op nms).length ((usesF op nms).map sV) ∧ Upto [] w w'
theorem slp_tail {w : World} {P : Nat → Prop} {g o cc : Nat} {x : List UInt8} {r : List (List UInt8)} (h : SlP w P (.slice (some ⟨g, o, none⟩) (r.length + 1) (cc + 2)) (x :: r).length ((x :: r).map sV)) : SlP w P (.slice (some ⟨g, o + 1, none⟩) r.length (cc + 1)) r.length (r.map sV) := by
  rcases h with ⟨h0, -⟩ | ⟨g', o', c', e, ⟨h1, h2, h3⟩, hc⟩
  · simp at h0
  · simp only [Value.slice.injEq, Option.some.injEq, Addr.mk.injEq] at e
    obtain ⟨⟨rfl, rfl, -⟩, -, rfl⟩ := e
    refine Or.inr ⟨g, o + 1, cc + 1, rfl, ⟨h1, h2, by simp at h3; omega⟩, fun j u hj => ?_⟩
    have := hc (j + 1) u (by simpa using hj)
    rwa [show o + (j + 1) = o + 1 + j by omega] at this
set_option maxRecDepth 100000 in
set_option maxHeartbeats 1600000 in
theorem uses_calls (P : Nat → Prop) (op : Int) (nms : List (List UInt8)) (a1 : Option Addr) (c1 : Nat) (so nn mm : Int) (a2 : Option Addr) (n2 c2 : Nat) (w : World) (hg : op = 10 → 0 < nms.length) (hs : SlP w P (.slice a1 nms.length c1) nms.length (nms.map sV)) (hl : nms.length ≤ 10000000) : Calls Tryz.prog 74 #[.agg #[.int .i64 op, .slice a1 nms.length c1, .int .i64 so, .int .i64 nn, .int .i64 mm, .slice a2 n2 c2]] w (UsP P op nms w) := by
  have HU := Lib.hid ((Upto.refl [] w).alloc (.cells #[.int .i64 op, .slice a1 nms.length c1, .int .i64 so, .int .i64 nn, .int .i64 mm, .slice a2 n2 c2] 30))
  by_cases h10 : op = 10
  · subst h10
    have h0 := hg rfl
    cases nms with
    | nil => simp at h0
    | cons x r =>
      rcases hs with ⟨hz, -⟩ | ⟨g, o, c', e, ⟨hp, hi, hnc⟩, hc⟩
      · simp at hz
      have hs : SlP w P (.slice (some ⟨g, o, none⟩) (x :: r).length c') (x :: r).length ((x :: r).map sV) := Or.inr ⟨g, o, c', rfl, ⟨hp, hi, hnc⟩, hc⟩
      simp only [Value.slice.injEq] at e
      obtain ⟨rfl, -, rfl⟩ := e
      simp only [List.length_cons] at hnc hl
      rw [List.length_cons] at HU ⊢
      generalize hn : r.length = n at *
      have hn1 : (n : Int) + 1 ≤ 10000000 := by omega
      have hn0 : (0 : Int) ≤ n := by omega
      have hmin : min ((n : Int) + 1) 1 = 1 := by omega
      have HS := Lib.hid hs
      have HN := Lib.hid hn
      clear hc hs hi hp hg h0 hn
      by_cases h1 : c1 = 1
      · subst h1
        have h00 : n = 0 := by omega
        subst h00
        go_enter Tryz.func74, Tryz.ntmps74
        go_wp2_with fail
        go_ret
        have hr : r = [] := List.eq_nil_of_length_eq_zero HN.out
        subst hr
        refine ⟨_, rfl, Or.inl ⟨rfl, rfl, _, _, rfl⟩, HU.out⟩
      · obtain ⟨cc, rfl⟩ : ∃ cc, c1 = cc + 2 := ⟨c1 - 2, by omega⟩
        go_enter Tryz.func74, Tryz.ntmps74
        go_wp2_with fail
        go_ret
        have e := HN.out
        subst e
        have HE : usesF 10 (x :: r) = r := by simp [usesF]
        unfold UsP
        rw [HE]
        exact ⟨_, rfl, slp_tail (HS.out.ext HU.out), HU.out⟩
  · have e10 : (op == 10) = false := by simpa using h10
    by_cases h2 : op < 2
    · have e2 : ¬ 2 ≤ op := by omega
      have HE : Hid (usesF op nms = []) := Lib.hid (by unfold usesF; rw [if_neg h10, if_neg (by omega)])
      clear hs hg
      go_enter Tryz.func74, Tryz.ntmps74
      go_wp2_with fail
      go_ret
      unfold UsP
      rw [HE.out]
      exact ⟨_, rfl, SlP.nil, HU.out⟩
    · by_cases h3 : op < 10
      · have e2 : 2 ≤ op := by omega
        have HE : Hid (usesF op nms = nms) := Lib.hid (by unfold usesF; rw [if_neg h10, if_pos (by omega)])
        have HS := Lib.hid (hs.ext HU.out)
        clear hs hg
        go_enter Tryz.func74, Tryz.ntmps74
        go_wp2_with fail
        go_ret
        unfold UsP
        rw [HE.out]
        exact ⟨_, rfl, HS.out, HU.out⟩
      · have e2 : 2 ≤ op := by omega
        have HE : Hid (usesF op nms = []) := Lib.hid (by unfold usesF; rw [if_neg h10, if_neg (by omega)])
        clear hs hg
        go_enter Tryz.func74, Tryz.ntmps74
        go_wp2_with fail
        go_ret
        unfold UsP
        rw [HE.out]
        exact ⟨_, rfl, SlP.nil, HU.out⟩
set_option maxRecDepth 100000 in
set_option maxHeartbeats 1600000 in
theorem used_calls (P : Nat → Prop) (op : Int) (nms : List (List UInt8)) (a1 : Option Addr) (c1 : Nat) (so nn mm : Int) (a2 : Option Addr) (n2 c2 : Nat) (w : World) (hg : op = 10 → 0 < nms.length) (hs : SlP w P (.slice a1 nms.length c1) nms.length (nms.map sV)) (hl : nms.length ≤ 10000000) : Calls Tryz.prog 58 #[.agg #[.int .i64 op, .slice a1 nms.length c1, .int .i64 so, .int .i64 nn, .int .i64 mm, .slice a2 n2 c2]] w (UsP P op nms w) := by
  have HU := Lib.hid ((Upto.refl [] w).alloc (.cells #[.int .i64 op, .slice a1 nms.length c1, .int .i64 so, .int .i64 nn, .int .i64 mm, .slice a2 n2 c2] 25))
  by_cases h10 : op = 10
  · subst h10
    have h0 := hg rfl
    cases nms with
    | nil => simp at h0
    | cons x r =>
      rcases hs with ⟨hz, -⟩ | ⟨g, o, c', e, ⟨hp, hi, hnc⟩, hc⟩
      · simp at hz
      have hs : SlP w P (.slice (some ⟨g, o, none⟩) (x :: r).length c') (x :: r).length ((x :: r).map sV) := Or.inr ⟨g, o, c', rfl, ⟨hp, hi, hnc⟩, hc⟩
      simp only [Value.slice.injEq] at e
      obtain ⟨rfl, -, rfl⟩ := e
      simp only [List.length_cons] at hnc hl
      rw [List.length_cons] at HU ⊢
      generalize hn : r.length = n at *
      have hn1 : (n : Int) + 1 ≤ 10000000 := by omega
      have hn0 : (0 : Int) ≤ n := by omega
      have HS := Lib.hid hs
      have HN := Lib.hid hn
      clear hc hs hi hp hg h0 hn
      by_cases h1 : c1 = 1
      · subst h1
        have h00 : n = 0 := by omega
        subst h00
        go_enter Tryz.func58, Tryz.ntmps58
        go_wp2_with fail
        go_ret
        have hr : r = [] := List.eq_nil_of_length_eq_zero HN.out
        subst hr
        refine ⟨_, rfl, Or.inl ⟨rfl, rfl, _, _, rfl⟩, HU.out⟩
      · obtain ⟨cc, rfl⟩ : ∃ cc, c1 = cc + 2 := ⟨c1 - 2, by omega⟩
        go_enter Tryz.func58, Tryz.ntmps58
        go_wp2_with fail
        go_ret
        have e := HN.out
        subst e
        have HE : usesF 10 (x :: r) = r := by simp [usesF]
        unfold UsP
        rw [HE]
        exact ⟨_, rfl, slp_tail (HS.out.ext HU.out), HU.out⟩
  · have e10 : (op == 10) = false := by simpa using h10
    by_cases h2 : op < 2
    · have e2 : ¬ 11 ≤ op := by omega
      have HE : Hid (usesF op nms = []) := Lib.hid (by unfold usesF; rw [if_neg h10, if_neg (by omega)])
      clear hs hg
      go_enter Tryz.func58, Tryz.ntmps58
      go_wp2_with fail
      go_ret
      unfold UsP
      rw [HE.out]
      exact ⟨_, rfl, SlP.nil, HU.out⟩
    · by_cases h3 : 11 ≤ op
      · have HE : Hid (usesF op nms = []) := Lib.hid (by unfold usesF; rw [if_neg h10, if_neg (by omega)])
        clear hs hg
        go_enter Tryz.func58, Tryz.ntmps58
        go_wp2_with fail
        go_ret
        unfold UsP
        rw [HE.out]
        exact ⟨_, rfl, SlP.nil, HU.out⟩
      · have HE : Hid (usesF op nms = nms) := Lib.hid (by unfold usesF; rw [if_neg h10, if_pos (by omega)])
        have HS := Lib.hid (hs.ext HU.out)
        clear hs hg
        go_enter Tryz.func58, Tryz.ntmps58
        go_wp2_with fail
        go_ret
        unfold UsP
        rw [HE.out]
        exact ⟨_, rfl, HS.out, HU.out⟩
end Go.Proofs.YtbnebkkpmcjmbaaGreatDoor


namespace Go.Proofs.YtbnebkkpmcjmbaaGreatDoor
open Go.RowKit Go.PL Go.Maps

set_option maxRecDepth 100000 in
set_option maxHeartbeats 6400000 in
theorem count_calls : ∀ (k : Nat) (nd : Nd), sizeF nd ≤ k → k ≤ 10000000 → ∀ (v : Value) (w : World) (P : Nat → Prop), NdV w P nd v → Calls Tryz.prog 38 #[v] w fun e w' => e = .returned (.int .i64 (sizeF nd)) ∧ Upto [] w w'
  | 0, nd, hk, _, _, _, _, _ => by have := sizeF_pos nd; omega
  | k + 1, .mk op nms so nn mm l, hk, hk7, v, w, P, h => by
    obtain ⟨a1, c1, a2, c2, rfl, -, hg⟩ := h.open
    have HG := Lib.hid hg
    have hsz : sizesF l ≤ k := by simp only [sizeF] at hk; omega
    have HSZ := Lib.hid hsz
    have HE : Hid (sizeF (.mk op nms so nn mm l) = 1 + sizesF l) := Lib.hid (by simp only [sizeF])
    have HLEN : Hid (l.length ≤ 10000000) := Lib.hid (by have := sizes_len l; omega)
    have hlen := HLEN.out
    have hu1 : Upto [] w (w.alloc (.cells #[.int .i64 op, .slice a1 nms.length c1, .int .i64 so, .int .i64 nn, .int .i64 mm, .slice a2 l.length c2] 25)) := (Upto.refl [] w).alloc _
    have HB1 := Lib.hid (new_at w (.cells #[.int .i64 op, .slice a1 nms.length c1, .int .i64 so, .int .i64 nn, .int .i64 mm, .slice a2 l.length c2] 25))
    have HU1 := Lib.hid hu1
    generalize hll : l.length = ll at *
    have HLL := Lib.hid hll
    have hL0 : (0 : Int) ≤ ll := by omega
    have hL1 : (ll : Int) ≤ 10000000 := by omega
    clear h hg hsz hll hlen hk hu1
    go_enter Tryz.func38, Tryz.ntmps38
    go_wp2_with fail
    go_loopw [3, 4] (fun s i wr => ∃ j : Nat, j ≤ ll ∧ i = .int .i64 j ∧ s = .int .i64 (1 + (sizesF (l.take j) : Int)) ∧ Hid (Upto [] (w.alloc (.cells #[.int .i64 op, .slice a1 nms.length c1, .int .i64 so, .int .i64 nn, .int .i64 mm, .slice a2 ll c2] 25)) wr)) (fun _ i _ => ll - (intOf i).toNat)
    case atStart => exact ⟨0, by omega, rfl, by simp [sizesF], Lib.hid (Upto.refl _ _)⟩
    case round =>
      obtain ⟨j, hj, rfl, rfl, HU⟩ := hrel
      have hb := HU.out.at HB1.out (by simp)
      have y5 := cell_of hb 5
      simp only [List.getElem?_toArray, List.getElem?_cons_zero, List.getElem?_cons_succ] at y5
      rcases Nat.lt_or_ge j ll with hlt | hge
      · obtain ⟨x, hx⟩ : ∃ x, l[j]? = some x := ⟨_, List.getElem?_eq_getElem (by have := HLL.out; omega)⟩
        obtain ⟨g, o, xo, xn1, xn2, xn3, xs, xm, xq, xl1, xl2, xl3, rfl, d0, d1, d2, d3, d4, d5, hnx⟩ := HG.out j x hx
        have hw := HU1.out.trans_ext HU.out
        replace d0 := up_cell hw d0
        replace d1 := up_cell hw d1
        replace d2 := up_cell hw d2
        replace d3 := up_cell hw d3
        replace d4 := up_cell hw d4
        replace d5 := up_cell hw d5
        have hst := sizesF_take l j x hx
        have HST := Lib.hid hst
        have HXX := Lib.hid hx
        have HC := Lib.hid (count_calls k x (by have := HSZ.out; omega) (by omega) _ wr P (hnx.ext hw))
        have hltI : (j : Int) < ll := by omega
        have hj0 : (0 : Int) ≤ j := by omega
        have hb1 := HSZ.out
        have hb2 := sizeF_pos x
        have hb3 := depth_le_size x
        have hb4 := depths_le_sizes (l.take j)
        generalize hA : sizesF (l.take j) = A at *
        generalize hB : sizeF x = B at *
        have hA0 : (0 : Int) ≤ A := by omega
        have hA1 : (A : Int) ≤ 10000000 := by omega
        have hB0 : (0 : Int) ≤ B := by omega
        have hB1 : (B : Int) ≤ 10000000 := by omega
        have HAB := Lib.hid (And.intro hA hB)
        clear hst hnx hx hb1 hb2 hb3 hb4 hA hB hb hw
        go_wp2_with fail
        refine HC.out.mono ?_
        rintro e w5 ⟨rfl, hu5⟩
        have HU5 := Lib.hid (HU.out.trans_ext hu5)
        clear hu5
        go_wp2_with fail
        go_roundw
        case rel => exact ⟨j + 1, by omega, by go_num, by rw [HST.out.1]; congr 1; omega, HU5⟩
        case measure => simp [intOf]; omega
      · obtain rfl : j = ll := by omega
        have hgeI : ¬ (j : Int) < j := by omega
        have HT : Hid (l.take j = l) := Lib.hid (by rw [← HLL.out, List.take_length])
        rw [HT.out]
        have hq1 := HSZ.out
        have hq2 := depths_le_sizes l
        generalize hA : sizesF l = A at *
        have hA0 : (0 : Int) ≤ A := by omega
        have hA1 : (A : Int) ≤ 10000000 := by omega
        have HUF := Lib.hid (HU1.out.trans_ext HU.out)
        clear hq1 hq2 hA hb
        go_wp2
        go_ret
        exact ⟨by rw [HE.out]; exact ret_int (by omega), HUF.out⟩

set_option maxRecDepth 100000 in
set_option maxHeartbeats 6400000 in
theorem deep_calls : ∀ (k : Nat) (nd : Nd), sizeF nd ≤ k → k ≤ 10000000 → ∀ (v : Value) (w : World) (P : Nat → Prop), NdV w P nd v → Calls Tryz.prog 39 #[v] w fun e w' => e = .returned (.int .i64 (depthF nd)) ∧ Upto [] w w'
  | 0, nd, hk, _, _, _, _, _ => by have := sizeF_pos nd; omega
  | k + 1, .mk op nms so nn mm l, hk, hk7, v, w, P, h => by
    obtain ⟨a1, c1, a2, c2, rfl, -, hg⟩ := h.open
    have HG := Lib.hid hg
    have hsz : sizesF l ≤ k := by simp only [sizeF] at hk; omega
    have HSZ := Lib.hid hsz
    have HE : Hid (depthF (.mk op nms so nn mm l) = depthsF l + 1) := Lib.hid (by simp only [depthF])
    have HLEN : Hid (l.length ≤ 10000000) := Lib.hid (by have := sizes_len l; omega)
    have hlen := HLEN.out
    have hu1 : Upto [] w (w.alloc (.cells #[.int .i64 op, .slice a1 nms.length c1, .int .i64 so, .int .i64 nn, .int .i64 mm, .slice a2 l.length c2] 25)) := (Upto.refl [] w).alloc _
    have HB1 := Lib.hid (new_at w (.cells #[.int .i64 op, .slice a1 nms.length c1, .int .i64 so, .int .i64 nn, .int .i64 mm, .slice a2 l.length c2] 25))
    have HU1 := Lib.hid hu1
    generalize hll : l.length = ll at *
    have HLL := Lib.hid hll
    have hL0 : (0 : Int) ≤ ll := by omega
    have hL1 : (ll : Int) ≤ 10000000 := by omega
    clear h hg hsz hll hlen hk hu1
    go_enter Tryz.func39, Tryz.ntmps39
    go_wp2_with fail
    go_loopw [3, 4] (fun s i wr => ∃ j : Nat, j ≤ ll ∧ i = .int .i64 j ∧ s = .int .i64 ((depthsF (l.take j) : Int)) ∧ Hid (Upto [] (w.alloc (.cells #[.int .i64 op, .slice a1 nms.length c1, .int .i64 so, .int .i64 nn, .int .i64 mm, .slice a2 ll c2] 25)) wr)) (fun _ i _ => ll - (intOf i).toNat)
    case atStart => exact ⟨0, by omega, rfl, by simp [depthsF], Lib.hid (Upto.refl _ _)⟩
    case round =>
      obtain ⟨j, hj, rfl, rfl, HU⟩ := hrel
      have hb := HU.out.at HB1.out (by simp)
      have y5 := cell_of hb 5
      simp only [List.getElem?_toArray, List.getElem?_cons_zero, List.getElem?_cons_succ] at y5
      rcases Nat.lt_or_ge j ll with hlt | hge
      · obtain ⟨x, hx⟩ : ∃ x, l[j]? = some x := ⟨_, List.getElem?_eq_getElem (by have := HLL.out; omega)⟩
        obtain ⟨g, o, xo, xn1, xn2, xn3, xs, xm, xq, xl1, xl2, xl3, rfl, d0, d1, d2, d3, d4, d5, hnx⟩ := HG.out j x hx
        have hw := HU1.out.trans_ext HU.out
        replace d0 := up_cell hw d0
        replace d1 := up_cell hw d1
        replace d2 := up_cell hw d2
        replace d3 := up_cell hw d3
        replace d4 := up_cell hw d4
        replace d5 := up_cell hw d5
        have hst := sizesF_take l j x hx
        have HST := Lib.hid hst
        have HXX := Lib.hid hx
        have HC := Lib.hid (deep_calls k x (by have := HSZ.out; omega) (by omega) _ wr P (hnx.ext hw))
        have hltI : (j : Int) < ll := by omega
        have hj0 : (0 : Int) ≤ j := by omega
        have hb1 := HSZ.out
        have hb2 := sizeF_pos x
        have hb3 := depth_le_size x
        have hb4 := depths_le_sizes (l.take j)
        generalize hA : depthsF (l.take j) = A at *
        generalize hB : depthF x = B at *
        have hA0 : (0 : Int) ≤ A := by omega
        have hA1 : (A : Int) ≤ 10000000 := by omega
        have hB0 : (0 : Int) ≤ B := by omega
        have hB1 : (B : Int) ≤ 10000000 := by omega
        have HAB := Lib.hid (And.intro hA hB)
        clear hst hnx hx hb1 hb2 hb3 hb4 hA hB hb hw
        have HMX : Hid (depthsF (l.take (j + 1)) = max A B) := Lib.hid (by rw [depthsF_take l j x HXX.out, HAB.out.1, HAB.out.2])
        rcases Nat.lt_or_ge A B with hab | hab
        · have habI : (A : Int) < B := by omega
          have hmx : max (A : Int) B = B := by omega
          go_wp2_with fail
          refine HC.out.mono ?_
          rintro e w5 ⟨rfl, hu5⟩
          have HU5 := Lib.hid (HU.out.trans_ext hu5)
          clear hu5
          go_wp2_with fail
          go_roundw
          case rel => exact ⟨j + 1, by omega, by go_num, by rw [HMX.out]; first | rfl | (congr 1; omega), HU5⟩
          case measure => simp [intOf]; omega
        · have habI : (B : Int) ≤ A := by omega
          have hmx : max (A : Int) B = A := by omega
          go_wp2_with fail
          refine HC.out.mono ?_
          rintro e w5 ⟨rfl, hu5⟩
          have HU5 := Lib.hid (HU.out.trans_ext hu5)
          clear hu5
          go_wp2_with fail
          go_roundw
          case rel => exact ⟨j + 1, by omega, by go_num, by rw [HMX.out]; first | rfl | (congr 1; omega), HU5⟩
          case measure => simp [intOf]; omega
      · obtain rfl : j = ll := by omega
        have hgeI : ¬ (j : Int) < j := by omega
        have HT : Hid (l.take j = l) := Lib.hid (by rw [← HLL.out, List.take_length])
        rw [HT.out]
        have hq1 := HSZ.out
        have hq2 := depths_le_sizes l
        generalize hA : depthsF l = A at *
        have hA0 : (0 : Int) ≤ A := by omega
        have hA1 : (A : Int) ≤ 10000000 := by omega
        have HUF := Lib.hid (HU1.out.trans_ext HU.out)
        clear hq1 hq2 hA hb
        go_wp2
        go_ret
        exact ⟨by rw [HE.out]; exact ret_int (by omega), HUF.out⟩

end Go.Proofs.YtbnebkkpmcjmbaaGreatDoor


namespace Go.Proofs.YtbnebkkpmcjmbaaGreatDoor
open Go.RowKit Go.PL Go.Maps
mutual
/-- a quantifier has a name, a call has one -/
def goodN : Nd → Prop
  | .mk op nms _ _ _ l => (op = 10 ∨ op = 16 ∨ op = 17 → 0 < nms.length) ∧ goodsN l
def goodsN : List Nd → Prop
  | [] => True
  | x :: xs => goodN x ∧ goodsN xs
end
theorem goodsN_mem : ∀ {l : List Nd}, goodsN l → ∀ x ∈ l, goodN x
  | [], _, x, hx => by cases hx
  | y :: ys, h, x, hx => by
    unfold goodsN at h
    rcases List.mem_cons.1 hx with rfl | hx
    · exact h.1
    · exact goodsN_mem h.2 x hx
end Go.Proofs.YtbnebkkpmcjmbaaGreatDoor


namespace Go.Proofs.YtbnebkkpmcjmbaaGreatDoor
open Go.RowKit Go.PL Go.Maps
set_option maxRecDepth 100000 in
set_option maxHeartbeats 1600000 in
theorem binds16_calls (a1 : Option Addr) (n1 c1 : Nat) (so nn mm : Int) (a2 : Option Addr) (n2 c2 : Nat) (h1 : 1 ≤ n1) (w : World) : Calls Tryz.prog 57 #[.agg #[.int .i64 16, .slice a1 n1 c1, .int .i64 so, .int .i64 nn, .int .i64 mm, .slice a2 n2 c2]] w fun e w' => e = .returned (.bool true) ∧ Upto [] w w' := by
  have HU := Lib.hid ((Upto.refl [] w).alloc (.cells #[.int .i64 16, .slice a1 n1 c1, .int .i64 so, .int .i64 nn, .int .i64 mm, .slice a2 n2 c2] 30))
  have hn : (0 : Int) < n1 := by omega
  go_enter Tryz.func57, Tryz.ntmps57
  go_wp2_with fail
  go_ret
  exact ⟨ret_bool (decide_eq_true (by omega)), HU.out⟩
set_option maxRecDepth 100000 in
set_option maxHeartbeats 1600000 in
theorem binds5_calls (a1 : Option Addr) (n1 c1 : Nat) (so nn mm : Int) (a2 : Option Addr) (n2 c2 : Nat) (w : World) : Calls Tryz.prog 57 #[.agg #[.int .i64 5, .slice a1 n1 c1, .int .i64 so, .int .i64 nn, .int .i64 mm, .slice a2 n2 c2]] w fun e w' => e = .returned (.bool false) ∧ Upto [] w w' := by
  have HU := Lib.hid ((Upto.refl [] w).alloc (.cells #[.int .i64 5, .slice a1 n1 c1, .int .i64 so, .int .i64 nn, .int .i64 mm, .slice a2 n2 c2] 30))
  go_enter Tryz.func57, Tryz.ntmps57
  go_wp2_with fail
  go_ret
  exact ⟨rfl, HU.out⟩
set_option maxRecDepth 100000 in
set_option maxHeartbeats 1600000 in
theorem uses16_calls (a1 : Option Addr) (n1 c1 : Nat) (so nn mm : Int) (a2 : Option Addr) (n2 c2 : Nat) (w : World) : Calls Tryz.prog 74 #[.agg #[.int .i64 16, .slice a1 n1 c1, .int .i64 so, .int .i64 nn, .int .i64 mm, .slice a2 n2 c2]] w fun e w' => e = .returned (.slice none 0 0) ∧ Upto [] w w' := by
  have HU := Lib.hid ((Upto.refl [] w).alloc (.cells #[.int .i64 16, .slice a1 n1 c1, .int .i64 so, .int .i64 nn, .int .i64 mm, .slice a2 n2 c2] 30))
  go_enter Tryz.func74, Tryz.ntmps74
  go_wp2_with fail
  go_ret
  exact ⟨rfl, HU.out⟩
set_option maxRecDepth 100000 in
set_option maxHeartbeats 1600000 in
theorem uses5_calls (a1 : Option Addr) (n1 c1 : Nat) (so nn mm : Int) (a2 : Option Addr) (n2 c2 : Nat) (w : World) : Calls Tryz.prog 74 #[.agg #[.int .i64 5, .slice a1 n1 c1, .int .i64 so, .int .i64 nn, .int .i64 mm, .slice a2 n2 c2]] w fun e w' => e = .returned (.slice a1 n1 c1) ∧ Upto [] w w' := by
  have HU := Lib.hid ((Upto.refl [] w).alloc (.cells #[.int .i64 5, .slice a1 n1 c1, .int .i64 so, .int .i64 nn, .int .i64 mm, .slice a2 n2 c2] 30))
  go_enter Tryz.func74, Tryz.ntmps74
  go_wp2_with fail
  go_ret
  exact ⟨rfl, HU.out⟩
set_option maxRecDepth 100000 in
set_option maxHeartbeats 3200000 in
/-- the free names of an atom over different names -/
theorem free5_calls (ns : List (List UInt8)) (hnd : ns.Nodup) (hl : ns.length ≤ 100) (P : Nat → Prop) (a1 : Option Addr) (c1 : Nat) (so nn mm : Int) (a2 : Option Addr) (c2 : Nat) (w : World) (h : SlP w P (.slice a1 ns.length c1) ns.length (ns.map sV)) : Calls Tryz.prog 54 #[.agg #[.int .i64 5, .slice a1 ns.length c1, .int .i64 so, .int .i64 nn, .int .i64 mm, .slice a2 0 c2], .slice none 0 0, .slice none 0 0] w fun e w' => ∃ vo, e = .returned vo ∧ TxI w ns vo w' := by
  have hu1 : Upto [] w (w.alloc (.cells #[.int .i64 5, .slice a1 ns.length c1, .int .i64 so, .int .i64 nn, .int .i64 mm, .slice a2 0 c2] 30)) := (Upto.refl [] w).alloc _
  have hb1 := new_at w (.cells #[.int .i64 5, .slice a1 ns.length c1, .int .i64 so, .int .i64 nn, .int .i64 mm, .slice a2 0 c2] 30)
  obtain ⟨W, hW⟩ : ∃ W, W = w.alloc (.cells #[.int .i64 5, .slice a1 ns.length c1, .int .i64 so, .int .i64 nn, .int .i64 mm, .slice a2 0 c2] 30) := ⟨_, rfl⟩
  rw [← hW] at hu1 hb1
  have HU1 := Lib.hid hu1
  have HB1 := Lib.hid hb1
  have HUS := Lib.hid (fun u => uses5_calls a1 ns.length c1 so nn mm a2 0 c2 u)
  have HBI := Lib.hid (fun u => binds5_calls a1 ns.length c1 so nn mm a2 0 c2 u)
  have HC : Hid (∀ j, j < ns.length → ∃ g o, a1 = some ⟨g, o, none⟩ ∧ ∀ u, Upto [] W u → u.cell? ⟨g, o + j, none⟩ = some (.string ⟨(ns.getD j []).toArray⟩)) := Lib.hid (fun j hj => by
    rcases h with ⟨h0, -⟩ | ⟨g, o, c', e, -, hc⟩
    · omega
    · simp only [Value.slice.injEq] at e
      refine ⟨g, o, e.1, fun u hu => ?_⟩
      have h1 := hc j (sV ns[j]) (by simp [hj])
      rw [((HU1.out.trans_ext hu).cell (World.block_lt_of_cell? w _ h1) (by simp)).trans h1]
      simp [sV, List.getD, hj])
  have HNC : Hid (∀ j, j < ns.length → (ns.take j).contains (ns.getD j []) = false ∧ ns.take (j + 1) = ns.take j ++ [ns.getD j []]) := Lib.hid (fun j hj => by
    have e : ns.getD j [] = ns[j] := by simp [List.getD, hj]
    refine ⟨?_, by rw [e]; exact List.take_succ_eq_append_getElem hj⟩
    cases hc : (ns.take j).contains (ns.getD j []) with
    | false => rfl
    | true =>
      rw [e] at hc
      have hm : ns[j] ∈ ns.take j := by simpa using hc
      obtain ⟨i, hi, e2⟩ := List.mem_iff_getElem.1 hm
      have hij : i < j := by rw [List.length_take] at hi; omega
      rw [List.getElem_take] at e2
      exact absurd e2 ((List.pairwise_iff_getElem.1 hnd) i j (by omega) hj hij))
  have HCN := Lib.hid (fun (x : List UInt8) (u : World) => containsS_calls [] x (.slice none 0 0) u (fun _ => True) SlP.nil (by simp))
  have HCO := Lib.hid (fun (ls : List (List UInt8)) (x : List UInt8) (l : Value) (u : World) (ht : TxI W ls l u) (hn : ls.length ≤ 100) => containsS_calls ls x l u _ ht.slp (by omega))
  obtain ⟨i0, hi0, hz0, hz1, hz2⟩ := info9'
  have HI0 := Lib.hid hi0
  have HZ0 := Lib.hid hz0
  have HZ1 := Lib.hid hz1
  have HZ2 := Lib.hid hz2
  obtain ⟨x0, x1, x2, x3, x4, x5⟩ := cells6 hb1
  have HTK : Hid (ns.take ns.length = ns) := Lib.hid (List.take_of_length_le (Nat.le_refl _))
  have HTL : Hid (∀ j, j ≤ ns.length → (ns.take j).length = j) := Lib.hid (fun j hj => by rw [List.length_take]; omega)
  generalize hln : ns.length = n at *
  have hn0 : (0 : Int) ≤ n := by omega
  have hn1 : (n : Int) ≤ 100 := by omega
  clear h hi0 hz0 hz1 hz2 hu1 hb1 hnd
  go_enter Tryz.func54, Tryz.ntmps54
  go_wp2_with fail
  simp only [← hW]
  clear hW
  go_wp2_with fail
  refine (HUS.out _).mono ?_
  rintro e w1 ⟨rfl, hu1⟩
  have HU2 := Lib.hid (hu1)
  have HB2 := Lib.hid (hu1.at HB1.out (by simp))
  clear hu1 x0 x1 x2 x3 x4 x5
  go_wp2_with fail
  go_loopw [2, 14] (fun vl vi wr => ∃ (j : Nat) (va : Option Addr) (vc : Nat), vi = .int .i64 j ∧ vl = .slice va j vc ∧ j ≤ n ∧ Hid (TxI W (ns.take j) (.slice va j vc) wr)) (fun _ vi _ => n - (intOf vi).toNat)
  case atStart => exact ⟨0, none, 0, rfl, rfl, by omega, Lib.hid (by rw [List.take_zero]; exact TxI.nil W w1 HU2.out)⟩
  case round =>
    obtain ⟨j, va, vc, rfl, rfl, hj, HI⟩ := hrel
    have hj0 : (0 : Int) ≤ j := by omega
    rcases Nat.lt_or_ge j n with hlt | hge
    · obtain ⟨g, o, rfl, hcell⟩ := HC.out j hlt
      have hc := hcell wr HI.out.up
      have hltI : (j : Int) < n := by omega
      obtain ⟨hnc, htk⟩ := HNC.out j hlt
      have HTL2 := Lib.hid (HTL.out j (by omega))
      generalize ns.getD j [] = y at *
      have HNC2 := Lib.hid hnc
      have HTK2 := Lib.hid htk
      clear hcell hnc htk
      go_wp2_with fail
      refine (HCN.out y wr).mono ?_
      rintro e w2 ⟨rfl, rfl⟩
      rw [show ([] : List (List UInt8)).contains y = false from rfl]
      go_wp2_with fail
      refine (HCO.out _ y _ w2 HI.out (by rw [HTL2.out]; omega)).mono ?_
      rintro e w3 ⟨rfl, rfl⟩
      rw [HNC2.out]
      have HT := Lib.hid (HI.out.ext ((Upto.refl [] _).alloc (.cells #[.string ⟨y.toArray⟩] 9)))
      have hrow := HT.out.row
      rw [HTL2.out] at hrow
      have hsrc := cells_at (l := [sV y]) (new_at w3 (.cells #[.string ⟨y.toArray⟩] 9))
      go_wp2_with (at_builtin; refine wpList_app _ rfl (.tmp 28) (.tmp 30) 22 rfl 9 i0 (.string ⟨#[]⟩) 1 16 Tryz.underlying22 HI0.out HZ0.out HZ1.out HZ2.out rfl (by decide) (.slice va j vc) j _ rfl hrow ⟨w3.heap.size, 0, none⟩ 1 1 [sV y] rfl rfl hsrc (by simp [Value.oneCell', sV]) (by unfold maxLen; omega) (by omega) ?_; intro vb vd w4 ho4 hu4 hw4; have HM5 := Lib.hid (HT.out.app HTL2.out ho4 hu4 hw4); clear hrow hsrc ho4 hu4 hw4)
      rw [show (j : Int) + 1 = ((j + 1 : Nat) : Int) from rfl]
      exact ⟨⟨j + 1, vb, vd, rfl, rfl, by omega, Lib.hid (by rw [HTK2.out]; exact HM5.out)⟩, meas_up (by omega) rfl⟩
    · obtain rfl : j = n := by omega
      have hgeI : ¬ ((j : Int) < j) := by omega
      have HB3 := Lib.hid (HI.out.up.at HB1.out (by simp))
      obtain ⟨y0, y1, y2, y3, y4, y5⟩ := cells6 HB3.out
      go_wp2_with fail
      refine (HBI.out wr).mono ?_
      rintro e w2 ⟨rfl, hu2⟩
      have HB4 := Lib.hid (hu2.at HB3.out (by simp))
      have HE := Lib.hid (HI.out.ext hu2)
      rw [HTK.out] at HE
      clear y0 y1 y2 y3 y4 y5 hu2
      have z5 := cell_of HB4.out 5
      simp only [List.getElem?_toArray, List.getElem?_cons_zero, List.getElem?_cons_succ] at z5
      go_wp2_with fail
      clear z5
      go_loopw [2, 46] (fun vl vi wr => vl = .slice va j vc ∧ vi = .int .i64 0 ∧ wr = w2) (fun _ _ _ => 0)
      case atStart => exact ⟨rfl, rfl, rfl⟩
      case round =>
        obtain ⟨rfl, rfl, rfl⟩ := hrel
        go_wp2_with fail
        go_ret
        exact ⟨_, rfl, HE.out.row, fun g hg => Nat.le_trans HU1.out.size (HE.out.own g hg), HU1.out.trans_ext HE.out.up⟩
end Go.Proofs.YtbnebkkpmcjmbaaGreatDoor


namespace Go.Proofs.YtbnebkkpmcjmbaaGreatDoor
open Go.RowKit Go.PL Go.Maps
set_option maxRecDepth 100000 in
set_option maxHeartbeats 1600000 in
theorem bound1_calls (a1 : Option Addr) (n1 c1 : Nat) (so nn mm : Int) (a2 : Option Addr) (n2 c2 : Nat) (p : Value) (w : World) : Calls Tryz.prog 56 #[.agg #[.int .i64 5, .slice a1 n1 c1, .int .i64 so, .int .i64 nn, .int .i64 mm, .slice a2 n2 c2], p] w fun e w' => e = .returned (.tuple #[]) ∧ Upto [] w w' := by
  have HU := Lib.hid ((Upto.refl [] w).alloc (.cells #[.int .i64 5, .slice a1 n1 c1, .int .i64 so, .int .i64 nn, .int .i64 mm, .slice a2 n2 c2] 30))
  have HBI := Lib.hid (fun u => binds5_calls a1 n1 c1 so nn mm a2 n2 c2 u)
  have hb := new_at w (.cells #[.int .i64 5, .slice a1 n1 c1, .int .i64 so, .int .i64 nn, .int .i64 mm, .slice a2 n2 c2] 30)
  obtain ⟨W, hW⟩ : ∃ W, W = w.alloc (.cells #[.int .i64 5, .slice a1 n1 c1, .int .i64 so, .int .i64 nn, .int .i64 mm, .slice a2 n2 c2] 30) := ⟨_, rfl⟩
  rw [← hW] at hb HU
  have e0 : ∀ u : Ext W, u.w.cell? ⟨w.heap.size, 0, none⟩ = some (.int .i64 5) := fun u => u.cell (cell_of hb 0)
  have e1 : ∀ u : Ext W, u.w.cell? ⟨w.heap.size, 1, none⟩ = some (.slice a1 n1 c1) := fun u => u.cell (cell_of hb 1)
  have e2 : ∀ u : Ext W, u.w.cell? ⟨w.heap.size, 2, none⟩ = some (.int .i64 so) := fun u => u.cell (cell_of hb 2)
  have e3 : ∀ u : Ext W, u.w.cell? ⟨w.heap.size, 3, none⟩ = some (.int .i64 nn) := fun u => u.cell (cell_of hb 3)
  have e4 : ∀ u : Ext W, u.w.cell? ⟨w.heap.size, 4, none⟩ = some (.int .i64 mm) := fun u => u.cell (cell_of hb 4)
  have e5 : ∀ u : Ext W, u.w.cell? ⟨w.heap.size, 5, none⟩ = some (.slice a2 n2 c2) := fun u => u.cell (cell_of hb 5)
  clear hb
  go_enter Tryz.func56, Tryz.ntmps56
  go_wp2_with fail
  simp only [← hW]
  clear hW
  refine wp_region_seg_all [1, 8] [] [0, 1, 2, 3, 4, 5, 6, 7, 8, 9, 10] (by kernel_rfl) (by kernel_rfl) ?_
  (refine seg_plain rfl rfl rfl rfl rfl ?_; intro K' hK'; go_big_quiet_op; go_big_quiet_on)
  refine seg_call rfl rfl rfl rfl (fun w => by go_simp) (fun w hu hd => HBI.out w) ?_
  simp only [Act.put, List.setIfInBounds_toArray, List.set_cons_zero, List.set_cons_succ]
  (refine seg_plain rfl rfl rfl rfl rfl ?_; intro K' hK'; go_big_quiet_op; go_big_quiet_on)
  refine seg_skip rfl rfl ?_
  simp only [Act.put, List.setIfInBounds_toArray, List.set_cons_zero, List.set_cons_succ]
  refine seg_skip rfl rfl ?_
  simp only [Act.put, List.setIfInBounds_toArray, List.set_cons_zero, List.set_cons_succ]
  refine seg_skip rfl rfl ?_
  simp only [Act.put, List.setIfInBounds_toArray, List.set_cons_zero, List.set_cons_succ]
  refine seg_skip rfl rfl ?_
  simp only [Act.put, List.setIfInBounds_toArray, List.set_cons_zero, List.set_cons_succ]
  refine seg_skip rfl rfl ?_
  simp only [Act.put, List.setIfInBounds_toArray, List.set_cons_zero, List.set_cons_succ]
  refine seg_skip rfl rfl ?_
  simp only [Act.put, List.setIfInBounds_toArray, List.set_cons_zero, List.set_cons_succ]
  refine seg_skip rfl rfl ?_
  simp only [Act.put, List.setIfInBounds_toArray, List.set_cons_zero, List.set_cons_succ]
  (refine seg_plain rfl rfl rfl rfl rfl ?_; intro K' hK'; go_big_quiet_op; go_big_quiet_on)
  intro w9 hg
  have HU9 := Lib.hid (HU.out.trans_ext hg.up)
  clear hg e0 e1 e2 e3 e4 e5
  go_wp2_with fail
  exact bodyPost_end (v := .tuple #[]) (by simp [results, Tryz.results56, go_sem]) rfl ⟨rfl, HU9.out⟩
set_option maxRecDepth 100000 in
set_option maxHeartbeats 1600000 in
theorem walk5_calls (a1 : Option Addr) (n1 c1 : Nat) (so nn mm : Int) (a2 : Option Addr) (c2 : Nat) (p : Value) (w : World) : Calls Tryz.prog 55 #[.agg #[.int .i64 5, .slice a1 n1 c1, .int .i64 so, .int .i64 nn, .int .i64 mm, .slice a2 0 c2], .func (.func 56) #[] #[p]] w fun e w' => e = .returned (.tuple #[]) ∧ Upto [] w w' := by
  have HU := Lib.hid ((Upto.refl [] w).alloc (.cells #[.int .i64 5, .slice a1 n1 c1, .int .i64 so, .int .i64 nn, .int .i64 mm, .slice a2 0 c2] 30))
  have HB := Lib.hid (new_at w (.cells #[.int .i64 5, .slice a1 n1 c1, .int .i64 so, .int .i64 nn, .int .i64 mm, .slice a2 0 c2] 30))
  have HBO := Lib.hid (fun u => bound1_calls a1 n1 c1 so nn mm a2 0 c2 p u)
  go_enter Tryz.func55, Tryz.ntmps55
  go_wp2_with fail
  refine (HBO.out _).mono ?_
  rintro e w1 ⟨rfl, hu1⟩
  have HU1 := Lib.hid (HU.out.trans_ext hu1)
  have HB1 := Lib.hid (hu1.at HB.out (by simp))
  clear hu1
  have z5 := cell_of HB1.out 5
  simp only [List.getElem?_toArray, List.getElem?_cons_zero, List.getElem?_cons_succ] at z5
  go_wp2_with fail
  clear z5
  go_loopw [12] (fun vi wr => vi = .int .i64 0 ∧ wr = w1) (fun _ _ => 0)
  case atStart => exact ⟨rfl, rfl⟩
  case round =>
    obtain ⟨rfl, rfl⟩ := hrel
    go_wp2_with fail
    exact bodyPost_end (v := .tuple #[]) (by simp [results, Tryz.results55, go_sem]) rfl ⟨rfl, HU1.out⟩
set_option maxRecDepth 100000 in
set_option maxHeartbeats 1600000 in
theorem bound5_calls (a1 : Option Addr) (n1 c1 : Nat) (so nn mm : Int) (a2 : Option Addr) (c2 : Nat) (w : World) : Calls Tryz.prog 20 #[.agg #[.int .i64 5, .slice a1 n1 c1, .int .i64 so, .int .i64 nn, .int .i64 mm, .slice a2 0 c2]] w fun e w' => e = .returned (.slice none 0 0) ∧ Upto [] w w' := by
  have HWA := Lib.hid (fun p u => walk5_calls a1 n1 c1 so nn mm a2 c2 p u)
  go_enter Tryz.func20, Tryz.ntmps20
  go_wp2_with fail
  refine (HWA.out _ _).mono ?_
  rintro e w1 ⟨rfl, hu1⟩
  have HU1 := Lib.hid ((((Upto.refl [] w).alloc _).alloc _).trans_ext hu1)
  have hb := hu1.at (new_at1 w (.cells #[.int .i64 5, .slice a1 n1 c1, .int .i64 so, .int .i64 nn, .int .i64 mm, .slice a2 0 c2] 30) (.cells #[.slice none 0 0] 22)) (by simp)
  have z0 := cell_of hb 0
  simp only [List.getElem?_toArray, List.getElem?_cons_zero] at z0
  clear hu1 hb
  go_wp2_with fail
  go_ret
  exact ⟨rfl, HU1.out⟩
end Go.Proofs.YtbnebkkpmcjmbaaGreatDoor


namespace Go.Proofs.YtbnebkkpmcjmbaaGreatDoor
open Go.RowKit Go.PL Go.Maps
def rpF (a b z : List UInt8) : List UInt8 := if z = a then b else z
/-- block g holds, from o on, the texts x and y; beside them what cs holds -/
structure NmB (w : World) (g o : Nat) (t : TypeId) (cs : Array Value) (x y : List UInt8) : Prop where
  st : ∃ cs', w.heap[g]? = some (.cells cs' t (0, 0)) ∧ cs'[o]? = some (sV x) ∧ cs'[o + 1]? = some (sV y) ∧ ∀ i, i ≠ o → i ≠ o + 1 → cs'[i]? = cs[i]?
theorem NmB.ext {w w' : World} {g o : Nat} {t : TypeId} {cs : Array Value} {x y : List UInt8} (h : NmB w g o t cs x y) (hu : Upto [] w w') : NmB w' g o t cs x y := by
  obtain ⟨cs', h1, h2⟩ := h.st
  exact ⟨cs', hu.at h1 (by simp), h2⟩
theorem NmB.upto {S : List Nat} {w w' : World} {g o : Nat} {t : TypeId} {cs : Array Value} {x y : List UInt8} (h : NmB w g o t cs x y) (hu : Upto S w w') (hs : g ∉ S) : NmB w' g o t cs x y := by
  obtain ⟨cs', h1, h2⟩ := h.st
  exact ⟨cs', hu.at h1 hs, h2⟩
theorem NmB.cells {w : World} {g o : Nat} {t : TypeId} {cs : Array Value} {x y : List UInt8} (h : NmB w g o t cs x y) : w.cell? ⟨g, o, none⟩ = some (sV x) ∧ w.cell? ⟨g, o + 1, none⟩ = some (sV y) ∧ w.frozen? ⟨g, o, none⟩ = false ∧ w.frozen? ⟨g, o + 1, none⟩ = false := by
  obtain ⟨cs', h1, h2, h3, -⟩ := h.st
  exact ⟨by rw [cell_of h1]; exact h2, by rw [cell_of h1]; exact h3, free_of h1 _, free_of h1 _⟩
theorem NmB.set0 {w : World} {g o : Nat} {t : TypeId} {cs : Array Value} {x y : List UInt8} (h : NmB w g o t cs x y) (z : List UInt8) : NmB (w.setCell ⟨g, o, none⟩ (sV z)) g o t cs z y := by
  obtain ⟨cs', h1, h2, h3, h4⟩ := h.st
  have hlt := (Array.getElem?_eq_some_iff.1 h2).1
  refine ⟨_, set_same h1 o (sV z), by rw [Array.getElem?_setIfInBounds_self_of_lt hlt], by rw [Array.getElem?_setIfInBounds_ne (by omega)]; exact h3, fun i i0 i1 => ?_⟩
  rw [Array.getElem?_setIfInBounds_ne (by omega)]
  exact h4 i i0 i1
theorem NmB.set1 {w : World} {g o : Nat} {t : TypeId} {cs : Array Value} {x y : List UInt8} (h : NmB w g o t cs x y) (z : List UInt8) : NmB (w.setCell ⟨g, o + 1, none⟩ (sV z)) g o t cs x z := by
  obtain ⟨cs', h1, h2, h3, h4⟩ := h.st
  have hlt := (Array.getElem?_eq_some_iff.1 h3).1
  refine ⟨_, set_same h1 (o + 1) (sV z), by rw [Array.getElem?_setIfInBounds_ne (by omega)]; exact h2, by rw [Array.getElem?_setIfInBounds_self_of_lt hlt], fun i i0 i1 => ?_⟩
  rw [Array.getElem?_setIfInBounds_ne (by omega)]
  exact h4 i i0 i1
set_option maxRecDepth 100000 in
set_option maxHeartbeats 3200000 in
theorem rename5_calls (g o c1 : Nat) (t : TypeId) (cs : Array Value) (x y a b : List UInt8) (so nn mm : Int) (a2 : Option Addr) (c2 : Nat) (w : World) (h : NmB w g o t cs x y) : Calls Tryz.prog 43 #[.agg #[.int .i64 5, .slice (some ⟨g, o, none⟩) 2 c1, .int .i64 so, .int .i64 nn, .int .i64 mm, .slice a2 0 c2], .string ⟨a.toArray⟩, .string ⟨b.toArray⟩] w fun e w' => e = .returned (.agg #[.int .i64 5, .slice (some ⟨g, o, none⟩) 2 c1, .int .i64 so, .int .i64 nn, .int .i64 mm, .slice a2 0 c2]) ∧ NmB w' g o t cs (rpF a b x) (rpF a b y) ∧ Upto [g] w w' := by
  have hgl : g < w.heap.size := by
    obtain ⟨cs', h1, -⟩ := h.st
    exact lt_of_heap h1
  obtain ⟨W, hW⟩ : ∃ W, W = (w.alloc (.cells #[.int .i64 5, .slice (some ⟨g, o, none⟩) 2 c1, .int .i64 so, .int .i64 nn, .int .i64 mm, .slice a2 0 c2] 30)).alloc (.cells #[.int .i64 0, .slice none 0 0, .int .i64 0, .int .i64 0, .int .i64 0, .slice none 0 0] 30) := ⟨_, rfl⟩
  have HU : Hid (Upto [] w W) := Lib.hid (by rw [hW]; exact ((Upto.refl [] w).alloc _).alloc _)
  have HB1 : Hid (W.heap[w.heap.size]? = some (.cells #[.int .i64 5, .slice (some ⟨g, o, none⟩) 2 c1, .int .i64 so, .int .i64 nn, .int .i64 mm, .slice a2 0 c2] 30 (0, 0))) := Lib.hid (by rw [hW]; exact alloc_old (new_at w _) _)
  have HB2 : Hid (W.heap[w.heap.size + 1]? = some (.cells #[.int .i64 0, .slice none 0 0, .int .i64 0, .int .i64 0, .int .i64 0, .slice none 0 0] 30 (0, 0))) := Lib.hid (by rw [hW]; exact new_at1 w _ _)
  have HBI := Lib.hid (fun u => binds5_calls (some ⟨g, o, none⟩) 2 c1 so nn mm a2 0 c2 u)
  have HUS := Lib.hid (fun u => uses5_calls (some ⟨g, o, none⟩) 2 c1 so nn mm a2 0 c2 u)
  have HN := Lib.hid (h.ext HU.out)
  have HGL := Lib.hid hgl
  obtain ⟨x0, x1, x2, x3, x4, x5⟩ := cells6 HB1.out
  clear h hgl
  go_enter Tryz.func43, Tryz.ntmps43
  go_wp2_with fail
  simp only [← hW]
  clear hW
  go_wp2_with fail
  refine (HBI.out _).mono ?_
  rintro e w1 ⟨rfl, hu1⟩
  have HU1 := Lib.hid hu1
  have HC1 := Lib.hid (hu1.at HB1.out (by simp))
  clear hu1 x0 x1 x2 x3 x4 x5
  obtain ⟨x0, x1, x2, x3, x4, x5⟩ := cells6 HC1.out
  go_wp2_with fail
  refine (HBI.out _).mono ?_
  rintro e w2 ⟨rfl, hu2⟩
  have HU2 := Lib.hid (HU1.out.trans_ext hu2)
  have HC2 := Lib.hid (HU2.out.at HB1.out (by simp))
  clear hu2 x0 x1 x2 x3 x4 x5
  obtain ⟨x0, x1, x2, x3, x4, x5⟩ := cells6 HC2.out
  go_wp2_with fail
  refine (HUS.out _).mono ?_
  rintro e w3 ⟨rfl, hu3⟩
  have HU3 := Lib.hid (HU2.out.trans_ext hu3)
  have HN3 := Lib.hid (HN.out.ext HU3.out)
  have HW3 := Lib.hid (lt_of_heap (HU3.out.at HB2.out (by simp)))
  clear hu3 x0 x1 x2 x3 x4 x5
  go_wp2_with fail
  go_loopw [80] (fun v wr => ∃ j : Nat, j ≤ 2 ∧ v = .int .i64 j ∧ Hid (NmB wr g o t cs (if 1 ≤ j then rpF a b x else x) (if 2 ≤ j then rpF a b y else y) ∧ Upto [g] w3 wr)) (fun v _ => 2 - (intOf v).toNat)
  case atStart => exact ⟨0, by omega, rfl, Lib.hid ⟨by simpa using HN3.out, Upto.refl _ _⟩⟩
  case round =>
    obtain ⟨j, hj, rfl, HI⟩ := hrel
    obtain rfl | rfl | rfl : j = 0 ∨ j = 1 ∨ j = 2 := by omega
    · replace HI : Hid (NmB wr g o t cs x y ∧ Upto [g] w3 wr) := Lib.hid (by simpa using HI.out)
      have hc := HI.out.1.cells
      by_cases hz : x = a
      · have hzz : (x == a) = true := by rw [hz]; exact beq_self_eq_true a
        have HR : Hid (rpF a b x = b) := Lib.hid (by unfold rpF; rw [if_pos hz])
        obtain ⟨q0, q1, f0, f1⟩ := hc
        have HI2 := Lib.hid (And.intro (HI.out.1.set0 b) (HI.out.2.setCell (p := ⟨g, o, none⟩) (Or.inl (by simp)) (sV b)))
        clear hz
        unfold sV at q0 q1
        go_wp2_with fail
        exact ⟨⟨1, by omega, rfl, Lib.hid (by simpa [HR.out, sV] using HI2.out)⟩, by simp [intOf]⟩
      · have hzz : (x == a) = false := by rw [beq_eq_false_iff_ne]; exact hz
        have HR : Hid (rpF a b x = x) := Lib.hid (by unfold rpF; rw [if_neg hz])
        obtain ⟨q0, q1, f0, f1⟩ := hc
        clear hz
        unfold sV at q0 q1
        go_wp2_with fail
        exact ⟨⟨1, by omega, rfl, Lib.hid (by simpa [HR.out] using HI.out)⟩, by simp [intOf]⟩
    · replace HI : Hid (NmB wr g o t cs (rpF a b x) y ∧ Upto [g] w3 wr) := Lib.hid (by simpa using HI.out)
      have hc := HI.out.1.cells
      by_cases hz : y = a
      · have hzz : (y == a) = true := by rw [hz]; exact beq_self_eq_true a
        have HR : Hid (rpF a b y = b) := Lib.hid (by unfold rpF; rw [if_pos hz])
        obtain ⟨q0, q1, f0, f1⟩ := hc
        have HI2 := Lib.hid (And.intro (HI.out.1.set1 b) (HI.out.2.setCell (p := ⟨g, o + 1, none⟩) (Or.inl (by simp)) (sV b)))
        clear hz
        unfold sV at q0 q1
        go_wp2_with fail
        exact ⟨⟨2, by omega, rfl, Lib.hid (by simpa [HR.out, sV] using HI2.out)⟩, by simp [intOf]⟩
      · have hzz : (y == a) = false := by rw [beq_eq_false_iff_ne]; exact hz
        have HR : Hid (rpF a b y = y) := Lib.hid (by unfold rpF; rw [if_neg hz])
        obtain ⟨q0, q1, f0, f1⟩ := hc
        clear hz
        unfold sV at q0 q1
        go_wp2_with fail
        exact ⟨⟨2, by omega, rfl, Lib.hid (by simpa [HR.out] using HI.out)⟩, by simp [intOf]⟩
    · replace HI : Hid (NmB wr g o t cs (rpF a b x) (rpF a b y) ∧ Upto [g] w3 wr) := Lib.hid (by simpa using HI.out)
      have HU9 := Lib.hid ((HU3.out.mono (by simp)).trans_same HI.out.2)
      have HG9 : Hid (w.heap.size ∉ [g] ∧ w.heap.size + 1 ∉ [g]) := Lib.hid ⟨by have := HGL.out; simp; omega, by have := HGL.out; simp; omega⟩
      have HC9 := Lib.hid (HU9.out.at HB1.out HG9.out.1)
      have HD9 := Lib.hid (HU9.out.at HB2.out HG9.out.2)
      obtain ⟨x0, x1, x2, x3, x4, x5⟩ := cells6 HC9.out
      go_wp2_with fail
      clear x0 x1 x2 x3 x4 x5
      rename World => w8
      go_loopw [96] (fun v wr => v = .int .i64 0 ∧ wr = w8) (fun _ _ => 0)
      case atStart => exact ⟨rfl, rfl⟩
      case round =>
        obtain ⟨rfl, rfl⟩ := hrel
        have x0 := cell_of HC9.out 0
        have x1 := cell_of HC9.out 1
        have x2 := cell_of HC9.out 2
        have x3 := cell_of HC9.out 3
        have x4 := cell_of HC9.out 4
        have x5 := cell_of HC9.out 5
        have y0 := cell_of HD9.out 0
        have y1 := cell_of HD9.out 1
        have y2 := cell_of HD9.out 2
        have y3 := cell_of HD9.out 3
        have y4 := cell_of HD9.out 4
        have y5 := cell_of HD9.out 5
        obtain ⟨f0, f1, f2, f3, f4, f5⟩ := frees6 HD9.out
        simp only [List.getElem?_toArray, List.getElem?_cons_zero, List.getElem?_cons_succ] at x0 x1 x2 x3 x4 x5 y0 y1 y2 y3 y4 y5
        go_wp2_with fail
        clear x0 x1 x2 x3 x4 x5 y0 y1 y2 y3 y4 y5 f0 f1 f2 f3 f4 f5
        have hst := nd_store HD9.out (.int .i64 5) (.slice (some ⟨g, o, none⟩) 2 c1) (.int .i64 so) (.int .i64 nn) (.int .i64 mm) (.slice a2 0 c2)
        have hself := nd_self wr (w.heap.size + 1) (.int .i64 5) (.slice (some ⟨g, o, none⟩) 2 c1) (.int .i64 so) (.int .i64 nn) (.int .i64 mm) (.slice a2 0 c2)
        have hup := nd_up ((HU.out.mono (by simp)).trans_same HU9.out) (B := w.heap.size + 1) (Or.inr (by omega)) (.int .i64 5) (.slice (some ⟨g, o, none⟩) 2 c1) (.int .i64 so) (.int .i64 nn) (.int .i64 mm) (.slice a2 0 c2)
        have hnm := HI.out.1.upto hself (by have := HGL.out; simp; omega)
        obtain ⟨q0, q1, q2, q3, q4, q5⟩ := cells6 hst
        exact bodyPost_ret (v := .agg #[.int .i64 5, .slice (some ⟨g, o, none⟩) 2 c1, .int .i64 so, .int .i64 nn, .int .i64 mm, .slice a2 0 c2]) (by simp [results, Tryz.results43, go_sem, q0, q1, q2, q3, q4, q5]) rfl ⟨rfl, hnm, hup⟩
end Go.Proofs.YtbnebkkpmcjmbaaGreatDoor


namespace Go.Proofs.YtbnebkkpmcjmbaaGreatDoor
open Go.RowKit Go.PL Go.Maps
theorem fresh_y : freshF [121] [[120], [121], [120], [121]] = [121, 50] := by kernel_rfl
theorem set_zero {w : World} {b : Nat} {cs : Array Value} {t : TypeId} {z : Nat × Nat} (h : w.heap[b]? = some (.cells cs t z)) (i : Nat) (v : Value) (hv : cs[i]? = some v) : w.setCell ⟨b, i, none⟩ v = w := by
  have hc : cs.setIfInBounds i v = cs := by
    apply Array.ext_getElem?
    intro j
    rw [Array.getElem?_setIfInBounds]
    split
    · rename_i hij
      subst hij
      rw [hv]
      split
      · rfl
      · rename_i hn
        exact absurd (Array.getElem?_eq_some_iff.1 hv).1 hn
    · rfl
  have hh : (w.setCell ⟨b, i, none⟩ v).heap = w.heap := by
    apply Array.ext_getElem?
    intro j
    simp only [World.setCell]
    rw [Array.getElem?_modify]
    split
    · rename_i hj
      subst hj
      rw [h]
      simp [hc]
    · rfl
  simp only [World.setCell] at hh ⊢
  rw [hh]
set_option maxRecDepth 100000 in
set_option maxHeartbeats 1600000 in
theorem freeT_calls (g o c2 : Nat) (t : TypeId) (cs : Array Value) (x y : List UInt8) (hxy : x ≠ y) (hc : 2 ≤ c2) (so nn mm : Int) (a3 : Option Addr) (c3 : Nat) (w : World) (h : NmB w g o t cs x y) : Calls Tryz.prog 19 #[.agg #[.int .i64 5, .slice (some ⟨g, o, none⟩) 2 c2, .int .i64 so, .int .i64 nn, .int .i64 mm, .slice a3 0 c3]] w fun e w' => ∃ vo, e = .returned vo ∧ TxI w [x, y] vo w' := by
  obtain ⟨cs', h6, h7, h8, -⟩ := h.st
  have hsl : SlP (w.alloc (.cells #[.int .i64 5, .slice (some ⟨g, o, none⟩) 2 c2, .int .i64 so, .int .i64 nn, .int .i64 mm, .slice a3 0 c3] 30)) (fun _ => True) (.slice (some ⟨g, o, none⟩) 2 c2) 2 ([x, y].map sV) := by
    have h6' := alloc_old h6 (.cells #[.int .i64 5, .slice (some ⟨g, o, none⟩) 2 c2, .int .i64 so, .int .i64 nn, .int .i64 mm, .slice a3 0 c3] 30)
    refine Or.inr ⟨g, o, c2, rfl, ⟨trivial, ⟨_, _, _, h6'⟩, hc⟩, fun j u hj => ?_⟩
    rw [cell_of h6']
    match j, hj with
    | 0, hj => simp at hj; rw [← hj]; exact h7
    | 1, hj => simp at hj; rw [← hj]; exact h8
    | j + 2, hj => simp at hj
  have HF := Lib.hid (free5_calls [x, y] (by simpa using hxy) (by simp) (fun _ => True) (some ⟨g, o, none⟩) c2 so nn mm a3 c3 _ hsl)
  have HU := Lib.hid ((Upto.refl [] w).alloc (.cells #[.int .i64 5, .slice (some ⟨g, o, none⟩) 2 c2, .int .i64 so, .int .i64 nn, .int .i64 mm, .slice a3 0 c3] 30))
  clear h h6 h7 h8 hsl
  go_enter Tryz.func19, Tryz.ntmps19
  go_wp2_with fail
  refine HF.out.mono ?_
  rintro e w1 ⟨vo, rfl, ht⟩
  have HT := Lib.hid (show TxI w [x, y] vo w1 from ⟨ht.row, fun g hg => Nat.le_trans HU.out.size (ht.own g hg), HU.out.trans_ext ht.up⟩)
  obtain ⟨va, vc, rfl, -⟩ := ownsRow_len ht.row
  clear ht
  go_wp2_with fail
  go_ret
  exact ⟨_, rfl, HT.out⟩
theorem TxI.apps {w wr wr' : World} {ls ys : List (List UInt8)} {l : Value} {n m : Nat} {b' : Option Addr} {c' : Nat} (h : TxI w ls l wr) (hn : ls.length = n) (hm : ys.length = m) (ho : wr'.ownsRow 0 9 1 (.slice b' (n + m) c') (n + m) (ls.map sV ++ ys.map sV)) (hu : Upto l.ownBlock.toList wr wr') (hw : ∀ g, (Value.slice b' (n + m) c').ownBlock = some g → l.ownBlock = some g ∨ wr.heap.size ≤ g) :
    TxI w (ls ++ ys) (.slice b' (n + m) c') wr' := by
  subst hn hm
  refine ⟨?_, fun g hg => (hw g hg).elim (h.own g) (fun h2 => Nat.le_trans h.up.size h2), h.up.trans hu (fun k hk => Or.inr (h.own k (Option.mem_toList.1 hk)))⟩
  rw [List.map_append, List.length_append]
  exact ho
/-- the quantifier's node: its name, its one operand, the operand's names, in three blocks -/
structure QnB (w : World) (g1 o1 gl ol g o : Nat) (c2 c3 : Nat) (so nn mm : Int) (a3 : Option Addr) (x0 x y : List UInt8) : Prop where
  n1 : ∃ cs t, w.heap[g1]? = some (.cells cs t (0, 0)) ∧ cs[o1]? = some (sV x0)
  l : ∃ cs t, w.heap[gl]? = some (.cells cs t (0, 0)) ∧ cs[ol]? = some (.int .i64 5) ∧ cs[ol + 1]? = some (.slice (some ⟨g, o, none⟩) 2 c2) ∧ cs[ol + 2]? = some (.int .i64 so) ∧ cs[ol + 3]? = some (.int .i64 nn) ∧ cs[ol + 4]? = some (.int .i64 mm) ∧ cs[ol + 5]? = some (.slice a3 0 c3)
  nm : ∃ t cs, NmB w g o t cs x y
  cap : 2 ≤ c2
theorem QnB.ext {w w' : World} {g1 o1 gl ol g o : Nat} {c2 c3 : Nat} {so nn mm : Int} {a3 : Option Addr} {x0 x y : List UInt8} (h : QnB w g1 o1 gl ol g o c2 c3 so nn mm a3 x0 x y) (hu : Upto [] w w') : QnB w' g1 o1 gl ol g o c2 c3 so nn mm a3 x0 x y := by
  obtain ⟨cs, t, h1, h2⟩ := h.n1
  obtain ⟨ds, u, h3, h4⟩ := h.l
  obtain ⟨t2, cs2, h5⟩ := h.nm
  exact ⟨⟨cs, t, hu.at h1 (by simp), h2⟩, ⟨ds, u, hu.at h3 (by simp), h4⟩, ⟨t2, cs2, h5.ext hu⟩, h.cap⟩
theorem QnB.cells {w : World} {g1 o1 gl ol g o : Nat} {c2 c3 : Nat} {so nn mm : Int} {a3 : Option Addr} {x0 x y : List UInt8} (h : QnB w g1 o1 gl ol g o c2 c3 so nn mm a3 x0 x y) : w.cell? ⟨g1, o1, none⟩ = some (sV x0) ∧ w.frozen? ⟨g1, o1, none⟩ = false ∧ w.cell? ⟨gl, ol, none⟩ = some (.int .i64 5) ∧ w.cell? ⟨gl, ol + 1, none⟩ = some (.slice (some ⟨g, o, none⟩) 2 c2) ∧ w.cell? ⟨gl, ol + 2, none⟩ = some (.int .i64 so) ∧ w.cell? ⟨gl, ol + 3, none⟩ = some (.int .i64 nn) ∧ w.cell? ⟨gl, ol + 4, none⟩ = some (.int .i64 mm) ∧ w.cell? ⟨gl, ol + 5, none⟩ = some (.slice a3 0 c3) := by
  obtain ⟨cs, t, h1, h2⟩ := h.n1
  obtain ⟨ds, u, h3, k0, k1, k2, k3, k4, k5⟩ := h.l
  exact ⟨by rw [cell_of h1]; exact h2, free_of h1 _, by rw [cell_of h3]; exact k0, by rw [cell_of h3]; exact k1, by rw [cell_of h3]; exact k2, by rw [cell_of h3]; exact k3, by rw [cell_of h3]; exact k4, by rw [cell_of h3]; exact k5⟩
theorem QnB.frozen {w : World} {g1 o1 gl ol g o : Nat} {c2 c3 : Nat} {so nn mm : Int} {a3 : Option Addr} {x0 x y : List UInt8} (h : QnB w g1 o1 gl ol g o c2 c3 so nn mm a3 x0 x y) (i : Nat) : w.frozen? ⟨gl, i, none⟩ = false := by
  obtain ⟨ds, u, h3, -⟩ := h.l
  exact free_of h3 _
theorem QnB.same {w : World} {g1 o1 gl ol g o : Nat} {c2 c3 : Nat} {so nn mm : Int} {a3 : Option Addr} {x0 x y : List UInt8} (h : QnB w g1 o1 gl ol g o c2 c3 so nn mm a3 x0 x y) : (((((w.setCell ⟨gl, ol, none⟩ (.int .i64 5)).setCell ⟨gl, ol + 1, none⟩ (.slice (some ⟨g, o, none⟩) 2 c2)).setCell ⟨gl, ol + 2, none⟩ (.int .i64 so)).setCell ⟨gl, ol + 3, none⟩ (.int .i64 nn)).setCell ⟨gl, ol + 4, none⟩ (.int .i64 mm)).setCell ⟨gl, ol + 5, none⟩ (.slice a3 0 c3) = w := by
  obtain ⟨ds, u, h3, k0, k1, k2, k3, k4, k5⟩ := h.l
  rw [set_zero h3 _ _ k0, set_zero h3 _ _ k1, set_zero h3 _ _ k2, set_zero h3 _ _ k3, set_zero h3 _ _ k4, set_zero h3 _ _ k5]
theorem QnB.setn {w : World} {g1 o1 gl ol g o : Nat} {c2 c3 : Nat} {so nn mm : Int} {a3 : Option Addr} {x0 x y : List UInt8} (h : QnB w g1 o1 gl ol g o c2 c3 so nn mm a3 x0 x y) (hd : g1 ≠ gl ∧ g1 ≠ g ∧ gl ≠ g) (z : List UInt8) : QnB (w.setCell ⟨g1, o1, none⟩ (sV z)) g1 o1 gl ol g o c2 c3 so nn mm a3 z x y := by
  obtain ⟨cs, t, h1, h2⟩ := h.n1
  obtain ⟨ds, u, h3, h4⟩ := h.l
  obtain ⟨t2, cs2, h5⟩ := h.nm
  have hlt := (Array.getElem?_eq_some_iff.1 h2).1
  have hup : Upto [g1] w (w.setCell ⟨g1, o1, none⟩ (sV z)) := (Upto.refl [g1] w).setCell (p := ⟨g1, o1, none⟩) (Or.inl (by simp)) _
  exact ⟨⟨_, t, set_same h1 o1 (sV z), by rw [Array.getElem?_setIfInBounds_self_of_lt hlt]⟩, ⟨ds, u, hup.at h3 (by simp; omega), h4⟩, ⟨t2, cs2, h5.upto hup (by simp; omega)⟩, h.cap⟩
theorem QnB.away {w w' : World} {S : List Nat} {g1 o1 gl ol g o : Nat} {c2 c3 : Nat} {so nn mm : Int} {a3 : Option Addr} {x0 x y : List UInt8} (h : QnB w g1 o1 gl ol g o c2 c3 so nn mm a3 x0 x y) (hu : Upto S w w') (hs : g1 ∉ S ∧ gl ∉ S ∧ g ∉ S) : QnB w' g1 o1 gl ol g o c2 c3 so nn mm a3 x0 x y := by
  obtain ⟨cs, t, h1, h2⟩ := h.n1
  obtain ⟨ds, u, h3, h4⟩ := h.l
  obtain ⟨t2, cs2, h5⟩ := h.nm
  exact ⟨⟨cs, t, hu.at h1 hs.1, h2⟩, ⟨ds, u, hu.at h3 hs.2.1, h4⟩, ⟨t2, cs2, h5.upto hu hs.2.2⟩, h.cap⟩
theorem QnB.leaf {w w' : World} {g1 o1 gl ol g o : Nat} {c2 c3 : Nat} {so nn mm : Int} {a3 : Option Addr} {x0 x y x' y' : List UInt8} (h : QnB w g1 o1 gl ol g o c2 c3 so nn mm a3 x0 x y) (hd : g1 ≠ gl ∧ g1 ≠ g ∧ gl ≠ g) (hu : Upto [g] w w') {t : TypeId} {cs : Array Value} (hn : NmB w' g o t cs x' y') : QnB w' g1 o1 gl ol g o c2 c3 so nn mm a3 x0 x' y' := by
  obtain ⟨cs1, t1, h1, h2⟩ := h.n1
  obtain ⟨ds, u, h3, h4⟩ := h.l
  exact ⟨⟨cs1, t1, hu.at h1 (by simp; omega), h2⟩, ⟨ds, u, hu.at h3 (by simp; omega), h4⟩, ⟨t, cs, hn⟩, h.cap⟩
set_option maxRecDepth 100000 in
set_option maxHeartbeats 6400000 in
theorem rename16_calls (g1 o1 c1 gl ol cl g o c2 c3 : Nat) (so nn mm : Int) (a3 : Option Addr) (w : World) (he : Env w) (hd : g1 ≠ gl ∧ g1 ≠ g ∧ gl ≠ g) (h : QnB w g1 o1 gl ol g o c2 c3 so nn mm a3 [121] [120] [121]) : Calls Tryz.prog 43 #[.agg #[.int .i64 16, .slice (some ⟨g1, o1, none⟩) 1 c1, .int .i64 0, .int .i64 0, .int .i64 0, .slice (some ⟨gl, ol, none⟩) 1 cl], .string ⟨[120].toArray⟩, .string ⟨[121].toArray⟩] w fun e w' => e = .returned (.agg #[.int .i64 16, .slice (some ⟨g1, o1, none⟩) 1 c1, .int .i64 0, .int .i64 0, .int .i64 0, .slice (some ⟨gl, ol, none⟩) 1 cl]) ∧ QnB w' g1 o1 gl ol g o c2 c3 so nn mm a3 [121, 50] [121] [121, 50] ∧ Upto [g1, gl, g] w w' := by
  have hlt : g1 < w.heap.size ∧ gl < w.heap.size ∧ g < w.heap.size := by
    obtain ⟨cs, t, h1, h2⟩ := h.n1
    obtain ⟨ds, u, h3, h4⟩ := h.l
    obtain ⟨t2, cs2, h5⟩ := h.nm
    obtain ⟨cs', h6, -⟩ := h5.st
    exact ⟨lt_of_heap h1, lt_of_heap h3, lt_of_heap h6⟩
  obtain ⟨W, hW⟩ : ∃ W, W = (w.alloc (.cells #[.int .i64 16, .slice (some ⟨g1, o1, none⟩) 1 c1, .int .i64 0, .int .i64 0, .int .i64 0, .slice (some ⟨gl, ol, none⟩) 1 cl] 30)).alloc (.cells #[.int .i64 0, .slice none 0 0, .int .i64 0, .int .i64 0, .int .i64 0, .slice none 0 0] 30) := ⟨_, rfl⟩
  have HU : Hid (Upto [] w W) := Lib.hid (by rw [hW]; exact ((Upto.refl [] w).alloc _).alloc _)
  have HB1 : Hid (W.heap[w.heap.size]? = some (.cells #[.int .i64 16, .slice (some ⟨g1, o1, none⟩) 1 c1, .int .i64 0, .int .i64 0, .int .i64 0, .slice (some ⟨gl, ol, none⟩) 1 cl] 30 (0, 0))) := Lib.hid (by rw [hW]; exact alloc_old (new_at w _) _)
  have HB2 : Hid (W.heap[w.heap.size + 1]? = some (.cells #[.int .i64 0, .slice none 0 0, .int .i64 0, .int .i64 0, .int .i64 0, .slice none 0 0] 30 (0, 0))) := Lib.hid (by rw [hW]; exact new_at1 w _ _)
  have HBI := Lib.hid (fun u => binds16_calls (some ⟨g1, o1, none⟩) 1 c1 0 0 0 (some ⟨gl, ol, none⟩) 1 cl (by omega) u)
  have HUS := Lib.hid (fun u => uses16_calls (some ⟨g1, o1, none⟩) 1 c1 0 0 0 (some ⟨gl, ol, none⟩) 1 cl u)
  have HFR : Hid (∀ (u : World), QnB u g1 o1 gl ol g o c2 c3 so nn mm a3 [121] [120] [121] → Calls Tryz.prog 19 #[.agg #[.int .i64 5, .slice (some ⟨g, o, none⟩) 2 c2, .int .i64 so, .int .i64 nn, .int .i64 mm, .slice a3 0 c3]] u fun e w' => ∃ vo, e = .returned vo ∧ TxI u [[120], [121]] vo w') := Lib.hid (fun u hn => by
    obtain ⟨t2, cs2, h5⟩ := hn.nm
    exact freeT_calls g o c2 t2 cs2 [120] [121] (by decide) hn.cap so nn mm a3 c3 u h5)
  have HBO := Lib.hid (fun u => bound5_calls (some ⟨g, o, none⟩) 2 c2 so nn mm a3 c3 u)
  obtain ⟨i0, hi0, hz0, hz1, hz2⟩ := info9'
  have HI0 := Lib.hid hi0
  have HZ0 := Lib.hid hz0
  have HZ1 := Lib.hid hz1
  have HZ2 := Lib.hid hz2
  have HQ := Lib.hid (h.ext HU.out)
  have HLT := Lib.hid hlt
  have HD := Lib.hid hd
  have HE := Lib.hid he
  obtain ⟨x0, x1, x2, x3, x4, x5⟩ := cells6 HB1.out
  clear h hlt hd he hi0 hz0 hz1 hz2
  go_enter Tryz.func43, Tryz.ntmps43
  go_wp2_with fail
  simp only [← hW]
  clear hW
  go_wp2_with fail
  refine (HBI.out _).mono ?_
  rintro e w1 ⟨rfl, hu1⟩
  have HU1 := Lib.hid hu1
  have HC1 := Lib.hid (hu1.at HB1.out (by simp))
  have HQ1 := Lib.hid (HQ.out.ext hu1)
  clear hu1 x0 x1 x2 x3 x4 x5
  obtain ⟨x0, x1, x2, x3, x4, x5⟩ := cells6 HC1.out
  obtain ⟨n0, nf, l0, l1, l2, l3, l4, l5⟩ := HQ1.out.cells
  unfold sV at n0
  go_wp2_with fail
  refine (HBI.out _).mono ?_
  rintro e w2 ⟨rfl, hu2⟩
  have HU2 := Lib.hid (HU1.out.trans_ext hu2)
  have HC2 := Lib.hid (HU2.out.at HB1.out (by simp))
  have HQ2 := Lib.hid (HQ1.out.ext hu2)
  clear hu2 x0 x1 x2 x3 x4 x5 n0 nf l0 l1 l2 l3 l4 l5
  obtain ⟨x0, x1, x2, x3, x4, x5⟩ := cells6 HC2.out
  obtain ⟨n0, nf, l0, l1, l2, l3, l4, l5⟩ := HQ2.out.cells
  unfold sV at n0
  go_wp2_with fail
  refine (HFR.out _ HQ2.out).mono ?_
  rintro e w3 ⟨vo, rfl, ht⟩
  have HU3 := Lib.hid (HU2.out.trans_ext ht.up)
  have HC3 := Lib.hid (ht.up.at HC2.out (by simp))
  have HQ3 := Lib.hid (HQ2.out.ext ht.up)
  have HCO := Lib.hid (containsS_calls [[120], [121]] [120] vo w3 _ ht.slp (by simp))
  obtain ⟨va, vc, rfl, -⟩ := ownsRow_len ht.row
  clear ht x0 x1 x2 x3 x4 x5 n0 nf l0 l1 l2 l3 l4 l5
  go_wp2_with fail
  refine HCO.out.mono ?_
  rintro e w4 ⟨rfl, rfl⟩
  rw [show ([[120], [121]] : List (List UInt8)).contains [120] = true from rfl]
  go_wp2_with fail
  have e5 : ∀ u : Ext w4, u.w.cell? ⟨w.heap.size, 5, none⟩ = some (.slice (some ⟨gl, ol, none⟩) 1 cl) := fun u => u.cell (cell_of HC3.out 5)
  obtain ⟨-, -, l0, l1, l2, l3, l4, l5⟩ := HQ3.out.cells
  have k0 : ∀ u : Ext w4, u.w.cell? ⟨gl, ol, none⟩ = some (.int .i64 5) := fun u => u.cell l0
  have k1 : ∀ u : Ext w4, u.w.cell? ⟨gl, ol + 1, none⟩ = some (.slice (some ⟨g, o, none⟩) 2 c2) := fun u => u.cell l1
  have k2 : ∀ u : Ext w4, u.w.cell? ⟨gl, ol + 2, none⟩ = some (.int .i64 so) := fun u => u.cell l2
  have k3 : ∀ u : Ext w4, u.w.cell? ⟨gl, ol + 3, none⟩ = some (.int .i64 nn) := fun u => u.cell l3
  have k4 : ∀ u : Ext w4, u.w.cell? ⟨gl, ol + 4, none⟩ = some (.int .i64 mm) := fun u => u.cell l4
  have k5 : ∀ u : Ext w4, u.w.cell? ⟨gl, ol + 5, none⟩ = some (.slice a3 0 c3) := fun u => u.cell l5
  clear l0 l1 l2 l3 l4 l5
  refine wp_region_seg_at [4, 9] [] [0, 1, 2, 3, 4, 5, 6, 7, 8, 9] [10, 11] 10 (by kernel_rfl) (by kernel_rfl) (by kernel_rfl) ?_
  iterate 4 (refine seg_plain rfl rfl rfl rfl rfl ?_; intro K' hK'; go_big_quiet_op; go_big_quiet_on)
  refine seg_callO (Y := Option Addr × Nat) (fun tt => .slice tt.1 2 tt.2) (fun tt u => TxI w4 [[120], [121]] (.slice tt.1 2 tt.2) u) (fun _ => []) rfl rfl rfl rfl (fun _ _ _ h hu => h.ext hu) (fun _ => List.nodup_nil) (fun w => by go_simp) (fun w hu hd => (HFR.out w (HQ3.out.ext hu)).mono fun e w' ⟨vo, h1, h2⟩ => by
    obtain ⟨va, vc, rfl, -⟩ := ownsRow_len h2.row
    exact ⟨(va, vc), h1, h2.up, ⟨h2.row, fun g hg => Nat.le_trans hu.size (h2.own g hg), hu.trans_ext h2.up⟩, fun b hb => by cases hb⟩) ?_
  rintro ⟨fa, fc⟩
  simp only [Act.put, List.setIfInBounds_toArray, List.set_cons_zero, List.set_cons_succ]
  iterate 4 (refine seg_plain rfl rfl rfl rfl rfl ?_; intro K' hK'; go_big_quiet_op; go_big_quiet_on)
  refine seg_call rfl rfl rfl rfl (fun w => by go_simp) (fun w hu hd => HBO.out w) ?_
  simp only [Act.put, List.setIfInBounds_toArray, List.set_cons_zero, List.set_cons_succ]
  intro w10 hg
  have HU10 := Lib.hid hg.up
  have HT10 : Hid (TxI w4 [[120], [121]] (.slice fa 2 fc) w10) := Lib.hid hg.hold.1
  simp only [List.drop_succ_cons, List.drop_zero]
  have hrow := HT10.out.row
  clear hg e5 k0 k1 k2 k3 k4 k5
  go_wp2_with (at_builtin; first
    | (refine wpList_apps _ rfl (.tmp 48) (.tmp 53) 22 rfl 9 i0 (.string ⟨#[]⟩) 16 Tryz.underlying22 HI0.out HZ0.out HZ1.out HZ2.out rfl (.slice fa 2 fc) 2 _ rfl hrow (.slice none 0 0) [] rfl (Or.inl ⟨rfl, none, 0, rfl⟩) (by simp) (by simp [maxLen]) (by simp) ?_; intro vb vd w11 ho hu hw; have HM := Lib.hid (HT10.out.apps (ys := []) rfl rfl ho hu hw); clear hrow ho hu hw; have HT11 : Hid (TxI w4 [[120], [121]] (.slice vb 2 vd) (w11.alloc (.cells #[.string ⟨#[120]⟩, .string ⟨#[121]⟩] 9))) := Lib.hid (HM.out.ext ((Upto.refl [] _).alloc _)); have hrow2 := HT11.out.row; have hsrc2 := cells_at (l := [sV [120], sV [121]]) (new_at w11 (.cells #[.string ⟨#[120]⟩, .string ⟨#[121]⟩] 9)))
    | (refine wpList_app _ rfl (.tmp 56) (.tmp 59) 22 rfl 9 i0 (.string ⟨#[]⟩) 1 16 Tryz.underlying22 HI0.out HZ0.out HZ1.out HZ2.out rfl (by decide) (.slice vb 2 vd) 2 _ rfl hrow2 ⟨w11.heap.size, 0, none⟩ 2 2 [sV [120], sV [121]] rfl rfl hsrc2 (by simp [Value.oneCell', sV]) (by simp [maxLen]) (by simp) ?_; intro vb2 vd2 w12 ho hu hw; have HN := Lib.hid (HT11.out.apps (ys := [[120], [121]]) rfl rfl ho hu hw); clear hrow2 hsrc2 ho hu hw))
  have HFP := Lib.hid (freshP_calls [121] [[120], [121], [120], [121]] (.slice vb2 4 vd2) w12 _ HN.out.slp (by simp) (by simp) (HE.out.ext (HU.out.trans_ext (HU3.out.trans_ext HN.out.up))))
  refine HFP.out.mono ?_
  rintro e w13 ⟨rfl, hu13⟩
  rw [fresh_y]
  have HU4 := Lib.hid (HN.out.up.trans_ext hu13)
  have HQ13 := Lib.hid (HQ3.out.ext HU4.out)
  have HC13 := Lib.hid (HU4.out.at HC3.out (by simp))
  have HU13 := Lib.hid (HU.out.trans_ext (HU3.out.trans_ext HU4.out))
  clear hu13 HFP HM HT11 HN HT10 HU10 HCO
  obtain ⟨n0, nf, -⟩ := HQ13.out.cells
  unfold sV at n0
  obtain ⟨x0, x1, x2, x3, x4, x5⟩ := cells6 HC13.out
  go_wp2_with fail
  obtain ⟨W14, hW14⟩ : ∃ W14, W14 = w13.setCell ⟨g1, o1, none⟩ (.string ⟨#[121, 50]⟩) := ⟨_, rfl⟩
  have HS14 : Hid (Upto [g1] w13 W14) := Lib.hid (by rw [hW14]; exact (Upto.refl [g1] w13).setCell (p := ⟨g1, o1, none⟩) (Or.inl (by simp)) _)
  have HQ14 : Hid (QnB W14 g1 o1 gl ol g o c2 c3 so nn mm a3 [121, 50] [120] [121]) := Lib.hid (by rw [hW14]; exact HQ13.out.setn HD.out [121, 50])
  have HC14 := Lib.hid (HS14.out.at HC13.out (by have := HLT.out.1; simp; omega))
  have HZ14 := Lib.hid (HS14.out.at (HU4.out.at (HU3.out.at HB2.out (by simp)) (by simp)) (by have := HLT.out.1; simp; omega))
  have HU14 : Hid (Upto [g1, gl, g] w W14) := Lib.hid ((HU13.out.mono (by simp)).trans_same (HS14.out.mono (by simp)))
  simp only [← hW14]
  clear hW14 x0 x1 x2 x3 x4 x5 n0 nf
  have x5 := cell_of HC14.out 5
  simp only [List.getElem?_toArray, List.getElem?_cons_zero, List.getElem?_cons_succ] at x5
  obtain ⟨-, -, l0, l1, l2, l3, l4, l5⟩ := HQ14.out.cells
  obtain ⟨t15, cs15, hn15⟩ := HQ14.out.nm
  have HRN := Lib.hid (rename5_calls g o c2 t15 cs15 [120] [121] [121] [121, 50] so nn mm a3 c3 W14.drew (hn15.ext (Upto.refl [] W14).drew))
  have HP : Hid (Upto [] W14 W14.drew) := Lib.hid (Upto.refl [] W14).drew
  have HR1 : Hid (rpF [121] [121, 50] [120] = [120] ∧ rpF [121] [121, 50] [121] = [121, 50]) := Lib.hid ⟨by decide, by decide⟩
  clear hn15
  go_region_with (refine HRN.out.mono ?_
                  rintro e w16 ⟨rfl, hn16, hu16⟩
                  rw [HR1.out.1, HR1.out.2] at hn16
                  have HQ16 := Lib.hid ((HQ14.out.ext HP.out).leaf HD.out hu16 hn16)
                  have HU16 := Lib.hid ((HU14.out.trans_ext HP.out).trans_same (hu16.mono (by simp)))
                  have HC16 := Lib.hid (hu16.at (HP.out.at HC14.out (by simp)) (by have := HLT.out.2.2; simp; omega))
                  have HZ16 := Lib.hid (hu16.at (HP.out.at HZ14.out (by simp)) (by have := HLT.out.2.2; simp; omega))
                  have z5 := cell_of HC16.out 5
                  simp only [List.getElem?_toArray, List.getElem?_cons_zero, List.getElem?_cons_succ] at z5
                  clear hn16 hu16
                  obtain ⟨-, -, m0, m1, m2, m3, m4, m5⟩ := HQ16.out.cells
                  have f0 := HQ16.out.frozen ol
                  have f1 := HQ16.out.frozen (ol + 1)
                  have f2 := HQ16.out.frozen (ol + 2)
                  have f3 := HQ16.out.frozen (ol + 3)
                  have f4 := HQ16.out.frozen (ol + 4)
                  have f5 := HQ16.out.frozen (ol + 5))
  all_goals
    simp only [HQ16.out.same]
    clear x5 l0 l1 l2 l3 l4 l5 z5 m0 m1 m2 m3 m4 m5 f0 f1 f2 f3 f4 f5
    obtain ⟨x0, x1, x2, x3, x4, x5⟩ := cells6 HC16.out
    go_wp2_with fail
    refine (HUS.out _).mono ?_
    rintro e w17 ⟨rfl, hu17⟩
    have HC17 := Lib.hid (hu17.at HC16.out (by simp))
    have HQ17 := Lib.hid (HQ16.out.ext hu17)
    have HZ17 := Lib.hid (hu17.at HZ16.out (by simp))
    have HU17 := Lib.hid (HU16.out.trans_ext hu17)
    clear hu17 x0 x1 x2 x3 x4 x5
    have x5 := cell_of HC17.out 5
    simp only [List.getElem?_toArray, List.getElem?_cons_zero, List.getElem?_cons_succ] at x5
    go_wp2_with fail
    go_loopw [80] (fun v wr => v = .int .i64 0 ∧ wr = w17) (fun _ _ => 0)
    case atStart => exact ⟨rfl, rfl⟩
    case round =>
      obtain ⟨rfl, rfl⟩ := hrel
      go_wp2_with fail
      go_loopw [96] (fun v wr => ∃ j : Nat, j ≤ 1 ∧ v = .int .i64 j ∧ Hid (QnB wr g1 o1 gl ol g o c2 c3 so nn mm a3 [121, 50] (if j = 0 then [120] else [121]) [121, 50] ∧ wr.heap[w.heap.size]? = some (.cells #[.int .i64 16, .slice (some ⟨g1, o1, none⟩) 1 c1, .int .i64 0, .int .i64 0, .int .i64 0, .slice (some ⟨gl, ol, none⟩) 1 cl] 30 (0, 0)) ∧ wr.heap[w.heap.size + 1]? = some (.cells #[.int .i64 0, .slice none 0 0, .int .i64 0, .int .i64 0, .int .i64 0, .slice none 0 0] 30 (0, 0)) ∧ Upto [g1, gl, g] w wr)) (fun v _ => 1 - (intOf v).toNat)
      case atStart => exact ⟨0, by omega, rfl, Lib.hid ⟨HQ17.out, HC17.out, HZ17.out, HU17.out⟩⟩
      case round =>
        obtain ⟨j, hj, rfl, HJ⟩ := hrel
        obtain rfl | rfl : j = 0 ∨ j = 1 := by omega
        · replace HJ : Hid (QnB wr g1 o1 gl ol g o c2 c3 so nn mm a3 [121, 50] [120] [121, 50] ∧ wr.heap[w.heap.size]? = some (.cells #[.int .i64 16, .slice (some ⟨g1, o1, none⟩) 1 c1, .int .i64 0, .int .i64 0, .int .i64 0, .slice (some ⟨gl, ol, none⟩) 1 cl] 30 (0, 0)) ∧ wr.heap[w.heap.size + 1]? = some (.cells #[.int .i64 0, .slice none 0 0, .int .i64 0, .int .i64 0, .int .i64 0, .slice none 0 0] 30 (0, 0)) ∧ Upto [g1, gl, g] w wr) := Lib.hid (by simpa using HJ.out)
          obtain ⟨x0, x1, x2, x3, x4, x5⟩ := cells6 HJ.out.2.1
          obtain ⟨-, -, l0, l1, l2, l3, l4, l5⟩ := HJ.out.1.cells
          go_wp2_with fail
          obtain ⟨W18, hW18⟩ : ∃ W18, W18 = wr.alloc (.cells #[.int .i64 5, .slice (some ⟨g, o, none⟩) 2 c2, .int .i64 so, .int .i64 nn, .int .i64 mm, .slice a3 0 c3] 30) := ⟨_, rfl⟩
          have HA18 : Hid (Upto [] wr W18) := Lib.hid (by rw [hW18]; exact (Upto.refl [] wr).alloc _)
          have HL18 : Hid (W18.heap[wr.heap.size]? = some (.cells #[.int .i64 5, .slice (some ⟨g, o, none⟩) 2 c2, .int .i64 so, .int .i64 nn, .int .i64 mm, .slice a3 0 c3] 30 (0, 0))) := Lib.hid (by rw [hW18]; exact new_at wr _)
          simp only [← hW18]
          have HP2 : Hid (Upto [] wr W18.drew) := Lib.hid HA18.out.drew
          have HC18 := Lib.hid (HA18.out.at HJ.out.2.1 (by simp))
          clear hW18 x0 x1 x2 x3 x4 x5 l0 l1 l2 l3 l4 l5
          have x5 := cell_of HC18.out 5
          simp only [List.getElem?_toArray, List.getElem?_cons_zero, List.getElem?_cons_succ] at x5
          obtain ⟨y0, y1, y2, y3, y4, y5⟩ := cells6 HL18.out
          obtain ⟨t19, cs19, hn19⟩ := HJ.out.1.nm
          have HRM := Lib.hid (rename5_calls g o c2 t19 cs19 [120] [121, 50] [120] [121] so nn mm a3 c3 W18.drew (hn19.ext HP2.out))
          have HR2 : Hid (rpF [120] [121] [120] = [121] ∧ rpF [120] [121] [121, 50] = [121, 50]) := Lib.hid ⟨by decide, by decide⟩
          clear hn19
          go_region_with (refine HRM.out.mono ?_
                          rintro e w20 ⟨rfl, hn20, hu20⟩
                          rw [HR2.out.1, HR2.out.2] at hn20
                          have HJ20 := Lib.hid (And.intro ((HJ.out.1.ext HP2.out).leaf HD.out hu20 hn20) (And.intro (hu20.at (HP2.out.at HJ.out.2.1 (by simp)) (by have := HLT.out.2.2; simp; omega)) (And.intro (hu20.at (HP2.out.at HJ.out.2.2.1 (by simp)) (by have := HLT.out.2.2; simp; omega)) ((HJ.out.2.2.2.trans_ext HP2.out).trans_same (hu20.mono (by simp))))))
                          have z5 := cell_of HJ20.out.2.1 5
                          simp only [List.getElem?_toArray, List.getElem?_cons_zero, List.getElem?_cons_succ] at z5
                          clear hn20 hu20
                          obtain ⟨-, -, m0, m1, m2, m3, m4, m5⟩ := HJ20.out.1.cells
                          have f0 := HJ20.out.1.frozen ol
                          have f1 := HJ20.out.1.frozen (ol + 1)
                          have f2 := HJ20.out.1.frozen (ol + 2)
                          have f3 := HJ20.out.1.frozen (ol + 3)
                          have f4 := HJ20.out.1.frozen (ol + 4)
                          have f5 := HJ20.out.1.frozen (ol + 5))
          all_goals
            simp only [HJ20.out.1.same]
            clear x5 y0 y1 y2 y3 y4 y5 z5 m0 m1 m2 m3 m4 m5 f0 f1 f2 f3 f4 f5
            go_wp2_with fail
            exact ⟨⟨1, by omega, rfl, Lib.hid (by simpa using HJ20.out)⟩, by simp [intOf]⟩
        · replace HJ : Hid (QnB wr g1 o1 gl ol g o c2 c3 so nn mm a3 [121, 50] [121] [121, 50] ∧ wr.heap[w.heap.size]? = some (.cells #[.int .i64 16, .slice (some ⟨g1, o1, none⟩) 1 c1, .int .i64 0, .int .i64 0, .int .i64 0, .slice (some ⟨gl, ol, none⟩) 1 cl] 30 (0, 0)) ∧ wr.heap[w.heap.size + 1]? = some (.cells #[.int .i64 0, .slice none 0 0, .int .i64 0, .int .i64 0, .int .i64 0, .slice none 0 0] 30 (0, 0)) ∧ Upto [g1, gl, g] w wr) := Lib.hid (by simpa using HJ.out)
          obtain ⟨x0, x1, x2, x3, x4, x5⟩ := cells6 HJ.out.2.1
          obtain ⟨y0, y1, y2, y3, y4, y5⟩ := cells6 HJ.out.2.2.1
          obtain ⟨f0, f1, f2, f3, f4, f5⟩ := frees6 HJ.out.2.2.1
          go_wp2_with fail
          clear x0 x1 x2 x3 x4 x5 y0 y1 y2 y3 y4 y5 f0 f1 f2 f3 f4 f5
          have hst := nd_store HJ.out.2.2.1 (.int .i64 16) (.slice (some ⟨g1, o1, none⟩) 1 c1) (.int .i64 0) (.int .i64 0) (.int .i64 0) (.slice (some ⟨gl, ol, none⟩) 1 cl)
          have hself := nd_self wr (w.heap.size + 1) (.int .i64 16) (.slice (some ⟨g1, o1, none⟩) 1 c1) (.int .i64 0) (.int .i64 0) (.int .i64 0) (.slice (some ⟨gl, ol, none⟩) 1 cl)
          have hup := nd_up HJ.out.2.2.2 (B := w.heap.size + 1) (Or.inr (by omega)) (.int .i64 16) (.slice (some ⟨g1, o1, none⟩) 1 c1) (.int .i64 0) (.int .i64 0) (.int .i64 0) (.slice (some ⟨gl, ol, none⟩) 1 cl)
          have hqn := HJ.out.1.away hself (by have := HLT.out; simp; omega)
          obtain ⟨q0, q1, q2, q3, q4, q5⟩ := cells6 hst
          exact bodyPost_ret (v := .agg #[.int .i64 16, .slice (some ⟨g1, o1, none⟩) 1 c1, .int .i64 0, .int .i64 0, .int .i64 0, .slice (some ⟨gl, ol, none⟩) 1 cl]) (by simp [results, Tryz.results43, go_sem, q0, q1, q2, q3, q4, q5]) rfl ⟨rfl, hqn, hup⟩
end Go.Proofs.YtbnebkkpmcjmbaaGreatDoor


namespace Go.Proofs.YtbnebkkpmcjmbaaGreatDoor
open Go.RowKit Go.PL Go.Maps
/-- a list of texts in blocks of P or new since w -/
def PlP (P : Nat → Prop) (ls : List (List UInt8)) (w : World) (e : Ending) (w' : World) : Prop := ∃ v, e = .returned v ∧ SlP w' (fun b => P b ∨ New w b) v ls.length (ls.map sV) ∧ Upto [] w w'
set_option maxRecDepth 100000 in
set_option maxHeartbeats 3200000 in
theorem plus_calls (ls : List (List UInt8)) (x : List UInt8) (v : Value) (w : World) (P : Nat → Prop) (h : SlP w P v ls.length (ls.map sV)) (hl : ls.length ≤ 1000000) : Calls Tryz.prog 59 #[v, .string ⟨x.toArray⟩] w (PlP P (plusF ls x) w) := by
  obtain ⟨a, c, rfl⟩ := h.len
  have HH := Lib.hid (hasR_calls ls x _ w P h hl)
  have HS := Lib.hid h
  obtain ⟨i0, hi0, hz0, hz1, hz2⟩ := info9'
  have HI0 := Lib.hid hi0
  have HZ0 := Lib.hid hz0
  have HZ1 := Lib.hid hz1
  have HZ2 := Lib.hid hz2
  have HP : Hid (ls.contains x = true → plusF ls x = ls) := Lib.hid (fun hc => plus_in (by simpa using hc))
  have HQ : Hid (ls.contains x = false → plusF ls x = ls ++ [x]) := Lib.hid (fun hc => plus_out (by simpa using hc))
  generalize plusF ls x = R at *
  have HN : Hid (ls.length = ls.length) := Lib.hid rfl
  generalize hn : ls.length = n at *
  have hn0 : (0 : Int) ≤ n := by omega
  have hn1 : (n : Int) ≤ 1000000 := by omega
  have HLN := Lib.hid hn
  have HT0 : Hid (TxI w [] (.slice (some ⟨w.heap.size, 0, none⟩) 0 0) (w.alloc (.cells #[] 9))) := Lib.hid ⟨ownsRow_none w 9, fun g hg => by simp [Value.ownBlock] at hg; omega, (Upto.refl [] w).alloc _⟩
  have hrow := HT0.out.row
  have hslc : SlC (w.alloc (.cells #[] 9)) (.slice a n c) (ls.map sV) := by
    have := HS.out.ext ((Upto.refl [] w).alloc (.cells #[] 9))
    rw [show n = (ls.map sV).length by rw [List.length_map, hn]] at this ⊢
    exact this.slc
  have HML : Hid ((ls.map sV).length = n) := Lib.hid (by rw [List.length_map, hn])
  clear h hi0 hz0 hz1 hz2 hn HN
  go_enter Tryz.func59, Tryz.ntmps59
  go_wp2_with fail
  refine HH.out.mono ?_
  rintro e w1 ⟨rfl, rfl⟩
  cases hc : ls.contains x with
  | true =>
    have HR := Lib.hid (HP.out hc)
    clear hrow hslc hc
    go_wp2_with fail
    go_ret
    unfold PlP
    rw [HR.out, HLN.out]
    exact ⟨_, rfl, HS.out.mono (fun b hb _ => Or.inl hb), Upto.refl _ _⟩
  | false =>
    have HR := Lib.hid (HQ.out hc)
    clear hc
    go_wp2_with (at_builtin; first
      | (refine wpList_apps _ rfl (.tmp 9) (.tmp 10) 22 rfl 9 i0 (.string ⟨#[]⟩) 16 Tryz.underlying22 HI0.out HZ0.out HZ1.out HZ2.out rfl (.slice (some ⟨w1.heap.size, 0, none⟩) 0 0) 0 _ rfl hrow (.slice a n c) (ls.map sV) rfl hslc (by simp [Value.oneCell', sV]) (by rw [HML.out]; unfold maxLen; omega) (by rw [HML.out]; omega) ?_; intro vb vd w3 ho hu hw; rw [HML.out] at ho hw; have HM := Lib.hid (HT0.out.apps (ys := ls) rfl HLN.out ho hu hw); rw [HML.out]; clear hrow ho hu hw hslc; have HT4 : Hid (TxI w1 ls (.slice vb (0 + n) vd) (w3.alloc (.cells #[.string ⟨x.toArray⟩] 9))) := Lib.hid (HM.out.ext ((Upto.refl [] _).alloc _)); have hrow2 := HT4.out.row; have hsrc2 := cells_at (l := [sV x]) (new_at w3 (.cells #[.string ⟨x.toArray⟩] 9)))
      | (rw [Nat.zero_add] at *; rw [HLN.out] at hrow2; refine wpList_app _ rfl (.tmp 11) (.tmp 13) 22 rfl 9 i0 (.string ⟨#[]⟩) 1 16 Tryz.underlying22 HI0.out HZ0.out HZ1.out HZ2.out rfl (by decide) (.slice vb n vd) n _ rfl hrow2 ⟨w3.heap.size, 0, none⟩ 1 1 [sV x] rfl rfl hsrc2 (by simp [Value.oneCell', sV]) (by unfold maxLen; omega) (by omega) ?_; intro vb2 vd2 w5 ho hu hw; have HM5 := Lib.hid (HT4.out.app HLN.out ho hu hw); clear hrow2 hsrc2 ho hu hw))
    go_ret
    unfold PlP
    rw [HR.out]
    refine ⟨_, rfl, ?_, HM5.out.up⟩
    have := SlP.of_row (P := fun b => P b ∨ New w1 b) HM5.out.row (fun g hg => Or.inr (HM5.out.own g hg))
    exact this
end Go.Proofs.YtbnebkkpmcjmbaaGreatDoor


namespace Go.Proofs.YtbnebkkpmcjmbaaGreatDoor
open Go.RowKit Go.PL Go.Maps
mutual
/-- all names of all nodes -/
def nmsF : Nd → Nat
  | .mk _ nms _ _ _ l => nms.length + nmssF l
def nmssF : List Nd → Nat
  | [] => 0
  | x :: xs => nmsF x + nmssF xs
end
theorem fold_len : ∀ (l out : List (List UInt8)), (l.foldl plusF out).length ≤ out.length + l.length
  | [], out => by simp
  | x :: xs, out => by
    rw [List.foldl_cons]
    have := fold_len xs (plusF out x)
    have h2 : (plusF out x).length ≤ out.length + 1 := by
      unfold plusF
      split <;> simp
    simp only [List.length_cons]
    omega
theorem uses_len (op : Int) (nms : List (List UInt8)) : (usesF op nms).length ≤ nms.length := by
  unfold usesF
  split
  · simp
  · split <;> simp
theorem takeR_len (b : Bool) (nm : List UInt8) (l out : List (List UInt8)) : (takeR b nm l out).length ≤ out.length + l.length := by
  rw [takeR_eq]
  have := fold_len (l.filter (fun y => !(b && y == nm))) out
  have h2 := List.length_filter_le (fun y => !(b && y == nm)) l
  omega
mutual
theorem freeR_len : ∀ n : Nd, (freeR n).length ≤ nmsF n
  | .mk op nms _ _ _ l => by
    unfold freeR nmsF
    have h1 := freesR_len l (bindsF op nms.length) (nms.headD []) ((usesF op nms).foldl plusF [])
    have h2 := fold_len (usesF op nms) []
    have h3 := uses_len op nms
    simp at h2
    omega
theorem freesR_len : ∀ (l : List Nd) (b : Bool) (nm : List UInt8) (out : List (List UInt8)), (freesR l b nm out).length ≤ out.length + nmssF l
  | [], b, nm, out => by unfold freesR; omega
  | x :: xs, b, nm, out => by
    unfold freesR nmssF
    have h1 := freesR_len xs b nm (takeR b nm (freeR x) out)
    have h2 := takeR_len b nm (freeR x) out
    have h3 := freeR_len x
    omega
end
theorem take_app1 {α : Type} (l : List α) (i : Nat) (x : α) (h : l[i]? = some x) : l.take (i + 1) = l.take i ++ [x] := by
  obtain ⟨hi, rfl⟩ := List.getElem?_eq_some_iff.1 h
  exact List.take_succ_eq_append_getElem hi
theorem freesR_app (b : Bool) (nm : List UInt8) (x : Nd) : ∀ (l : List Nd) (out : List (List UInt8)), freesR (l ++ [x]) b nm out = takeR b nm (freeR x) (freesR l b nm out)
  | [], out => by simp [freesR]
  | y :: ys, out => by
    rw [List.cons_append]
    unfold freesR
    exact freesR_app b nm x ys _
theorem takeR_app (b : Bool) (nm y : List UInt8) : ∀ (l out : List (List UInt8)), takeR b nm (l ++ [y]) out = if b = false ∨ y ≠ nm then plusF (takeR b nm l out) y else takeR b nm l out
  | [], out => by simp [takeR]
  | z :: zs, out => by
    rw [List.cons_append]
    show takeR b nm (zs ++ [y]) _ = _
    rw [takeR_app b nm y zs]
    rfl
theorem nmss_app (a b : List Nd) : nmssF (a ++ b) = nmssF a + nmssF b := by
  induction a with
  | nil => simp [nmssF]
  | cons x xs ih => simp only [List.cons_append, nmssF, ih]; omega
theorem nmss_take (l : List Nd) (i : Nat) (x : Nd) (h : l[i]? = some x) : nmssF (l.take i) + nmsF x ≤ nmssF l := by
  have e := take_app1 l i x h
  have h1 : nmssF (l.take (i + 1)) + nmssF (l.drop (i + 1)) = nmssF l := by rw [← nmss_app, List.take_append_drop]
  rw [e, nmss_app] at h1
  simp only [nmssF] at h1
  omega
theorem nmss_take_le (l : List Nd) (i : Nat) : nmssF (l.take i) ≤ nmssF l := by
  have h1 : nmssF (l.take i) + nmssF (l.drop i) = nmssF l := by rw [← nmss_app, List.take_append_drop]
  omega
/-- a list that is under way: new since w0 -/
structure RowW (w0 : World) (ls : List (List UInt8)) (v : Value) (wr : World) : Prop where
  slp : SlP wr (New w0) v ls.length (ls.map sV)
  up : Upto [] w0 wr
theorem RowW.ext {w0 wr wr' : World} {ls : List (List UInt8)} {v : Value} (h : RowW w0 ls v wr) (hu : Upto [] wr wr') : RowW w0 ls v wr' := ⟨h.slp.ext hu, h.up.trans_ext hu⟩
theorem RowW.nil (w0 wr : World) (hu : Upto [] w0 wr) : RowW w0 [] (.slice none 0 0) wr := ⟨SlP.nil, hu⟩
theorem RowW.of {w0 wr w' : World} {_P : Nat → Prop} {ls ls' : List (List UInt8)} {v v' : Value} (h : RowW w0 ls v wr) (h2 : SlP w' (fun b => New w0 b ∨ New wr b) v' ls'.length (ls'.map sV)) (hu : Upto [] wr w') : RowW w0 ls' v' w' :=
  ⟨h2.mono (fun _b hb _ => hb.elim id (fun h3 => Nat.le_trans h.up.size h3)), h.up.trans_ext hu⟩
/-- the j-th text of a list -/
theorem slp_cell {w : World} {P : Nat → Prop} {a : Option Addr} {n c m : Nat} {ls : List (List UInt8)} (h : SlP w P (.slice a n c) m (ls.map sV)) (hm : ls.length = m) (j : Nat) (y : List UInt8) (hj : ls[j]? = some y) : ∃ g o, a = some ⟨g, o, none⟩ ∧ ∀ u, Upto [] w u → u.cell? ⟨g, o + j, none⟩ = some (.string ⟨y.toArray⟩) := by
  have hl := (List.getElem?_eq_some_iff.1 hj).1
  rcases h with ⟨h0, -⟩ | ⟨g, o, c', e, -, hc⟩
  · omega
  · simp only [Value.slice.injEq] at e
    refine ⟨g, o, e.1, fun u hu => ?_⟩
    have h1 := hc j (sV y) (by rw [List.getElem?_map, hj]; rfl)
    rw [(hu.cell (World.block_lt_of_cell? w _ h1) (by simp)).trans h1]
    rfl
def FqPost (w : World) (ls : List (List UInt8)) (e : Ending) (w' : World) : Prop := ∃ v, e = .returned v ∧ RowW w ls v w'
set_option maxRecDepth 100000 in
set_option maxHeartbeats 4000000 in
theorem freeRef_calls : ∀ (k : Nat) (nd : Nd), sizeF nd ≤ k → k ≤ 10000000 → goodN nd → nmsF nd ≤ 100000 → ∀ (v : Value) (w : World) (P : Nat → Prop), NdV w P nd v → Calls Tryz.prog 21 #[v] w (FqPost w (freeR nd))
  | 0, nd, hk, _, _, _, _, _, _, _ => by have := sizeF_pos nd; omega
  | k + 1, .mk op nms so nn mm l, hk, hk7, hgd, hnm, v, w, P, h => by
    obtain ⟨a1, c1, a2, c2, rfl, hs, hg⟩ := h.open
    unfold goodN at hgd
    have HGD := Lib.hid hgd
    have HG := Lib.hid hg
    have hsz : sizesF l ≤ k := by simp only [sizeF] at hk; omega
    have HSZ := Lib.hid hsz
    unfold nmsF at hnm
    have HNM := Lib.hid hnm
    have HE : Hid (freeR (.mk op nms so nn mm l) = freesR l (bindsF op nms.length) (nms.headD []) ((usesF op nms).foldl plusF [])) := Lib.hid (by simp only [freeR])
    have HLEN : Hid (l.length ≤ 10000000) := Lib.hid (by have := sizes_len l; omega)
    have hlen := HLEN.out
    have HBI := Lib.hid (fun u => bindsR_calls op a1 nms.length c1 so nn mm a2 l.length c2 u (fun h => hgd.1 (by omega)))
    have HUS := Lib.hid (fun u (hu : Upto [] w u) => used_calls P op nms a1 c1 so nn mm a2 l.length c2 u (fun h => hgd.1 (Or.inl h)) (hs.ext hu) (by omega))
    have HIH := Lib.hid (fun (x : Nd) (hx : x ∈ l) (hs : sizeF x ≤ k) (hn : nmsF x ≤ 100000) => freeRef_calls k x hs (by omega) (goodsN_mem HGD.out.2 x hx) hn)
    obtain ⟨W, hW⟩ : ∃ W, W = w.alloc (.cells #[.int .i64 op, .slice a1 nms.length c1, .int .i64 so, .int .i64 nn, .int .i64 mm, .slice a2 l.length c2] 25) := ⟨_, rfl⟩
    have HU1 : Hid (Upto [] w W) := Lib.hid (by rw [hW]; exact (Upto.refl [] w).alloc _)
    have HB1 : Hid (W.heap[w.heap.size]? = some (.cells #[.int .i64 op, .slice a1 nms.length c1, .int .i64 so, .int .i64 nn, .int .i64 mm, .slice a2 l.length c2] 25 (0, 0))) := Lib.hid (by rw [hW]; exact new_at w _)
    have HUL : Hid ((usesF op nms).length ≤ nms.length) := Lib.hid (uses_len op nms)
    have HN0 : Hid (bindsF op nms.length = true → ∃ g o, a1 = some ⟨g, o, none⟩ ∧ ∀ u, Upto [] w u → u.cell? ⟨g, o, none⟩ = some (.string ⟨(nms.headD []).toArray⟩)) := Lib.hid (fun hb => by
      cases nms with
      | nil => unfold bindsF at hb; simp at hb
      | cons x r => exact slp_cell hs rfl 0 x rfl)
    have HNL : Hid (bindsF op nms.length = true → 0 < nms.length) := Lib.hid (fun hb => by unfold bindsF at hb; simp at hb; omega)
    generalize hbb : bindsF op nms.length = bb at *
    generalize hnm0 : nms.headD [] = nm at *
    generalize hlu : usesF op nms = lu at *
    have HPL := Lib.hid (fun (ls : List (List UInt8)) (x : List UInt8) (v : Value) (u : World) (h : RowW W ls v u) (hl : ls.length ≤ 1000000) => plus_calls ls x v u (New W) h.slp hl)
    obtain ⟨x0, x1, x2, x3, x4, x5⟩ := cells6 HB1.out
    generalize hnl : nms.length = nl at *
    generalize hll : l.length = ll at *
    have HLL := Lib.hid hll
    have HLU := Lib.hid hlu
    have hL0 : (0 : Int) ≤ ll := by omega
    have hL1 : (ll : Int) ≤ 10000000 := by omega
    clear h hg hs hsz hll hlen hk hgd hbb hnm0 hlu hnl hnm
    go_enter Tryz.func21, Tryz.ntmps21
    go_wp2_with fail
    simp only [← hW]
    clear hW
    go_wp2_with fail
    refine (HUS.out _ HU1.out).mono ?_
    rintro e w2 ⟨vu, rfl, hsu, hu2⟩
    rw [HLU.out] at hsu
    obtain ⟨au, cu, rfl⟩ := hsu.len
    have HSU := Lib.hid hsu
    have HU2 := Lib.hid hu2
    have HB2 := Lib.hid (hu2.at HB1.out (by simp))
    generalize hln : lu.length = n at *
    have HLN := Lib.hid hln
    have hn0 : (0 : Int) ≤ n := by omega
    have hn1 : (n : Int) ≤ 1000000 := by have := HUL.out; have := HNM.out; omega
    clear hu2 hsu x0 x1 x2 x3 x4 x5 hln
    go_wp2_with fail
    go_loopw [3, 5] (fun s i wr => ∃ (j m : Nat) (va : Option Addr) (vc : Nat), j ≤ n ∧ i = .int .i64 j ∧ s = .slice va m vc ∧ Hid (RowW W ((lu.take j).foldl plusF []) (.slice va m vc) wr ∧ m = ((lu.take j).foldl plusF []).length) ∧ Hid (Upto [] w2 wr)) (fun _ i _ => n - (intOf i).toNat)
    case atStart => exact ⟨0, 0, none, 0, by omega, rfl, rfl, Lib.hid ⟨by simpa using RowW.nil W w2 HU2.out, by simp⟩, Lib.hid (Upto.refl _ _)⟩
    case round =>
      obtain ⟨j, m, va, vc, hj, rfl, rfl, HR, HU⟩ := hrel
      have hj0 : (0 : Int) ≤ j := by omega
      rcases Nat.lt_or_ge j n with hlt | hge
      · obtain ⟨y, hy⟩ : ∃ y, lu[j]? = some y := ⟨_, List.getElem?_eq_getElem (by have := HLN.out; omega)⟩
        obtain ⟨g, o, rfl, hcell⟩ := slp_cell HSU.out HLN.out j y hy
        have hc := hcell wr HU.out
        have hltI : (j : Int) < n := by omega
        have HNX : Hid ((lu.take (j + 1)).foldl plusF [] = plusF ((lu.take j).foldl plusF []) y) := Lib.hid (by rw [take_app1 lu j y hy, List.foldl_append]; rfl)
        have HCL := Lib.hid (HPL.out _ y _ wr HR.out.1 (by have h1 := fold_len (lu.take j) []; have h2 := HLN.out; simp at h1; omega))
        clear hcell hy
        go_wp2_with fail
        refine HCL.out.mono ?_
        rintro e w5 ⟨v5, rfl, hs5, hu5⟩
        have HR5 := Lib.hid (HR.out.1.of (_P := New W) hs5 hu5)
        obtain ⟨a5, c5, rfl⟩ := hs5.len
        have HU5 := Lib.hid (HU.out.trans_ext hu5)
        clear hu5 hs5
        go_wp2_with fail
        go_roundw
        case rel => exact ⟨j + 1, _, a5, c5, by omega, by go_num, rfl, Lib.hid (by rw [HNX.out]; exact ⟨HR5.out, rfl⟩), HU5⟩
        case measure => simp [intOf]; omega
      · obtain rfl : j = n := by omega
        have hgeI : ¬ (j : Int) < j := by omega
        have HT : Hid (lu.take j = lu) := Lib.hid (by rw [← HLN.out, List.take_length])
        rw [HT.out] at HR
        have HO1 : Hid ((lu.foldl plusF []).length ≤ nl) := Lib.hid (by have := fold_len lu []; have := HLN.out; have := HUL.out; simp at *; omega)
        generalize lu.foldl plusF [] = out1 at *
        have HU3 := Lib.hid ((HU1.out.trans_ext HU2.out).trans_ext HU.out)
        have HB3 := Lib.hid (HU.out.at HB2.out (by simp))
        have HR3 := Lib.hid HR.out.1
        have hm := HR.out.2
        subst hm
        clear HR HU HSU HT
        go_wp2_with fail
        go_loopw [3, 6] (fun s i wq => ∃ (q m : Nat) (va : Option Addr) (vc : Nat), q ≤ ll ∧ i = .int .i64 q ∧ s = .slice va m vc ∧ Hid (RowW W (freesR (l.take q) bb nm out1) (.slice va m vc) wq ∧ m = (freesR (l.take q) bb nm out1).length) ∧ Hid (Upto [] wr wq)) (fun _ i _ => ll - (intOf i).toNat)
        case atStart => exact ⟨0, _, va, vc, by omega, rfl, rfl, Lib.hid ⟨by simpa [freesR] using HR3.out, by simp [freesR]⟩, Lib.hid (Upto.refl _ _)⟩
        case round =>
          obtain ⟨q, m, vb, vd, hq, rfl, rfl, HR, HV⟩ := hrel
          have hq0 : (0 : Int) ≤ q := by omega
          have HBB := Lib.hid (HV.out.at HB3.out (by simp))
          have x5 := cell_of HBB.out 5
          simp only [List.getElem?_toArray, List.getElem?_cons_zero, List.getElem?_cons_succ] at x5
          rcases Nat.lt_or_ge q ll with hlt | hge
          · obtain ⟨x, hx⟩ : ∃ x, l[q]? = some x := ⟨_, List.getElem?_eq_getElem (by have := HLL.out; omega)⟩
            obtain ⟨g, o, xo, xn1, xn2, xn3, xs, xm, xq, xl1, xl2, xl3, rfl, d0, d1, d2, d3, d4, d5, hnx⟩ := HG.out q x hx
            have hw := HU3.out.trans_ext HV.out
            replace d0 := up_cell hw d0
            replace d1 := up_cell hw d1
            replace d2 := up_cell hw d2
            replace d3 := up_cell hw d3
            replace d4 := up_cell hw d4
            replace d5 := up_cell hw d5
            have HST := Lib.hid (sizesF_take l q x hx)
            have HNT := Lib.hid (nmss_take l q x hx)
            have HC := Lib.hid (HIH.out x (List.mem_of_getElem? hx) (by have := HSZ.out; have := HST.out; omega) (by have := HNM.out; have := HNT.out; omega) _ wr P (hnx.ext hw))
            have hltI : (q : Int) < ll := by omega
            have HNX : Hid (freesR (l.take (q + 1)) bb nm out1 = takeR bb nm (freeR x) (freesR (l.take q) bb nm out1)) := Lib.hid (by rw [take_app1 l q x hx]; exact freesR_app bb nm x _ _)
            have HFL := Lib.hid (freeR_len x)
            have HOL : Hid ((freesR (l.take q) bb nm out1).length + (freeR x).length ≤ 100000) := Lib.hid (by have h1 := freesR_len (l.take q) bb nm out1; have h2 := HNT.out; have h3 := HFL.out; have h4 := HO1.out; have h5 := HNM.out; omega)
            clear hnx hx hw
            go_wp2_with fail
            refine HC.out.mono ?_
            rintro e w5 ⟨v7, rfl, hr7⟩
            obtain ⟨a7, c7, rfl⟩ := hr7.slp.len
            have HS7 := Lib.hid hr7.slp
            have HU5 := Lib.hid (HV.out.trans_ext hr7.up)
            have HR5 := Lib.hid (HR.out.1.ext hr7.up)
            have hmm := HR.out.2
            generalize hlc : freeR x = lc at *
            generalize hfq : freesR (l.take q) bb nm out1 = fq at *
            subst hmm
            clear hr7 hlc hfq HR
            generalize hln7 : lc.length = n7 at *
            have HL7 := Lib.hid hln7
            have hn70 : (0 : Int) ≤ n7 := by omega
            have hn71 : (n7 : Int) ≤ 1000000 := by have := HOL.out; omega
            have HB5 := Lib.hid (HU5.out.at HB3.out (by simp))
            clear hln7 d0 d1 d2 d3 d4 d5 x5
            go_wp2_with fail
            go_loopw [3, 8] (fun s i wz => ∃ (z m : Nat) (va : Option Addr) (vc : Nat), z ≤ n7 ∧ i = .int .i64 z ∧ s = .slice va m vc ∧ Hid (RowW W (takeR bb nm (lc.take z) fq) (.slice va m vc) wz ∧ m = (takeR bb nm (lc.take z) fq).length) ∧ Hid (Upto [] w5 wz)) (fun _ i _ => n7 - (intOf i).toNat)
            case atStart => exact ⟨0, _, vb, vd, by omega, rfl, rfl, Lib.hid ⟨by simpa [takeR] using HR5.out, by simp [takeR]⟩, Lib.hid (Upto.refl _ _)⟩
            case round =>
              obtain ⟨z, m, vb2, vd2, hz, rfl, rfl, HR6, HZ⟩ := hrel
              have hz0 : (0 : Int) ≤ z := by omega
              rcases Nat.lt_or_ge z n7 with hlt | hge
              · obtain ⟨y, hy⟩ : ∃ y, lc[z]? = some y := ⟨_, List.getElem?_eq_getElem (by have := HL7.out; omega)⟩
                obtain ⟨g7, o7, rfl, hcell⟩ := slp_cell HS7.out HL7.out z y hy
                have hltI : (z : Int) < n7 := by omega
                have HNZ : Hid (takeR bb nm (lc.take (z + 1)) fq = if bb = false ∨ y ≠ nm then plusF (takeR bb nm (lc.take z) fq) y else takeR bb nm (lc.take z) fq) := Lib.hid (by rw [take_app1 lc z y hy]; exact takeR_app bb nm y _ _)
                have HLZ : Hid ((takeR bb nm (lc.take z) fq).length ≤ 1000000) := Lib.hid (by have h1 := takeR_len bb nm (lc.take z) fq; have h2 := HOL.out; have h3 := HL7.out; have h4 := List.length_take_le z lc; omega)
                have HB6 := Lib.hid (HZ.out.at HB5.out (by simp))
                have HCL := Lib.hid (fun u (hu : Upto [] wr u) => HPL.out _ y _ u (HR6.out.1.ext hu) HLZ.out)
                have e0 : ∀ u : Ext wr, u.w.cell? ⟨w.heap.size, 0, none⟩ = some (.int .i64 op) := fun u => u.cell (cell_of HB6.out 0)
                have e1 : ∀ u : Ext wr, u.w.cell? ⟨w.heap.size, 1, none⟩ = some (.slice a1 nl c1) := fun u => u.cell (cell_of HB6.out 1)
                have e2 : ∀ u : Ext wr, u.w.cell? ⟨w.heap.size, 2, none⟩ = some (.int .i64 so) := fun u => u.cell (cell_of HB6.out 2)
                have e3 : ∀ u : Ext wr, u.w.cell? ⟨w.heap.size, 3, none⟩ = some (.int .i64 nn) := fun u => u.cell (cell_of HB6.out 3)
                have e4 : ∀ u : Ext wr, u.w.cell? ⟨w.heap.size, 4, none⟩ = some (.int .i64 mm) := fun u => u.cell (cell_of HB6.out 4)
                have e5 : ∀ u : Ext wr, u.w.cell? ⟨w.heap.size, 5, none⟩ = some (.slice (some ⟨g, o, none⟩) ll c2) := fun u => u.cell (cell_of HB6.out 5)
                have e7 : ∀ u : Ext wr, u.w.cell? ⟨g7, o7 + z, none⟩ = some (.string ⟨y.toArray⟩) := fun u => hcell u.w (HZ.out.trans_ext u.up)
                have hcell7 : ∀ u, Upto [] wr u → u.cell? ⟨g7, o7 + z, none⟩ = some (.string ⟨y.toArray⟩) := fun u hu => hcell u (HZ.out.trans_ext hu)
                clear hcell hy
                cases bb with
                | false =>
                  go_wp2_with fail
                  refine wp_region_seg_all [1] [] [0, 1, 2, 3, 4, 5, 6, 7, 8, 9, 10, 11, 12, 13] (by kernel_rfl) (by kernel_rfl) ?_
                  with_reducible refine seg_plain (o := ?o1) ?hi1 ?hA1 ?hC1 ?hp1 ?hw1 ?h1
                  case hi1 => rfl
                  case hA1 => rfl
                  case hC1 => rfl
                  case hp1 => rfl
                  case hw1 => kernel_rfl
                  intro K' hK'
                  go_big_quiet_op
                  go_big_quiet_on
                  refine seg_call (f := 48) (args := #[.agg #[.int .i64 op, .slice a1 nl c1, .int .i64 so, .int .i64 nn, .int .i64 mm, .slice (some ⟨g, o, none⟩) ll c2]]) (v := .bool false) rfl rfl rfl rfl (fun w => by go_simp) (fun w hu hd => HBI.out w) ?_
                  simp only [Act.put, List.setIfInBounds_toArray, List.set_cons_zero, List.set_cons_succ]
                  with_reducible refine seg_plain (o := ?o2) ?hi2 ?hA2 ?hC2 ?hp2 ?hw2 ?h2
                  case hi2 => rfl
                  case hA2 => rfl
                  case hC2 => rfl
                  case hp2 => rfl
                  case hw2 => kernel_rfl
                  intro K' hK'
                  go_big_quiet_op
                  go_big_quiet_on
                  with_reducible refine seg_plain (o := ?o3) ?hi3 ?hA3 ?hC3 ?hp3 ?hw3 ?h3
                  case hi3 => rfl
                  case hA3 => rfl
                  case hC3 => rfl
                  case hp3 => rfl
                  case hw3 => kernel_rfl
                  intro K' hK'
                  go_big_quiet_op
                  go_big_quiet_on
                  with_reducible refine seg_skip (o := ?o4) ?hi4 ?hw4 ?h4
                  case hi4 => rfl
                  case hw4 => kernel_rfl
                  simp only [Act.put, List.setIfInBounds_toArray, List.set_cons_zero, List.set_cons_succ]
                  with_reducible refine seg_skip (o := ?o5) ?hi5 ?hw5 ?h5
                  case hi5 => rfl
                  case hw5 => kernel_rfl
                  simp only [Act.put, List.setIfInBounds_toArray, List.set_cons_zero, List.set_cons_succ]
                  with_reducible refine seg_skip (o := ?o6) ?hi6 ?hw6 ?h6
                  case hi6 => rfl
                  case hw6 => kernel_rfl
                  simp only [Act.put, List.setIfInBounds_toArray, List.set_cons_zero, List.set_cons_succ]
                  with_reducible refine seg_skip (o := ?o7) ?hi7 ?hw7 ?h7
                  case hi7 => rfl
                  case hw7 => kernel_rfl
                  simp only [Act.put, List.setIfInBounds_toArray, List.set_cons_zero, List.set_cons_succ]
                  with_reducible refine seg_skip (o := ?o8) ?hi8 ?hw8 ?h8
                  case hi8 => rfl
                  case hw8 => kernel_rfl
                  simp only [Act.put, List.setIfInBounds_toArray, List.set_cons_zero, List.set_cons_succ]
                  with_reducible refine seg_skip (o := ?o9) ?hi9 ?hw9 ?h9
                  case hi9 => rfl
                  case hw9 => kernel_rfl
                  simp only [Act.put, List.setIfInBounds_toArray, List.set_cons_zero, List.set_cons_succ]
                  with_reducible refine seg_skip (o := ?o10) ?hi10 ?hw10 ?h10
                  case hi10 => rfl
                  case hw10 => kernel_rfl
                  simp only [Act.put, List.setIfInBounds_toArray, List.set_cons_zero, List.set_cons_succ]
                  with_reducible refine seg_skip (o := ?o11) ?hi11 ?hw11 ?h11
                  case hi11 => rfl
                  case hw11 => kernel_rfl
                  simp only [Act.put, List.setIfInBounds_toArray, List.set_cons_zero, List.set_cons_succ]
                  with_reducible refine seg_skip (o := ?o12) ?hi12 ?hw12 ?h12
                  case hi12 => rfl
                  case hw12 => kernel_rfl
                  simp only [Act.put, List.setIfInBounds_toArray, List.set_cons_zero, List.set_cons_succ]
                  with_reducible refine seg_plain (o := ?o13) ?hi13 ?hA13 ?hC13 ?hp13 ?hw13 ?h13
                  case hi13 => rfl
                  case hA13 => rfl
                  case hC13 => rfl
                  case hp13 => rfl
                  case hw13 => kernel_rfl
                  intro K' hK'
                  go_big_quiet_op
                  go_big_quiet_on
                  have HCO : Hid (false = false ∨ y ≠ nm) := Lib.hid (Or.inl rfl)
                  intro w9 hg
                  have HU9 := Lib.hid hg.up
                  have hc7 := hcell7 w9 HU9.out
                  clear hg e0 e1 e2 e3 e4 e5 e7
                  go_wp2_with fail
                  refine (HCL.out w9 HU9.out).mono ?_
                  rintro e wa ⟨va, rfl, hsa, hua⟩
                  have HRA := Lib.hid ((HR6.out.1.ext HU9.out).of (_P := New W) hsa hua)
                  obtain ⟨aa, ca, rfl⟩ := hsa.len
                  have HUA := Lib.hid ((HZ.out.trans_ext HU9.out).trans_ext hua)
                  clear hua hsa
                  go_wp2_with fail
                  go_roundw
                  case rel => exact ⟨z + 1, _, aa, ca, by omega, by go_num, rfl, Lib.hid (by rw [HNZ.out, if_pos HCO.out]; exact ⟨HRA.out, rfl⟩), HUA⟩
                  case measure => simp [intOf]; omega
                | true =>
                  obtain ⟨gn, on, rfl, hcn⟩ := HN0.out rfl
                  have en : ∀ u : Ext wr, u.w.cell? ⟨gn, on, none⟩ = some (.string ⟨nm.toArray⟩) := fun u => hcn u.w (((HU3.out.trans_ext HU5.out).trans_ext HZ.out).trans_ext u.up)
                  have hnl0 := HNL.out rfl
                  have hnl1 : (0 : Int) < nl := by omega
                  clear hcn
                  by_cases hyn : y = nm
                  · have HCO : Hid (¬ (true = false ∨ y ≠ nm)) := Lib.hid (by simp [hyn])
                    subst hyn
                    go_wp2_with fail
                    refine wp_region_seg_all [1] [] [0, 1, 2, 3, 4, 5, 6, 7, 8, 9, 10, 11, 12, 13] (by kernel_rfl) (by kernel_rfl) ?_
                    with_reducible refine seg_plain (o := ?o14) ?hi14 ?hA14 ?hC14 ?hp14 ?hw14 ?h14
                    case hi14 => rfl
                    case hA14 => rfl
                    case hC14 => rfl
                    case hp14 => rfl
                    case hw14 => kernel_rfl
                    intro K' hK'
                    go_big_quiet_op
                    go_big_quiet_on
                    refine seg_call (f := 48) (args := #[.agg #[.int .i64 op, .slice (some ⟨gn, on, none⟩) nl c1, .int .i64 so, .int .i64 nn, .int .i64 mm, .slice (some ⟨g, o, none⟩) ll c2]]) (v := .bool true) rfl rfl rfl rfl (fun w => by go_simp) (fun w hu hd => HBI.out w) ?_
                    simp only [Act.put, List.setIfInBounds_toArray, List.set_cons_zero, List.set_cons_succ]
                    with_reducible refine seg_plain (o := ?o15) ?hi15 ?hA15 ?hC15 ?hp15 ?hw15 ?h15
                    case hi15 => rfl
                    case hA15 => rfl
                    case hC15 => rfl
                    case hp15 => rfl
                    case hw15 => kernel_rfl
                    intro K' hK'
                    go_big_quiet_op
                    go_big_quiet_on
                    with_reducible refine seg_plain (o := ?o16) ?hi16 ?hA16 ?hC16 ?hp16 ?hw16 ?h16
                    case hi16 => rfl
                    case hA16 => rfl
                    case hC16 => rfl
                    case hp16 => rfl
                    case hw16 => kernel_rfl
                    intro K' hK'
                    go_big_quiet_op
                    go_big_quiet_on
                    with_reducible refine seg_plain (o := ?o17) ?hi17 ?hA17 ?hC17 ?hp17 ?hw17 ?h17
                    case hi17 => rfl
                    case hA17 => rfl
                    case hC17 => rfl
                    case hp17 => rfl
                    case hw17 => kernel_rfl
                    intro K' hK'
                    go_big_quiet_op
                    go_big_quiet_on
                    with_reducible refine seg_plain (o := ?o18) ?hi18 ?hA18 ?hC18 ?hp18 ?hw18 ?h18
                    case hi18 => rfl
                    case hA18 => rfl
                    case hC18 => rfl
                    case hp18 => rfl
                    case hw18 => kernel_rfl
                    intro K' hK'
                    go_big_quiet_op
                    go_big_quiet_on
                    with_reducible refine seg_plain (o := ?o19) ?hi19 ?hA19 ?hC19 ?hp19 ?hw19 ?h19
                    case hi19 => rfl
                    case hA19 => rfl
                    case hC19 => rfl
                    case hp19 => rfl
                    case hw19 => kernel_rfl
                    intro K' hK'
                    go_big_quiet_op
                    go_big_quiet_on
                    with_reducible refine seg_plain (o := ?o20) ?hi20 ?hA20 ?hC20 ?hp20 ?hw20 ?h20
                    case hi20 => rfl
                    case hA20 => rfl
                    case hC20 => rfl
                    case hp20 => rfl
                    case hw20 => kernel_rfl
                    intro K' hK'
                    go_big_quiet_op
                    go_big_quiet_on
                    with_reducible refine seg_plain (o := ?o21) ?hi21 ?hA21 ?hC21 ?hp21 ?hw21 ?h21
                    case hi21 => rfl
                    case hA21 => rfl
                    case hC21 => rfl
                    case hp21 => rfl
                    case hw21 => kernel_rfl
                    intro K' hK'
                    go_big_quiet_op
                    go_big_quiet_on
                    with_reducible refine seg_plain (o := ?o22) ?hi22 ?hA22 ?hC22 ?hp22 ?hw22 ?h22
                    case hi22 => rfl
                    case hA22 => rfl
                    case hC22 => rfl
                    case hp22 => rfl
                    case hw22 => kernel_rfl
                    intro K' hK'
                    go_big_quiet_op
                    go_big_quiet_on
                    with_reducible refine seg_plain (o := ?o23) ?hi23 ?hA23 ?hC23 ?hp23 ?hw23 ?h23
                    case hi23 => rfl
                    case hA23 => rfl
                    case hC23 => rfl
                    case hp23 => rfl
                    case hw23 => kernel_rfl
                    intro K' hK'
                    go_big_quiet_op
                    go_big_quiet_on
                    with_reducible refine seg_plain (o := ?o24) ?hi24 ?hA24 ?hC24 ?hp24 ?hw24 ?h24
                    case hi24 => rfl
                    case hA24 => rfl
                    case hC24 => rfl
                    case hp24 => rfl
                    case hw24 => kernel_rfl
                    intro K' hK'
                    go_big_quiet_op
                    go_big_quiet_on
                    with_reducible refine seg_plain (o := ?o25) ?hi25 ?hA25 ?hC25 ?hp25 ?hw25 ?h25
                    case hi25 => rfl
                    case hA25 => rfl
                    case hC25 => rfl
                    case hp25 => rfl
                    case hw25 => kernel_rfl
                    intro K' hK'
                    go_big_quiet_op
                    go_big_quiet_on
                    with_reducible refine seg_plain (o := ?o26) ?hi26 ?hA26 ?hC26 ?hp26 ?hw26 ?h26
                    case hi26 => rfl
                    case hA26 => rfl
                    case hC26 => rfl
                    case hp26 => rfl
                    case hw26 => kernel_rfl
                    intro K' hK'
                    go_big_quiet_op
                    go_big_quiet_on
                    intro w9 hg
                    have HU9 := Lib.hid hg.up
                    have hc7 := hcell7 w9 HU9.out
                    clear hg e0 e1 e2 e3 e4 e5 e7 en
                    have HRA := Lib.hid (HR6.out.1.ext HU9.out)
                    have HUA := Lib.hid (HZ.out.trans_ext HU9.out)
                    go_wp2_with fail
                    go_roundw
                    case rel => exact ⟨z + 1, m, vb2, vd2, by omega, by go_num, rfl, Lib.hid (by rw [HNZ.out, if_neg HCO.out]; exact ⟨HRA.out, HR6.out.2⟩), HUA⟩
                    case measure => simp [intOf]; omega
                  · have HCO : Hid (true = false ∨ y ≠ nm) := Lib.hid (Or.inr hyn)
                    have hb1 : (y == nm) = false := by rw [beq_eq_false_iff_ne]; exact hyn
                    have hb2 : (y != nm) = true := by rw [bne_iff_ne]; exact hyn
                    go_wp2_with fail
                    refine wp_region_seg_all [1] [] [0, 1, 2, 3, 4, 5, 6, 7, 8, 9, 10, 11, 12, 13] (by kernel_rfl) (by kernel_rfl) ?_
                    with_reducible refine seg_plain (o := ?o27) ?hi27 ?hA27 ?hC27 ?hp27 ?hw27 ?h27
                    case hi27 => rfl
                    case hA27 => rfl
                    case hC27 => rfl
                    case hp27 => rfl
                    case hw27 => kernel_rfl
                    intro K' hK'
                    go_big_quiet_op
                    go_big_quiet_on
                    refine seg_call (f := 48) (args := #[.agg #[.int .i64 op, .slice (some ⟨gn, on, none⟩) nl c1, .int .i64 so, .int .i64 nn, .int .i64 mm, .slice (some ⟨g, o, none⟩) ll c2]]) (v := .bool true) rfl rfl rfl rfl (fun w => by go_simp) (fun w hu hd => HBI.out w) ?_
                    simp only [Act.put, List.setIfInBounds_toArray, List.set_cons_zero, List.set_cons_succ]
                    with_reducible refine seg_plain (o := ?o28) ?hi28 ?hA28 ?hC28 ?hp28 ?hw28 ?h28
                    case hi28 => rfl
                    case hA28 => rfl
                    case hC28 => rfl
                    case hp28 => rfl
                    case hw28 => kernel_rfl
                    intro K' hK'
                    go_big_quiet_op
                    go_big_quiet_on
                    with_reducible refine seg_plain (o := ?o29) ?hi29 ?hA29 ?hC29 ?hp29 ?hw29 ?h29
                    case hi29 => rfl
                    case hA29 => rfl
                    case hC29 => rfl
                    case hp29 => rfl
                    case hw29 => kernel_rfl
                    intro K' hK'
                    go_big_quiet_op
                    go_big_quiet_on
                    with_reducible refine seg_plain (o := ?o30) ?hi30 ?hA30 ?hC30 ?hp30 ?hw30 ?h30
                    case hi30 => rfl
                    case hA30 => rfl
                    case hC30 => rfl
                    case hp30 => rfl
                    case hw30 => kernel_rfl
                    intro K' hK'
                    go_big_quiet_op
                    go_big_quiet_on
                    with_reducible refine seg_plain (o := ?o31) ?hi31 ?hA31 ?hC31 ?hp31 ?hw31 ?h31
                    case hi31 => rfl
                    case hA31 => rfl
                    case hC31 => rfl
                    case hp31 => rfl
                    case hw31 => kernel_rfl
                    intro K' hK'
                    go_big_quiet_op
                    go_big_quiet_on
                    with_reducible refine seg_plain (o := ?o32) ?hi32 ?hA32 ?hC32 ?hp32 ?hw32 ?h32
                    case hi32 => rfl
                    case hA32 => rfl
                    case hC32 => rfl
                    case hp32 => rfl
                    case hw32 => kernel_rfl
                    intro K' hK'
                    go_big_quiet_op
                    go_big_quiet_on
                    with_reducible refine seg_plain (o := ?o33) ?hi33 ?hA33 ?hC33 ?hp33 ?hw33 ?h33
                    case hi33 => rfl
                    case hA33 => rfl
                    case hC33 => rfl
                    case hp33 => rfl
                    case hw33 => kernel_rfl
                    intro K' hK'
                    go_big_quiet_op
                    go_big_quiet_on
                    with_reducible refine seg_plain (o := ?o34) ?hi34 ?hA34 ?hC34 ?hp34 ?hw34 ?h34
                    case hi34 => rfl
                    case hA34 => rfl
                    case hC34 => rfl
                    case hp34 => rfl
                    case hw34 => kernel_rfl
                    intro K' hK'
                    go_big_quiet_op
                    go_big_quiet_on
                    with_reducible refine seg_plain (o := ?o35) ?hi35 ?hA35 ?hC35 ?hp35 ?hw35 ?h35
                    case hi35 => rfl
                    case hA35 => rfl
                    case hC35 => rfl
                    case hp35 => rfl
                    case hw35 => kernel_rfl
                    intro K' hK'
                    go_big_quiet_op
                    go_big_quiet_on
                    with_reducible refine seg_plain (o := ?o36) ?hi36 ?hA36 ?hC36 ?hp36 ?hw36 ?h36
                    case hi36 => rfl
                    case hA36 => rfl
                    case hC36 => rfl
                    case hp36 => rfl
                    case hw36 => kernel_rfl
                    intro K' hK'
                    go_big_quiet_op
                    go_big_quiet_on
                    with_reducible refine seg_plain (o := ?o37) ?hi37 ?hA37 ?hC37 ?hp37 ?hw37 ?h37
                    case hi37 => rfl
                    case hA37 => rfl
                    case hC37 => rfl
                    case hp37 => rfl
                    case hw37 => kernel_rfl
                    intro K' hK'
                    go_big_quiet_op
                    go_big_quiet_on
                    with_reducible refine seg_plain (o := ?o38) ?hi38 ?hA38 ?hC38 ?hp38 ?hw38 ?h38
                    case hi38 => rfl
                    case hA38 => rfl
                    case hC38 => rfl
                    case hp38 => rfl
                    case hw38 => kernel_rfl
                    intro K' hK'
                    go_big_quiet_op
                    go_big_quiet_on
                    with_reducible refine seg_plain (o := ?o39) ?hi39 ?hA39 ?hC39 ?hp39 ?hw39 ?h39
                    case hi39 => rfl
                    case hA39 => rfl
                    case hC39 => rfl
                    case hp39 => rfl
                    case hw39 => kernel_rfl
                    intro K' hK'
                    go_big_quiet_op
                    go_big_quiet_on
                    intro w9 hg
                    have HU9 := Lib.hid hg.up
                    have hc7 := hcell7 w9 HU9.out
                    clear hg e0 e1 e2 e3 e4 e5 e7 en
                    go_wp2_with fail
                    refine (HCL.out w9 HU9.out).mono ?_
                    rintro e wa ⟨va, rfl, hsa, hua⟩
                    have HRA := Lib.hid ((HR6.out.1.ext HU9.out).of (_P := New W) hsa hua)
                    obtain ⟨aa, ca, rfl⟩ := hsa.len
                    have HUA := Lib.hid ((HZ.out.trans_ext HU9.out).trans_ext hua)
                    clear hua hsa
                    go_wp2_with fail
                    go_roundw
                    case rel => exact ⟨z + 1, _, aa, ca, by omega, by go_num, rfl, Lib.hid (by rw [HNZ.out, if_pos HCO.out]; exact ⟨HRA.out, rfl⟩), HUA⟩
                    case measure => simp [intOf]; omega
              · obtain rfl : z = n7 := by omega
                have hgeI : ¬ (z : Int) < z := by omega
                have HT7 : Hid (lc.take z = lc) := Lib.hid (by rw [← HL7.out, List.take_length])
                rw [HT7.out] at HR6
                have HUZ := Lib.hid (HU5.out.trans_ext HZ.out)
                go_wp2_with fail
                go_roundw
                case rel => exact ⟨q + 1, m, vb2, vd2, by omega, by go_num, rfl, Lib.hid (by rw [HNX.out]; exact HR6.out), HUZ⟩
                case measure => simp [intOf]; omega
          · obtain rfl : q = ll := by omega
            have hgeI : ¬ (q : Int) < q := by omega
            have HT : Hid (l.take q = l) := Lib.hid (by rw [← HLL.out, List.take_length])
            rw [HT.out] at HR
            go_wp2_with fail
            go_ret
            unfold FqPost
            rw [HE.out]
            exact ⟨_, rfl, ⟨HR.out.1.slp.mono (fun b hb _ => Nat.le_trans HU1.out.size hb), HU1.out.trans_ext HR.out.1.up⟩⟩
end Go.Proofs.YtbnebkkpmcjmbaaGreatDoor


namespace Go.Proofs.YtbnebkkpmcjmbaaGreatDoor
open Go.PL
def rnUses (op : Int) (f : List UInt8 → List UInt8) (nms : List (List UInt8)) : List (List UInt8) :=
  if op = 10 then nms.take 1 ++ (nms.drop 1).map f else if 2 ≤ op ∧ op < 10 then nms.map f else nms
mutual
/-- a binder has one name and one operand -/
def oneN : Nd → Prop
  | .mk op nms _ _ _ l => (bindsF op nms.length = true → nms.length = 1 ∧ l.length = 1) ∧ onesN l
def onesN : List Nd → Prop
  | [] => True
  | x :: xs => oneN x ∧ onesN xs
end
theorem rnUses_len (op : Int) (f : List UInt8 → List UInt8) (nms : List (List UInt8)) : (rnUses op f nms).length = nms.length := by
  unfold rnUses
  split
  · simp; omega
  · split <;> simp
theorem depths_mem : ∀ {l : List Nd} {x : Nd}, x ∈ l → depthF x ≤ depthsF l
  | y :: ys, x, hx => by
    unfold depthsF
    rcases List.mem_cons.1 hx with rfl | hx
    · omega
    · have := depths_mem hx; omega
end Go.Proofs.YtbnebkkpmcjmbaaGreatDoor


namespace Go.Proofs.YtbnebkkpmcjmbaaGreatDoor
open Go.PL
/-- what a name stands for: the last binding counts (it stands first) -/
def lookE (e : List (List UInt8 × List UInt8)) (y : List UInt8) : List UInt8 := match e.find? (fun p => p.1 == y) with | some p => p.2 | none => y
mutual
/-- e: the bindings so far; tk: the names that are taken -/
def apN : Nd → List (List UInt8 × List UInt8) → List (List UInt8) → Nd × List (List UInt8)
  | .mk op nms so nn mm l, e, tk =>
    if bindsF op nms.length = true then
      (.mk op [freshG (nms.headD []) tk] so nn mm (apL l ((nms.headD [], freshG (nms.headD []) tk) :: e) (tk ++ [freshG (nms.headD []) tk])).1, (apL l ((nms.headD [], freshG (nms.headD []) tk) :: e) (tk ++ [freshG (nms.headD []) tk])).2)
    else (.mk op (rnUses op (lookE e) nms) so nn mm (apL l e tk).1, (apL l e tk).2)
def apL : List Nd → List (List UInt8 × List UInt8) → List (List UInt8) → List Nd × List (List UInt8)
  | [], _, tk => ([], tk)
  | x :: xs, e, tk => ((apN x e tk).1 :: (apL xs e (apN x e tk).2).1, (apL xs e (apN x e tk).2).2)
end
/-- two lists of taken names that hold the same names -/
def SameTk (a b : List (List UInt8)) : Prop := ∀ y, y ∈ a ↔ y ∈ b
theorem SameTk.has {a b : List (List UInt8)} (h : SameTk a b) (y : List UInt8) : a.contains y = b.contains y := by
  rw [Bool.eq_iff_iff, List.contains_iff_mem, List.contains_iff_mem]
  exact h y
theorem from_same {a b : List (List UInt8)} (h : SameTk a b) (s : List UInt8) : ∀ (f i : Nat), freeFromG s a f i = freeFromG s b f i
  | 0, i => rfl
  | f + 1, i => by
    unfold freeFromG
    rw [h.has, from_same h s f (i + 1)]
theorem fresh_same {a b : List (List UInt8)} (h : SameTk a b) (s : List UInt8) : freshG s a = freshG s b := by
  unfold freshG
  rw [h.has, from_same h]
theorem SameTk.add {a b : List (List UInt8)} (h : SameTk a b) (s : List UInt8) : SameTk (a ++ [s]) (b ++ [s]) := fun y => by
  rw [List.mem_append, List.mem_append, h y]
mutual
theorem apN_same : ∀ (n : Nd) (e : List (List UInt8 × List UInt8)) (a b : List (List UInt8)), SameTk a b → (apN n e a).1 = (apN n e b).1 ∧ SameTk (apN n e a).2 (apN n e b).2
  | .mk op nms so nn mm l, e, a, b, h => by
    unfold apN
    by_cases hb : bindsF op nms.length = true
    · rw [if_pos hb, if_pos hb, fresh_same h]
      obtain ⟨h1, h2⟩ := apL_same l ((nms.headD [], freshG (nms.headD []) b) :: e) _ _ (h.add (freshG (nms.headD []) b))
      exact ⟨by rw [h1], h2⟩
    · rw [if_neg hb, if_neg hb]
      obtain ⟨h1, h2⟩ := apL_same l e a b h
      exact ⟨by rw [h1], h2⟩
theorem apL_same : ∀ (l : List Nd) (e : List (List UInt8 × List UInt8)) (a b : List (List UInt8)), SameTk a b → (apL l e a).1 = (apL l e b).1 ∧ SameTk (apL l e a).2 (apL l e b).2
  | [], e, a, b, h => by unfold apL; exact ⟨rfl, h⟩
  | x :: xs, e, a, b, h => by
    unfold apL
    obtain ⟨h1, h2⟩ := apN_same x e a b h
    obtain ⟨h3, h4⟩ := apL_same xs e _ _ h2
    exact ⟨by rw [h1, h3], h4⟩
end
end Go.Proofs.YtbnebkkpmcjmbaaGreatDoor


namespace Go.Proofs.YtbnebkkpmcjmbaaGreatDoor
open Go.RowKit Go.PL Go.Maps
/-- a list of names in a block of its own from lo on, below m -/
def NmT (w : World) (nms : List (List UInt8)) (vn : Value) (lo m : Nat) : Prop :=
  (nms = [] ∧ ∃ a c, vn = .slice a 0 c) ∨ ∃ g o c cs t, vn = .slice (some ⟨g, o, none⟩) nms.length c ∧ nms.length ≤ c ∧ lo ≤ g ∧ g < m ∧ w.heap[g]? = some (.cells cs t (0, 0)) ∧ ∀ j x, nms[j]? = some x → cs[o + j]? = some (sV x)
mutual
/-- v is the formula; its blocks lie from lo on, below hi: the names' ahead of all others, each operand's behind the elder one's -/
def OwT (w : World) : Nd → Value → Nat → Nat → Prop
  | .mk op nms so nn mm l, v, lo, hi => ∃ vn vl m, v = .agg #[.int .i64 op, vn, .int .i64 so, .int .i64 nn, .int .i64 mm, vl] ∧ lo ≤ m ∧ m ≤ hi ∧ NmT w nms vn lo m ∧
      ((l = [] ∧ ∃ a c, vl = .slice a 0 c) ∨ ∃ g o c cs t, vl = .slice (some ⟨g, o, none⟩) l.length c ∧ w.heap[g]? = some (.cells cs t (0, 0)) ∧ m ≤ g ∧ g < hi ∧ OwTs w l cs o g m hi)
def OwTs (w : World) : List Nd → Array Value → Nat → Nat → Nat → Nat → Prop
  | [], _, _, _, _, _ => True
  | x :: xs, cs, o, g, lo, hi => ∃ v0 v1 v2 v3 v4 v5 k m, cs[o]? = some v0 ∧ cs[o + 1]? = some v1 ∧ cs[o + 2]? = some v2 ∧ cs[o + 3]? = some v3 ∧ cs[o + 4]? = some v4 ∧ cs[o + 5]? = some v5 ∧ lo ≤ k ∧ k ≤ m ∧ m ≤ hi ∧ (g < k ∨ m ≤ g) ∧ OwT w x (.agg #[v0, v1, v2, v3, v4, v5]) k m ∧ OwTs w xs cs (o + 6) g m hi
end
/-- the blocks from lo on, below hi, are as they were -/
def SameIn (w w' : World) (lo hi : Nat) : Prop := ∀ b, lo ≤ b → b < hi → w'.heap[b]? = w.heap[b]?
theorem SameIn.mono {w w' : World} {lo hi lo' hi' : Nat} (h : SameIn w w' lo hi) (h1 : lo ≤ lo') (h2 : hi' ≤ hi) : SameIn w w' lo' hi' := fun b hb hb2 => h b (by omega) (by omega)
theorem SameIn.upto {S : List Nat} {w w' : World} {lo hi : Nat} (hu : Upto S w w') (hh : hi ≤ w.heap.size) (hs : ∀ b ∈ S, b < lo ∨ hi ≤ b) : SameIn w w' lo hi := fun b hb hb2 => hu.block b (by omega) (fun hm => by have := hs b hm; omega)
theorem NmT.same {w w' : World} {nms : List (List UInt8)} {vn : Value} {lo m : Nat} (h : NmT w nms vn lo m) (hs : SameIn w w' lo m) : NmT w' nms vn lo m := by
  rcases h with h | ⟨g, o, c, cs, t, e, h1, h2, h3, h4, h5⟩
  · exact Or.inl h
  · exact Or.inr ⟨g, o, c, cs, t, e, h1, h2, h3, (hs g h2 h3).trans h4, h5⟩
mutual
theorem OwT.same {w w' : World} : ∀ (n : Nd) (v : Value) (lo hi : Nat), OwT w n v lo hi → SameIn w w' lo hi → OwT w' n v lo hi
  | .mk op nms so nn mm l, v, lo, hi, h, hs => by
    unfold OwT at h ⊢
    obtain ⟨vn, vl, m, e, h1, h2, h3, h4⟩ := h
    refine ⟨vn, vl, m, e, h1, h2, h3.same (hs.mono (Nat.le_refl _) h2), ?_⟩
    rcases h4 with h4 | ⟨g, o, c, cs, t, e2, h5, h6, h7, h8⟩
    · exact Or.inl h4
    · exact Or.inr ⟨g, o, c, cs, t, e2, (hs g (by omega) h7).trans h5, h6, h7, OwTs.same l cs o g m hi h8 (hs.mono h1 (Nat.le_refl _))⟩
theorem OwTs.same {w w' : World} : ∀ (l : List Nd) (cs : Array Value) (o g lo hi : Nat), OwTs w l cs o g lo hi → SameIn w w' lo hi → OwTs w' l cs o g lo hi
  | [], _, _, _, _, _, _, _ => by unfold OwTs; trivial
  | x :: xs, cs, o, g, lo, hi, h, hs => by
    unfold OwTs at h ⊢
    obtain ⟨v0, v1, v2, v3, v4, v5, k, m, c0, c1, c2, c3, c4, c5, h1, h2, h3, h4, h5, h6⟩ := h
    exact ⟨v0, v1, v2, v3, v4, v5, k, m, c0, c1, c2, c3, c4, c5, h1, h2, h3, h4, OwT.same x _ k m h5 (hs.mono h1 h3), OwTs.same xs cs (o + 6) g m hi h6 (hs.mono (by omega) (Nat.le_refl _))⟩
end
mutual
/-- such a formula is one in memory -/
theorem OwT.ndv {w : World} : ∀ (n : Nd) (v : Value) (lo hi : Nat), OwT w n v lo hi → NdV w (fun b => lo ≤ b ∧ b < hi) n v
  | .mk op nms so nn mm l, v, lo, hi, h => by
    unfold OwT at h
    unfold NdV
    obtain ⟨vn, vl, m, e, h1, h2, h3, h4⟩ := h
    refine ⟨vn, vl, e, ?_, ?_⟩
    · rcases h3 with ⟨rfl, a, c, rfl⟩ | ⟨g, o, c, cs, t, rfl, k1, k2, k3, k4, k5⟩
      · exact Or.inl ⟨rfl, rfl, a, c, rfl⟩
      · refine Or.inr ⟨g, o, c, rfl, ⟨⟨k2, by omega⟩, ⟨_, _, _, k4⟩, k1⟩, fun j u hj => ?_⟩
        rw [cell_of k4]
        rw [List.getElem?_map] at hj
        cases hx : nms[j]? with
        | none => rw [hx] at hj; cases hj
        | some x =>
          rw [hx] at hj
          cases hj
          exact k5 j x hx
    · rcases h4 with h4 | ⟨g, o, c, cs, t, e2, h5, h6, h7, h8⟩
      · exact Or.inl h4
      · exact Or.inr ⟨g, o, c, e2, ⟨⟨by omega, h7⟩, _, _, _, h5⟩, OwTs.ndv l cs o g m hi lo h1 t h5 h8⟩
theorem OwTs.ndv {w : World} : ∀ (l : List Nd) (cs : Array Value) (o g lo hi lo0 : Nat), lo0 ≤ lo → ∀ t, w.heap[g]? = some (.cells cs t (0, 0)) → OwTs w l cs o g lo hi → NdsV w (fun b => lo0 ≤ b ∧ b < hi) g o l
  | [], _, _, _, _, _, _, _, _, _, _ => by unfold NdsV; trivial
  | x :: xs, cs, o, g, lo, hi, lo0, h0, t, hg, h => by
    unfold OwTs at h
    unfold NdsV
    obtain ⟨v0, v1, v2, v3, v4, v5, k, m, c0, c1, c2, c3, c4, c5, h1, h2, h3, h4, h5, h6⟩ := h
    exact ⟨⟨v0, v1, v2, v3, v4, v5, by rw [cell_of hg]; exact c0, by rw [cell_of hg]; exact c1, by rw [cell_of hg]; exact c2, by rw [cell_of hg]; exact c3, by rw [cell_of hg]; exact c4, by rw [cell_of hg]; exact c5, (OwT.ndv x _ k m h5).mono (fun b hb _ => ⟨by omega, by omega⟩)⟩, OwTs.ndv xs cs (o + 6) g m hi lo0 (by omega) t hg h6⟩
end
end Go.Proofs.YtbnebkkpmcjmbaaGreatDoor

