/- Texts merged, in build order: Fm17, Fm18, Fm19, Fm20, Fm21, Fm22, Fm23, Fm24, Fm28, Fm25. -/
import Derived.Test.YtkhbpebpljdifaaDoorMAsc
import Derived.Lib.Join
import Derived.Test.YtkhbpebpljdifaaDoorRows
import Derived.WalkKit
import Derived.WalkSpells
import Derived.WalkLawsBesides
import Derived.Maps.OwnSet
import Derived.Lib.Hide
import Derived.Laws.BytesArg
import Derived.Deep.QuietTactic
import Derived.BigQuiet
import Derived.Test.YtkhbpebpljdifaaDoorProg
import Derived.Shelf.Small.Strs
import Derived.Shelf.Strings.OnBuilder
import Derived.Shelf.LaysM
import Derived.Shelf.Strings.SplitShaped
import Derived.Deep.DeepCutAuto
import Derived.Deep.CutBlock
import Derived.Lib.Strings
import Derived.Lib.Walk
import Derived.Lib.ConvBytes
import Derived.Lib.ParseIntBMem
import Derived.Lib.AtoiErrMem
import Derived.Lib.BufferWrite
import Derived.Lib.UnsafeStr
import Derived.Lib.IfaceEq
import Derived.Laws.MakeOwn
import Derived.Laws.Strings3
import Derived.Laws.Closers25
import Derived.Laws.Closers25b
import Derived.RegionTactic
import Derived.Deep.RegionWith
import Derived.BigCall
import Derived.BigGuard
import Derived.Lib.AppendIntMem
import Derived.Carry
import Derived.OrdersHeld
import Derived.Deep.RegionHeld3
import Derived.Deep.RegionLaw
import Derived.Laws.EntriesVeiled
import Derived.RangeFuncNested
import Derived.RangeFuncBound
import Derived.RangeFuncCalls
import Derived.RangeFuncLeaves
import Derived.RangeFuncBox
import Derived.Shelf.Abstract
import Derived.OwnWalkIn
import Derived.TacticsInMore
import Derived.LoopNIn
import Derived.LoopIn
namespace Go.Proofs.YtkhbpebpljdifaaDoor
open Go.RowKit Go.PL Go.Maps

set_option maxRecDepth 100000 in
set_option maxHeartbeats 12800000 in
theorem operand_word (w : World) (p : Nat) (l : List Tok) (s s' : PS) (n : Nd) (k : FuncId) (hx : Cx w p l) (h : RdAt w p l s) (tk tv tl tc : Nat) (tx : List UInt8) (HT : Hid (tkAt l s = ⟨tk, tx, tv, tl, tc⟩)) (hk34 : tk = 3 ∨ tk = 4) (h0 : s.er = 0) (HL : Hid (∀ (w : World) (b : Nat), MapL Tryd.prog 9 w b pieceL → (Instr.lookup 172 (.map (some b)) (.string ⟨tx.toArray⟩) true).run Tryd.prog w = .ok (.tuple #[.agg #[.func (.func k) #[] #[]], .bool true]) w)) (hk : ∀ args w, (callFunc k args).run Tryd.prog w = .ok (.enter k args) w) (HC : Hid (∀ W4, Upto [p] w W4 → Cx W4 p l → RdAt W4 p l s → Calls Tryd.prog k #[.pointer (some ⟨p, 0, none⟩)] W4 (RdPost W4 p l s n s'))) :
    Calls Tryd.prog 103 #[.pointer (some ⟨p, 0, none⟩)] w (RdPost w p l s n s') := by
  have k0 : ((s.er : Int) == 0) = true := by simp [h0]
  clear h0
  rcases hk34 with h3 | h4
  · subst h3
    have HpB : Hid (p < w.heap.size) := Lib.hid h.lt
    have hu0 : Upto [] w (w.alloc (.cells #[.int .i64 0, .slice none 0 0, .int .i64 0, .int .i64 0, .int .i64 0, .slice none 0 0] 59)) := (Upto.refl [] w).alloc _
    have HR0 := Lib.hid (h.ext hu0)
    have HX0 := Lib.hid (hx.ext hu0)
    have HU0 : Hid (Upto [p] w (w.alloc (.cells #[.int .i64 0, .slice none 0 0, .int .i64 0, .int .i64 0, .int .i64 0, .slice none 0 0] 59))) := Lib.hid (hu0.mono (by simp))
    have HNew : Hid ((w.alloc (.cells #[.int .i64 0, .slice none 0 0, .int .i64 0, .int .i64 0, .int .i64 0, .slice none 0 0] 59)).heap[w.heap.size]? = some (.cells #[.int .i64 0, .slice none 0 0, .int .i64 0, .int .i64 0, .int .i64 0, .slice none 0 0] 59 (0, 0))) := Lib.hid (new_at _ _)
    have HN := Lib.hid (next_calls _ p l s HR0.out)
    clear h hu0
    go_enter Tryd.func103, Tryd.ntmps103
    go_wp2_with fail
    refine HN.out.mono ?_
    rintro e w1 ⟨rfl, hu1⟩
    rw [HT.out]
    unfold tkA
    have HU1 := Lib.hid (HU0.out.trans_ext hu1)
    have HU2 : Hid (Upto [p] w (w1.alloc (.cells #[.int .i64 3, .string ⟨tx.toArray⟩, .int .i64 tv, .int .i64 tl, .int .i64 tc] 36))) := Lib.hid ((HU0.out.trans_ext hu1).alloc _)
    have HZ2 : Hid ((w1.alloc (.cells #[.int .i64 3, .string ⟨tx.toArray⟩, .int .i64 tv, .int .i64 tl, .int .i64 tc] 36)).heap[w.heap.size]? = some (.cells #[.int .i64 0, .slice none 0 0, .int .i64 0, .int .i64 0, .int .i64 0, .slice none 0 0] 59 (0, 0))) := Lib.hid (alloc_old (hu1.at HNew.out (by simp)) _)
    have HTB : Hid ((w1.alloc (.cells #[.int .i64 3, .string ⟨tx.toArray⟩, .int .i64 tv, .int .i64 tl, .int .i64 tc] 36)).heap[w1.heap.size]? = some (.cells #[.int .i64 3, .string ⟨tx.toArray⟩, .int .i64 tv, .int .i64 tl, .int .i64 tc] 36 (0, 0))) := Lib.hid (new_at _ _)
    have HR2 : Hid (RdAt (w1.alloc (.cells #[.int .i64 3, .string ⟨tx.toArray⟩, .int .i64 tv, .int .i64 tl, .int .i64 tc] 36)) p l s) := Lib.hid ((HR0.out.ext hu1).ext ((Upto.refl [] w1).alloc _))
    have HX2 : Hid (Cx (w1.alloc (.cells #[.int .i64 3, .string ⟨tx.toArray⟩, .int .i64 tv, .int .i64 tl, .int .i64 tc] 36)) p l) := Lib.hid (HX0.out.upto ((hu1.mono (by simp)).alloc _))
    have HSZ : Hid (w.heap.size < (w1.alloc (.cells #[.int .i64 3, .string ⟨tx.toArray⟩, .int .i64 tv, .int .i64 tl, .int .i64 tc] 36)).heap.size) := Lib.hid (lt_of_heap HZ2.out)
    clear hu1 HN
    have k3 : ((3 : Int) == 3) = true := rfl
    have x0 := cell_of HTB.out 0
    simp only [List.getElem?_toArray, List.getElem?_cons_zero, List.getElem?_cons_succ] at x0
    have xa := cell_of ((Upto.refl [] (w1.alloc (.cells #[.int .i64 3, .string ⟨tx.toArray⟩, .int .i64 tv, .int .i64 tl, .int .i64 tc] 36))).drew.at HTB.out (by simp)) 1
    have xb := cell_of (((Upto.refl [] (w1.alloc (.cells #[.int .i64 3, .string ⟨tx.toArray⟩, .int .i64 tv, .int .i64 tl, .int .i64 tc] 36))).alloc (.cells #[.nilFunc] 170)).drew.at HTB.out (by simp)) 1
    simp only [List.getElem?_toArray, List.getElem?_cons_zero, List.getElem?_cons_succ] at xa xb
    go_wp2_with fail
    go_region_with (
      first
      | (refine (pieces_calls (w1.alloc (.cells #[.int .i64 3, .string ⟨tx.toArray⟩, .int .i64 tv, .int .i64 tl, .int .i64 tc] 36)).drew).mono ?_
         rintro e w3 ⟨b, rfl, hm3, hu3⟩
         have HU3 : Hid (Upto [] (w1.alloc (.cells #[.int .i64 3, .string ⟨tx.toArray⟩, .int .i64 tv, .int .i64 tl, .int .i64 tc] 36)) w3) := Lib.hid ((Upto.refl [] _).drew.trans_ext hu3)
         have l3 := HL.out w3 b hm3
         have l4 := HL.out (w3.alloc (.cells #[.nilFunc] 170)) b (hm3.upto ((Upto.refl [] w3).alloc _) (by simp))
         have xc := cell_of (HU3.out.at HTB.out (by simp)) 1
         have xd := cell_of (((Upto.refl [] w3).alloc (.cells #[.nilFunc] 170)).at (HU3.out.at HTB.out (by simp)) (by simp)) 1
         simp only [List.getElem?_toArray, List.getElem?_cons_zero, List.getElem?_cons_succ] at xc xd
         clear hm3 hu3)
      | (refine (pieces_calls ((w1.alloc (.cells #[.int .i64 3, .string ⟨tx.toArray⟩, .int .i64 tv, .int .i64 tl, .int .i64 tc] 36)).alloc (.cells #[.nilFunc] 170)).drew).mono ?_
         rintro e w3 ⟨b, rfl, hm3, hu3⟩
         have HU3 : Hid (Upto [] (w1.alloc (.cells #[.int .i64 3, .string ⟨tx.toArray⟩, .int .i64 tv, .int .i64 tl, .int .i64 tc] 36)) w3) := Lib.hid (((Upto.refl [] _).alloc _).drew.trans_ext hu3)
         have l3 := HL.out w3 b hm3
         have xc := cell_of (HU3.out.at HTB.out (by simp)) 1
         simp only [List.getElem?_toArray, List.getElem?_cons_zero, List.getElem?_cons_succ] at xc
         have hn2 := hu3.at ((Upto.refl [] ((w1.alloc (.cells #[.int .i64 3, .string ⟨tx.toArray⟩, .int .i64 tv, .int .i64 tl, .int .i64 tc] 36)).alloc (.cells #[.nilFunc] 170))).drew.at (new_at (w1.alloc (.cells #[.int .i64 3, .string ⟨tx.toArray⟩, .int .i64 tv, .int .i64 tl, .int .i64 tc] 36)) (.cells #[.nilFunc] 170)) (by simp)) (by simp)
         (try simp only [World.size_alloc] at hn2)
         have z0 := cell_of hn2 0
         have y0 := free_of hn2 0
         simp only [List.getElem?_toArray, List.getElem?_cons_zero, List.getElem?_cons_succ] at z0
         have HN2 := Lib.hid hn2
         clear hm3 hu3 hn2))
    all_goals (
      first
      | (obtain ⟨W4, Bp, hW4, hBp, hn4, hu4⟩ : ∃ W4 Bp, W4 = w3.alloc (.cells #[.func (.func k) #[] #[]] 170) ∧ Bp = w3.heap.size ∧ W4.heap[Bp]? = some (.cells #[.func (.func k) #[] #[]] 170 (0, 0)) ∧ Upto [] (w1.alloc (.cells #[.int .i64 3, .string ⟨tx.toArray⟩, .int .i64 tv, .int .i64 tl, .int .i64 tc] 36)) W4 :=
           ⟨_, _, rfl, rfl, new_at _ _, HU3.out.alloc _⟩
         rw [← hW4, ← hBp]
         clear hW4 hBp)
      | (obtain ⟨W4, Bp, hW4, hBp, hn4, hu4⟩ : ∃ W4 Bp, W4 = w3.setCell ⟨w1.heap.size + 1, 0, none⟩ (.func (.func k) #[] #[]) ∧ Bp = w1.heap.size + 1 ∧ W4.heap[Bp]? = some (.cells #[.func (.func k) #[] #[]] 170 (0, 0)) ∧ Upto [] (w1.alloc (.cells #[.int .i64 3, .string ⟨tx.toArray⟩, .int .i64 tv, .int .i64 tl, .int .i64 tc] 36)) W4 :=
           ⟨_, _, rfl, rfl, by have := set_same HN2.out 0 (.func (.func k) #[] #[]); simpa using this, HU3.out.setCell (Or.inr (by simp)) _⟩
         rw [← hW4, ← hBp]
         clear hW4 hBp)
      | (obtain ⟨W4, Bp, hW4, hBp, hn4, hu4⟩ : ∃ W4 Bp, W4 = w3 ∧ Bp = w1.heap.size + 1 ∧ W4.heap[Bp]? = some (.cells #[.func (.func k) #[] #[]] 170 (0, 0)) ∧ Upto [] (w1.alloc (.cells #[.int .i64 3, .string ⟨tx.toArray⟩, .int .i64 tv, .int .i64 tl, .int .i64 tc] 36)) W4 :=
           ⟨_, _, rfl, rfl, HN2.out, HU3.out⟩
         rw [← hW4, ← hBp]
         clear hW4 hBp)
      have HR4 := Lib.hid (HR2.out.ext hu4)
      have HX4 := Lib.hid (HX2.out.ext hu4)
      have HU4 := Lib.hid (HU2.out.trans_ext hu4)
      have hz4 := hu4.at HZ2.out (by simp)
      have HNW : Hid (W4.heap[w.heap.size]? = some (.cells #[.int .i64 0, .slice none 0 0, .int .i64 0, .int .i64 0, .int .i64 0, .slice none 0 0] 59 (0, 0))) := Lib.hid hz4
      have q0 := cell_of hn4 0
      simp only [List.getElem?_toArray, List.getElem?_cons_zero, List.getElem?_cons_succ] at q0
      obtain ⟨⟨vr, hb4, -, -⟩, -, -⟩ := id HR4.out
      have b2 := cell_of hb4 2
      unfold rdC at b2
      simp only [List.getElem?_toArray, List.getElem?_cons_zero, List.getElem?_cons_succ] at b2
      clear hn4 hu4 hz4 hb4
      go_wp2_with fail
      refine (HC.out W4 HU4.out HX4.out HR4.out).mono ?_
      rintro e w5 ⟨vv, rfl, hn, hR5, hu5, ha⟩
      obtain ⟨oa, na1, na2, na3, sa, ma, qa, la1, la2, la3, rfl⟩ := hn.six
      have hz := hu5.at HNW.out (by have := HpB.out; simp; omega)
      have z0 := cell_of hz 0
      have z1 := cell_of hz 1
      have z2 := cell_of hz 2
      have z3 := cell_of hz 3
      have z4 := cell_of hz 4
      have z5 := cell_of hz 5
      have y0 := free_of hz 0
      have y1 := free_of hz 1
      have y2 := free_of hz 2
      have y3 := free_of hz 3
      have y4 := free_of hz 4
      have y5 := free_of hz 5
      simp only [List.getElem?_toArray, List.getElem?_cons_zero, List.getElem?_cons_succ] at z0 z1 z2 z3 z4 z5
      have HZ := Lib.hid hz
      have HN5 := Lib.hid hn
      have HR5 := Lib.hid hR5
      have HU5 := Lib.hid (HU4.out.trans_same hu5)
      have HA := Lib.hid ha
      have HS4 := Lib.hid (And.intro (lt_of_heap HNW.out) HU4.out.size)
      clear hn hR5 hu5 ha hz
      go_wp2_with fail
      have hst := nd_store HZ.out (.int .i64 oa) (.slice na1 na2 na3) (.int .i64 sa) (.int .i64 ma) (.int .i64 qa) (.slice la1 la2 la3)
      have q0 := cell_of hst 0
      have q1 := cell_of hst 1
      have q2 := cell_of hst 2
      have q3 := cell_of hst 3
      have q4 := cell_of hst 4
      have q5 := cell_of hst 5
      simp only [List.getElem?_toArray, List.getElem?_cons_zero, List.getElem?_cons_succ] at q0 q1 q2 q3 q4 q5
      exact bodyPost_ret (v := .agg #[.int .i64 oa, .slice na1 na2 na3, .int .i64 sa, .int .i64 ma, .int .i64 qa, .slice la1 la2 la3]) (by simp [results, Tryd.results103, go_sem, q0, q1, q2, q3, q4, q5]) rfl (rdpost_at (Nat.le_refl _) HpB.out HU5.out HR5.out HZ.out HA.out HN5.out (fun b hb _ => by have h1 := HS4.out; unfold New at hb ⊢; omega)))
  · subst h4
    have HpB : Hid (p < w.heap.size) := Lib.hid h.lt
    have hu0 : Upto [] w (w.alloc (.cells #[.int .i64 0, .slice none 0 0, .int .i64 0, .int .i64 0, .int .i64 0, .slice none 0 0] 59)) := (Upto.refl [] w).alloc _
    have HR0 := Lib.hid (h.ext hu0)
    have HX0 := Lib.hid (hx.ext hu0)
    have HU0 : Hid (Upto [p] w (w.alloc (.cells #[.int .i64 0, .slice none 0 0, .int .i64 0, .int .i64 0, .int .i64 0, .slice none 0 0] 59))) := Lib.hid (hu0.mono (by simp))
    have HNew : Hid ((w.alloc (.cells #[.int .i64 0, .slice none 0 0, .int .i64 0, .int .i64 0, .int .i64 0, .slice none 0 0] 59)).heap[w.heap.size]? = some (.cells #[.int .i64 0, .slice none 0 0, .int .i64 0, .int .i64 0, .int .i64 0, .slice none 0 0] 59 (0, 0))) := Lib.hid (new_at _ _)
    have HN := Lib.hid (next_calls _ p l s HR0.out)
    clear h hu0
    go_enter Tryd.func103, Tryd.ntmps103
    go_wp2_with fail
    refine HN.out.mono ?_
    rintro e w1 ⟨rfl, hu1⟩
    rw [HT.out]
    unfold tkA
    have HU1 := Lib.hid (HU0.out.trans_ext hu1)
    have HU2 : Hid (Upto [p] w (w1.alloc (.cells #[.int .i64 4, .string ⟨tx.toArray⟩, .int .i64 tv, .int .i64 tl, .int .i64 tc] 36))) := Lib.hid ((HU0.out.trans_ext hu1).alloc _)
    have HZ2 : Hid ((w1.alloc (.cells #[.int .i64 4, .string ⟨tx.toArray⟩, .int .i64 tv, .int .i64 tl, .int .i64 tc] 36)).heap[w.heap.size]? = some (.cells #[.int .i64 0, .slice none 0 0, .int .i64 0, .int .i64 0, .int .i64 0, .slice none 0 0] 59 (0, 0))) := Lib.hid (alloc_old (hu1.at HNew.out (by simp)) _)
    have HTB : Hid ((w1.alloc (.cells #[.int .i64 4, .string ⟨tx.toArray⟩, .int .i64 tv, .int .i64 tl, .int .i64 tc] 36)).heap[w1.heap.size]? = some (.cells #[.int .i64 4, .string ⟨tx.toArray⟩, .int .i64 tv, .int .i64 tl, .int .i64 tc] 36 (0, 0))) := Lib.hid (new_at _ _)
    have HR2 : Hid (RdAt (w1.alloc (.cells #[.int .i64 4, .string ⟨tx.toArray⟩, .int .i64 tv, .int .i64 tl, .int .i64 tc] 36)) p l s) := Lib.hid ((HR0.out.ext hu1).ext ((Upto.refl [] w1).alloc _))
    have HX2 : Hid (Cx (w1.alloc (.cells #[.int .i64 4, .string ⟨tx.toArray⟩, .int .i64 tv, .int .i64 tl, .int .i64 tc] 36)) p l) := Lib.hid (HX0.out.upto ((hu1.mono (by simp)).alloc _))
    have HSZ : Hid (w.heap.size < (w1.alloc (.cells #[.int .i64 4, .string ⟨tx.toArray⟩, .int .i64 tv, .int .i64 tl, .int .i64 tc] 36)).heap.size) := Lib.hid (lt_of_heap HZ2.out)
    clear hu1 HN
    have k3 : ((4 : Int) == 3) = false := rfl
    have k4 : ((4 : Int) == 4) = true := rfl
    have x0 := cell_of HTB.out 0
    simp only [List.getElem?_toArray, List.getElem?_cons_zero, List.getElem?_cons_succ] at x0
    have xa := cell_of ((Upto.refl [] (w1.alloc (.cells #[.int .i64 4, .string ⟨tx.toArray⟩, .int .i64 tv, .int .i64 tl, .int .i64 tc] 36))).drew.at HTB.out (by simp)) 1
    have xb := cell_of (((Upto.refl [] (w1.alloc (.cells #[.int .i64 4, .string ⟨tx.toArray⟩, .int .i64 tv, .int .i64 tl, .int .i64 tc] 36))).alloc (.cells #[.nilFunc] 170)).drew.at HTB.out (by simp)) 1
    simp only [List.getElem?_toArray, List.getElem?_cons_zero, List.getElem?_cons_succ] at xa xb
    go_wp2_with fail
    go_region_with (
      first
      | (refine (pieces_calls (w1.alloc (.cells #[.int .i64 4, .string ⟨tx.toArray⟩, .int .i64 tv, .int .i64 tl, .int .i64 tc] 36)).drew).mono ?_
         rintro e w3 ⟨b, rfl, hm3, hu3⟩
         have HU3 : Hid (Upto [] (w1.alloc (.cells #[.int .i64 4, .string ⟨tx.toArray⟩, .int .i64 tv, .int .i64 tl, .int .i64 tc] 36)) w3) := Lib.hid ((Upto.refl [] _).drew.trans_ext hu3)
         have l3 := HL.out w3 b hm3
         have l4 := HL.out (w3.alloc (.cells #[.nilFunc] 170)) b (hm3.upto ((Upto.refl [] w3).alloc _) (by simp))
         have xc := cell_of (HU3.out.at HTB.out (by simp)) 1
         have xd := cell_of (((Upto.refl [] w3).alloc (.cells #[.nilFunc] 170)).at (HU3.out.at HTB.out (by simp)) (by simp)) 1
         simp only [List.getElem?_toArray, List.getElem?_cons_zero, List.getElem?_cons_succ] at xc xd
         clear hm3 hu3)
      | (refine (pieces_calls ((w1.alloc (.cells #[.int .i64 4, .string ⟨tx.toArray⟩, .int .i64 tv, .int .i64 tl, .int .i64 tc] 36)).alloc (.cells #[.nilFunc] 170)).drew).mono ?_
         rintro e w3 ⟨b, rfl, hm3, hu3⟩
         have HU3 : Hid (Upto [] (w1.alloc (.cells #[.int .i64 4, .string ⟨tx.toArray⟩, .int .i64 tv, .int .i64 tl, .int .i64 tc] 36)) w3) := Lib.hid (((Upto.refl [] _).alloc _).drew.trans_ext hu3)
         have l3 := HL.out w3 b hm3
         have xc := cell_of (HU3.out.at HTB.out (by simp)) 1
         simp only [List.getElem?_toArray, List.getElem?_cons_zero, List.getElem?_cons_succ] at xc
         have hn2 := hu3.at ((Upto.refl [] ((w1.alloc (.cells #[.int .i64 4, .string ⟨tx.toArray⟩, .int .i64 tv, .int .i64 tl, .int .i64 tc] 36)).alloc (.cells #[.nilFunc] 170))).drew.at (new_at (w1.alloc (.cells #[.int .i64 4, .string ⟨tx.toArray⟩, .int .i64 tv, .int .i64 tl, .int .i64 tc] 36)) (.cells #[.nilFunc] 170)) (by simp)) (by simp)
         (try simp only [World.size_alloc] at hn2)
         have z0 := cell_of hn2 0
         have y0 := free_of hn2 0
         simp only [List.getElem?_toArray, List.getElem?_cons_zero, List.getElem?_cons_succ] at z0
         have HN2 := Lib.hid hn2
         clear hm3 hu3 hn2))
    all_goals (
      first
      | (obtain ⟨W4, Bp, hW4, hBp, hn4, hu4⟩ : ∃ W4 Bp, W4 = w3.alloc (.cells #[.func (.func k) #[] #[]] 170) ∧ Bp = w3.heap.size ∧ W4.heap[Bp]? = some (.cells #[.func (.func k) #[] #[]] 170 (0, 0)) ∧ Upto [] (w1.alloc (.cells #[.int .i64 4, .string ⟨tx.toArray⟩, .int .i64 tv, .int .i64 tl, .int .i64 tc] 36)) W4 :=
           ⟨_, _, rfl, rfl, new_at _ _, HU3.out.alloc _⟩
         rw [← hW4, ← hBp]
         clear hW4 hBp)
      | (obtain ⟨W4, Bp, hW4, hBp, hn4, hu4⟩ : ∃ W4 Bp, W4 = w3.setCell ⟨w1.heap.size + 1, 0, none⟩ (.func (.func k) #[] #[]) ∧ Bp = w1.heap.size + 1 ∧ W4.heap[Bp]? = some (.cells #[.func (.func k) #[] #[]] 170 (0, 0)) ∧ Upto [] (w1.alloc (.cells #[.int .i64 4, .string ⟨tx.toArray⟩, .int .i64 tv, .int .i64 tl, .int .i64 tc] 36)) W4 :=
           ⟨_, _, rfl, rfl, by have := set_same HN2.out 0 (.func (.func k) #[] #[]); simpa using this, HU3.out.setCell (Or.inr (by simp)) _⟩
         rw [← hW4, ← hBp]
         clear hW4 hBp)
      | (obtain ⟨W4, Bp, hW4, hBp, hn4, hu4⟩ : ∃ W4 Bp, W4 = w3 ∧ Bp = w1.heap.size + 1 ∧ W4.heap[Bp]? = some (.cells #[.func (.func k) #[] #[]] 170 (0, 0)) ∧ Upto [] (w1.alloc (.cells #[.int .i64 4, .string ⟨tx.toArray⟩, .int .i64 tv, .int .i64 tl, .int .i64 tc] 36)) W4 :=
           ⟨_, _, rfl, rfl, HN2.out, HU3.out⟩
         rw [← hW4, ← hBp]
         clear hW4 hBp)
      have HR4 := Lib.hid (HR2.out.ext hu4)
      have HX4 := Lib.hid (HX2.out.ext hu4)
      have HU4 := Lib.hid (HU2.out.trans_ext hu4)
      have hz4 := hu4.at HZ2.out (by simp)
      have HNW : Hid (W4.heap[w.heap.size]? = some (.cells #[.int .i64 0, .slice none 0 0, .int .i64 0, .int .i64 0, .int .i64 0, .slice none 0 0] 59 (0, 0))) := Lib.hid hz4
      have q0 := cell_of hn4 0
      simp only [List.getElem?_toArray, List.getElem?_cons_zero, List.getElem?_cons_succ] at q0
      obtain ⟨⟨vr, hb4, -, -⟩, -, -⟩ := id HR4.out
      have b2 := cell_of hb4 2
      unfold rdC at b2
      simp only [List.getElem?_toArray, List.getElem?_cons_zero, List.getElem?_cons_succ] at b2
      clear hn4 hu4 hz4 hb4
      go_wp2_with fail
      refine (HC.out W4 HU4.out HX4.out HR4.out).mono ?_
      rintro e w5 ⟨vv, rfl, hn, hR5, hu5, ha⟩
      obtain ⟨oa, na1, na2, na3, sa, ma, qa, la1, la2, la3, rfl⟩ := hn.six
      have hz := hu5.at HNW.out (by have := HpB.out; simp; omega)
      have z0 := cell_of hz 0
      have z1 := cell_of hz 1
      have z2 := cell_of hz 2
      have z3 := cell_of hz 3
      have z4 := cell_of hz 4
      have z5 := cell_of hz 5
      have y0 := free_of hz 0
      have y1 := free_of hz 1
      have y2 := free_of hz 2
      have y3 := free_of hz 3
      have y4 := free_of hz 4
      have y5 := free_of hz 5
      simp only [List.getElem?_toArray, List.getElem?_cons_zero, List.getElem?_cons_succ] at z0 z1 z2 z3 z4 z5
      have HZ := Lib.hid hz
      have HN5 := Lib.hid hn
      have HR5 := Lib.hid hR5
      have HU5 := Lib.hid (HU4.out.trans_same hu5)
      have HA := Lib.hid ha
      have HS4 := Lib.hid (And.intro (lt_of_heap HNW.out) HU4.out.size)
      clear hn hR5 hu5 ha hz
      go_wp2_with fail
      have hst := nd_store HZ.out (.int .i64 oa) (.slice na1 na2 na3) (.int .i64 sa) (.int .i64 ma) (.int .i64 qa) (.slice la1 la2 la3)
      have q0 := cell_of hst 0
      have q1 := cell_of hst 1
      have q2 := cell_of hst 2
      have q3 := cell_of hst 3
      have q4 := cell_of hst 4
      have q5 := cell_of hst 5
      simp only [List.getElem?_toArray, List.getElem?_cons_zero, List.getElem?_cons_succ] at q0 q1 q2 q3 q4 q5
      exact bodyPost_ret (v := .agg #[.int .i64 oa, .slice na1 na2 na3, .int .i64 sa, .int .i64 ma, .int .i64 qa, .slice la1 la2 la3]) (by simp [results, Tryd.results103, go_sem, q0, q1, q2, q3, q4, q5]) rfl (rdpost_at (Nat.le_refl _) HpB.out HU5.out HR5.out HZ.out HA.out HN5.out (fun b hb _ => by have h1 := HS4.out; unfold New at hb ⊢; omega)))

set_option maxRecDepth 100000 in
set_option maxHeartbeats 12800000 in
theorem operand_none (w : World) (p : Nat) (l : List Tok) (s s' : PS) (n : Nd) (hx : Cx w p l) (h : RdAt w p l s) (tk tv tl tc : Nat) (tx : List UInt8) (HT : Hid (tkAt l s = ⟨tk, tx, tv, tl, tc⟩)) (hd : s.dp ≤ 256) (hk34 : tk = 3 ∨ tk = 4) (HL : Hid (∀ (w : World) (b : Nat), MapL Tryd.prog 9 w b pieceL → (Instr.lookup 172 (.map (some b)) (.string ⟨tx.toArray⟩) true).run Tryd.prog w = .ok (.tuple #[.agg #[.nilFunc], .bool false]) w)) (he : atomP l s = some (n, s')) :
    Calls Tryd.prog 103 #[.pointer (some ⟨p, 0, none⟩)] w (RdPost w p l s n s') := by
  rcases hk34 with h3 | h4
  · subst h3
    have HpB : Hid (p < w.heap.size) := Lib.hid h.lt
    have hu0 : Upto [] w (w.alloc (.cells #[.int .i64 0, .slice none 0 0, .int .i64 0, .int .i64 0, .int .i64 0, .slice none 0 0] 59)) := (Upto.refl [] w).alloc _
    have HR0 := Lib.hid (h.ext hu0)
    have HX0 := Lib.hid (hx.ext hu0)
    have HU0 : Hid (Upto [p] w (w.alloc (.cells #[.int .i64 0, .slice none 0 0, .int .i64 0, .int .i64 0, .int .i64 0, .slice none 0 0] 59))) := Lib.hid (hu0.mono (by simp))
    have HNew : Hid ((w.alloc (.cells #[.int .i64 0, .slice none 0 0, .int .i64 0, .int .i64 0, .int .i64 0, .slice none 0 0] 59)).heap[w.heap.size]? = some (.cells #[.int .i64 0, .slice none 0 0, .int .i64 0, .int .i64 0, .int .i64 0, .slice none 0 0] 59 (0, 0))) := Lib.hid (new_at _ _)
    have HN := Lib.hid (next_calls _ p l s HR0.out)
    clear h hu0
    go_enter Tryd.func103, Tryd.ntmps103
    go_wp2_with fail
    refine HN.out.mono ?_
    rintro e w1 ⟨rfl, hu1⟩
    rw [HT.out]
    unfold tkA
    have HU1 := Lib.hid (HU0.out.trans_ext hu1)
    have HU2 : Hid (Upto [p] w (w1.alloc (.cells #[.int .i64 3, .string ⟨tx.toArray⟩, .int .i64 tv, .int .i64 tl, .int .i64 tc] 36))) := Lib.hid ((HU0.out.trans_ext hu1).alloc _)
    have HZ2 : Hid ((w1.alloc (.cells #[.int .i64 3, .string ⟨tx.toArray⟩, .int .i64 tv, .int .i64 tl, .int .i64 tc] 36)).heap[w.heap.size]? = some (.cells #[.int .i64 0, .slice none 0 0, .int .i64 0, .int .i64 0, .int .i64 0, .slice none 0 0] 59 (0, 0))) := Lib.hid (alloc_old (hu1.at HNew.out (by simp)) _)
    have HTB : Hid ((w1.alloc (.cells #[.int .i64 3, .string ⟨tx.toArray⟩, .int .i64 tv, .int .i64 tl, .int .i64 tc] 36)).heap[w1.heap.size]? = some (.cells #[.int .i64 3, .string ⟨tx.toArray⟩, .int .i64 tv, .int .i64 tl, .int .i64 tc] 36 (0, 0))) := Lib.hid (new_at _ _)
    have HR2 : Hid (RdAt (w1.alloc (.cells #[.int .i64 3, .string ⟨tx.toArray⟩, .int .i64 tv, .int .i64 tl, .int .i64 tc] 36)) p l s) := Lib.hid ((HR0.out.ext hu1).ext ((Upto.refl [] w1).alloc _))
    have HX2 : Hid (Cx (w1.alloc (.cells #[.int .i64 3, .string ⟨tx.toArray⟩, .int .i64 tv, .int .i64 tl, .int .i64 tc] 36)) p l) := Lib.hid (HX0.out.upto ((hu1.mono (by simp)).alloc _))
    have HSZ : Hid (w.heap.size < (w1.alloc (.cells #[.int .i64 3, .string ⟨tx.toArray⟩, .int .i64 tv, .int .i64 tl, .int .i64 tc] 36)).heap.size) := Lib.hid (lt_of_heap HZ2.out)
    clear hu1 HN
    have k3 : ((3 : Int) == 3) = true := rfl
    have x0 := cell_of HTB.out 0
    simp only [List.getElem?_toArray, List.getElem?_cons_zero, List.getElem?_cons_succ] at x0
    have xa := cell_of ((Upto.refl [] (w1.alloc (.cells #[.int .i64 3, .string ⟨tx.toArray⟩, .int .i64 tv, .int .i64 tl, .int .i64 tc] 36))).drew.at HTB.out (by simp)) 1
    have xb := cell_of (((Upto.refl [] (w1.alloc (.cells #[.int .i64 3, .string ⟨tx.toArray⟩, .int .i64 tv, .int .i64 tl, .int .i64 tc] 36))).alloc (.cells #[.nilFunc] 170)).drew.at HTB.out (by simp)) 1
    simp only [List.getElem?_toArray, List.getElem?_cons_zero, List.getElem?_cons_succ] at xa xb
    go_wp2_with fail
    go_region_with (
      first
      | (refine (pieces_calls (w1.alloc (.cells #[.int .i64 3, .string ⟨tx.toArray⟩, .int .i64 tv, .int .i64 tl, .int .i64 tc] 36)).drew).mono ?_
         rintro e w3 ⟨b, rfl, hm3, hu3⟩
         have HU3 : Hid (Upto [] (w1.alloc (.cells #[.int .i64 3, .string ⟨tx.toArray⟩, .int .i64 tv, .int .i64 tl, .int .i64 tc] 36)) w3) := Lib.hid ((Upto.refl [] _).drew.trans_ext hu3)
         have l3 := HL.out w3 b hm3
         have l4 := HL.out (w3.alloc (.cells #[.nilFunc] 170)) b (hm3.upto ((Upto.refl [] w3).alloc _) (by simp))
         have xc := cell_of (HU3.out.at HTB.out (by simp)) 1
         have xd := cell_of (((Upto.refl [] w3).alloc (.cells #[.nilFunc] 170)).at (HU3.out.at HTB.out (by simp)) (by simp)) 1
         simp only [List.getElem?_toArray, List.getElem?_cons_zero, List.getElem?_cons_succ] at xc xd
         clear hm3 hu3)
      | (refine (pieces_calls ((w1.alloc (.cells #[.int .i64 3, .string ⟨tx.toArray⟩, .int .i64 tv, .int .i64 tl, .int .i64 tc] 36)).alloc (.cells #[.nilFunc] 170)).drew).mono ?_
         rintro e w3 ⟨b, rfl, hm3, hu3⟩
         have HU3 : Hid (Upto [] (w1.alloc (.cells #[.int .i64 3, .string ⟨tx.toArray⟩, .int .i64 tv, .int .i64 tl, .int .i64 tc] 36)) w3) := Lib.hid (((Upto.refl [] _).alloc _).drew.trans_ext hu3)
         have l3 := HL.out w3 b hm3
         have xc := cell_of (HU3.out.at HTB.out (by simp)) 1
         simp only [List.getElem?_toArray, List.getElem?_cons_zero, List.getElem?_cons_succ] at xc
         have hn2 := hu3.at ((Upto.refl [] ((w1.alloc (.cells #[.int .i64 3, .string ⟨tx.toArray⟩, .int .i64 tv, .int .i64 tl, .int .i64 tc] 36)).alloc (.cells #[.nilFunc] 170))).drew.at (new_at (w1.alloc (.cells #[.int .i64 3, .string ⟨tx.toArray⟩, .int .i64 tv, .int .i64 tl, .int .i64 tc] 36)) (.cells #[.nilFunc] 170)) (by simp)) (by simp)
         (try simp only [World.size_alloc] at hn2)
         have z0 := cell_of hn2 0
         have y0 := free_of hn2 0
         simp only [List.getElem?_toArray, List.getElem?_cons_zero, List.getElem?_cons_succ] at z0
         have HN2 := Lib.hid hn2
         clear hm3 hu3 hn2))
    all_goals (
      first
      | (obtain ⟨W4, Bp, hW4, hBp, hn4, hu4⟩ : ∃ W4 Bp, W4 = w3.alloc (.cells #[.nilFunc] 170) ∧ Bp = w3.heap.size ∧ W4.heap[Bp]? = some (.cells #[.nilFunc] 170 (0, 0)) ∧ Upto [] (w1.alloc (.cells #[.int .i64 3, .string ⟨tx.toArray⟩, .int .i64 tv, .int .i64 tl, .int .i64 tc] 36)) W4 :=
           ⟨_, _, rfl, rfl, new_at _ _, HU3.out.alloc _⟩
         rw [← hW4, ← hBp]
         clear hW4 hBp)
      | (obtain ⟨W4, Bp, hW4, hBp, hn4, hu4⟩ : ∃ W4 Bp, W4 = w3.setCell ⟨w1.heap.size + 1, 0, none⟩ (.nilFunc) ∧ Bp = w1.heap.size + 1 ∧ W4.heap[Bp]? = some (.cells #[.nilFunc] 170 (0, 0)) ∧ Upto [] (w1.alloc (.cells #[.int .i64 3, .string ⟨tx.toArray⟩, .int .i64 tv, .int .i64 tl, .int .i64 tc] 36)) W4 :=
           ⟨_, _, rfl, rfl, by have := set_same HN2.out 0 (.nilFunc); simpa using this, HU3.out.setCell (Or.inr (by simp)) _⟩
         rw [← hW4, ← hBp]
         clear hW4 hBp)
      | (obtain ⟨W4, Bp, hW4, hBp, hn4, hu4⟩ : ∃ W4 Bp, W4 = w3 ∧ Bp = w1.heap.size + 1 ∧ W4.heap[Bp]? = some (.cells #[.nilFunc] 170 (0, 0)) ∧ Upto [] (w1.alloc (.cells #[.int .i64 3, .string ⟨tx.toArray⟩, .int .i64 tv, .int .i64 tl, .int .i64 tc] 36)) W4 :=
           ⟨_, _, rfl, rfl, HN2.out, HU3.out⟩
         rw [← hW4, ← hBp]
         clear hW4 hBp)
      have HR4 := Lib.hid (HR2.out.ext hu4)
      have HX4 := Lib.hid (HX2.out.ext hu4)
      have HU4 := Lib.hid (HU2.out.trans_ext hu4)
      have hz4 := hu4.at HZ2.out (by simp)
      have HNW : Hid (W4.heap[w.heap.size]? = some (.cells #[.int .i64 0, .slice none 0 0, .int .i64 0, .int .i64 0, .int .i64 0, .slice none 0 0] 59 (0, 0))) := Lib.hid hz4
      have q0 := cell_of hn4 0
      simp only [List.getElem?_toArray, List.getElem?_cons_zero, List.getElem?_cons_succ] at q0
      obtain ⟨⟨vr, hb4, -, -⟩, -, -⟩ := id HR4.out
      have b2 := cell_of hb4 2
      unfold rdC at b2
      simp only [List.getElem?_toArray, List.getElem?_cons_zero, List.getElem?_cons_succ] at b2
      clear hn4 hu4 hz4 hb4
      go_wp2_with fail
      refine (atom_calls W4 p l s s' n HX4.out HR4.out hd he).mono ?_
      rintro e w5 ⟨vv, rfl, hn, hR5, hu5, ha⟩
      obtain ⟨oa, na1, na2, na3, sa, ma, qa, la1, la2, la3, rfl⟩ := hn.six
      have hz := hu5.at HNW.out (by have := HpB.out; simp; omega)
      have z0 := cell_of hz 0
      have z1 := cell_of hz 1
      have z2 := cell_of hz 2
      have z3 := cell_of hz 3
      have z4 := cell_of hz 4
      have z5 := cell_of hz 5
      have y0 := free_of hz 0
      have y1 := free_of hz 1
      have y2 := free_of hz 2
      have y3 := free_of hz 3
      have y4 := free_of hz 4
      have y5 := free_of hz 5
      simp only [List.getElem?_toArray, List.getElem?_cons_zero, List.getElem?_cons_succ] at z0 z1 z2 z3 z4 z5
      have HZ := Lib.hid hz
      have HN5 := Lib.hid hn
      have HR5 := Lib.hid hR5
      have HU5 := Lib.hid (HU4.out.trans_same hu5)
      have HA := Lib.hid ha
      have HS4 := Lib.hid (And.intro (lt_of_heap HNW.out) HU4.out.size)
      clear hn hR5 hu5 ha hz
      go_wp2_with fail
      have hst := nd_store HZ.out (.int .i64 oa) (.slice na1 na2 na3) (.int .i64 sa) (.int .i64 ma) (.int .i64 qa) (.slice la1 la2 la3)
      have q0 := cell_of hst 0
      have q1 := cell_of hst 1
      have q2 := cell_of hst 2
      have q3 := cell_of hst 3
      have q4 := cell_of hst 4
      have q5 := cell_of hst 5
      simp only [List.getElem?_toArray, List.getElem?_cons_zero, List.getElem?_cons_succ] at q0 q1 q2 q3 q4 q5
      exact bodyPost_ret (v := .agg #[.int .i64 oa, .slice na1 na2 na3, .int .i64 sa, .int .i64 ma, .int .i64 qa, .slice la1 la2 la3]) (by simp [results, Tryd.results103, go_sem, q0, q1, q2, q3, q4, q5]) rfl (rdpost_at (Nat.le_refl _) HpB.out HU5.out HR5.out HZ.out HA.out HN5.out (fun b hb _ => by have h1 := HS4.out; unfold New at hb ⊢; omega)))
  · subst h4
    have HpB : Hid (p < w.heap.size) := Lib.hid h.lt
    have hu0 : Upto [] w (w.alloc (.cells #[.int .i64 0, .slice none 0 0, .int .i64 0, .int .i64 0, .int .i64 0, .slice none 0 0] 59)) := (Upto.refl [] w).alloc _
    have HR0 := Lib.hid (h.ext hu0)
    have HX0 := Lib.hid (hx.ext hu0)
    have HU0 : Hid (Upto [p] w (w.alloc (.cells #[.int .i64 0, .slice none 0 0, .int .i64 0, .int .i64 0, .int .i64 0, .slice none 0 0] 59))) := Lib.hid (hu0.mono (by simp))
    have HNew : Hid ((w.alloc (.cells #[.int .i64 0, .slice none 0 0, .int .i64 0, .int .i64 0, .int .i64 0, .slice none 0 0] 59)).heap[w.heap.size]? = some (.cells #[.int .i64 0, .slice none 0 0, .int .i64 0, .int .i64 0, .int .i64 0, .slice none 0 0] 59 (0, 0))) := Lib.hid (new_at _ _)
    have HN := Lib.hid (next_calls _ p l s HR0.out)
    clear h hu0
    go_enter Tryd.func103, Tryd.ntmps103
    go_wp2_with fail
    refine HN.out.mono ?_
    rintro e w1 ⟨rfl, hu1⟩
    rw [HT.out]
    unfold tkA
    have HU1 := Lib.hid (HU0.out.trans_ext hu1)
    have HU2 : Hid (Upto [p] w (w1.alloc (.cells #[.int .i64 4, .string ⟨tx.toArray⟩, .int .i64 tv, .int .i64 tl, .int .i64 tc] 36))) := Lib.hid ((HU0.out.trans_ext hu1).alloc _)
    have HZ2 : Hid ((w1.alloc (.cells #[.int .i64 4, .string ⟨tx.toArray⟩, .int .i64 tv, .int .i64 tl, .int .i64 tc] 36)).heap[w.heap.size]? = some (.cells #[.int .i64 0, .slice none 0 0, .int .i64 0, .int .i64 0, .int .i64 0, .slice none 0 0] 59 (0, 0))) := Lib.hid (alloc_old (hu1.at HNew.out (by simp)) _)
    have HTB : Hid ((w1.alloc (.cells #[.int .i64 4, .string ⟨tx.toArray⟩, .int .i64 tv, .int .i64 tl, .int .i64 tc] 36)).heap[w1.heap.size]? = some (.cells #[.int .i64 4, .string ⟨tx.toArray⟩, .int .i64 tv, .int .i64 tl, .int .i64 tc] 36 (0, 0))) := Lib.hid (new_at _ _)
    have HR2 : Hid (RdAt (w1.alloc (.cells #[.int .i64 4, .string ⟨tx.toArray⟩, .int .i64 tv, .int .i64 tl, .int .i64 tc] 36)) p l s) := Lib.hid ((HR0.out.ext hu1).ext ((Upto.refl [] w1).alloc _))
    have HX2 : Hid (Cx (w1.alloc (.cells #[.int .i64 4, .string ⟨tx.toArray⟩, .int .i64 tv, .int .i64 tl, .int .i64 tc] 36)) p l) := Lib.hid (HX0.out.upto ((hu1.mono (by simp)).alloc _))
    have HSZ : Hid (w.heap.size < (w1.alloc (.cells #[.int .i64 4, .string ⟨tx.toArray⟩, .int .i64 tv, .int .i64 tl, .int .i64 tc] 36)).heap.size) := Lib.hid (lt_of_heap HZ2.out)
    clear hu1 HN
    have k3 : ((4 : Int) == 3) = false := rfl
    have k4 : ((4 : Int) == 4) = true := rfl
    have x0 := cell_of HTB.out 0
    simp only [List.getElem?_toArray, List.getElem?_cons_zero, List.getElem?_cons_succ] at x0
    have xa := cell_of ((Upto.refl [] (w1.alloc (.cells #[.int .i64 4, .string ⟨tx.toArray⟩, .int .i64 tv, .int .i64 tl, .int .i64 tc] 36))).drew.at HTB.out (by simp)) 1
    have xb := cell_of (((Upto.refl [] (w1.alloc (.cells #[.int .i64 4, .string ⟨tx.toArray⟩, .int .i64 tv, .int .i64 tl, .int .i64 tc] 36))).alloc (.cells #[.nilFunc] 170)).drew.at HTB.out (by simp)) 1
    simp only [List.getElem?_toArray, List.getElem?_cons_zero, List.getElem?_cons_succ] at xa xb
    go_wp2_with fail
    go_region_with (
      first
      | (refine (pieces_calls (w1.alloc (.cells #[.int .i64 4, .string ⟨tx.toArray⟩, .int .i64 tv, .int .i64 tl, .int .i64 tc] 36)).drew).mono ?_
         rintro e w3 ⟨b, rfl, hm3, hu3⟩
         have HU3 : Hid (Upto [] (w1.alloc (.cells #[.int .i64 4, .string ⟨tx.toArray⟩, .int .i64 tv, .int .i64 tl, .int .i64 tc] 36)) w3) := Lib.hid ((Upto.refl [] _).drew.trans_ext hu3)
         have l3 := HL.out w3 b hm3
         have l4 := HL.out (w3.alloc (.cells #[.nilFunc] 170)) b (hm3.upto ((Upto.refl [] w3).alloc _) (by simp))
         have xc := cell_of (HU3.out.at HTB.out (by simp)) 1
         have xd := cell_of (((Upto.refl [] w3).alloc (.cells #[.nilFunc] 170)).at (HU3.out.at HTB.out (by simp)) (by simp)) 1
         simp only [List.getElem?_toArray, List.getElem?_cons_zero, List.getElem?_cons_succ] at xc xd
         clear hm3 hu3)
      | (refine (pieces_calls ((w1.alloc (.cells #[.int .i64 4, .string ⟨tx.toArray⟩, .int .i64 tv, .int .i64 tl, .int .i64 tc] 36)).alloc (.cells #[.nilFunc] 170)).drew).mono ?_
         rintro e w3 ⟨b, rfl, hm3, hu3⟩
         have HU3 : Hid (Upto [] (w1.alloc (.cells #[.int .i64 4, .string ⟨tx.toArray⟩, .int .i64 tv, .int .i64 tl, .int .i64 tc] 36)) w3) := Lib.hid (((Upto.refl [] _).alloc _).drew.trans_ext hu3)
         have l3 := HL.out w3 b hm3
         have xc := cell_of (HU3.out.at HTB.out (by simp)) 1
         simp only [List.getElem?_toArray, List.getElem?_cons_zero, List.getElem?_cons_succ] at xc
         have hn2 := hu3.at ((Upto.refl [] ((w1.alloc (.cells #[.int .i64 4, .string ⟨tx.toArray⟩, .int .i64 tv, .int .i64 tl, .int .i64 tc] 36)).alloc (.cells #[.nilFunc] 170))).drew.at (new_at (w1.alloc (.cells #[.int .i64 4, .string ⟨tx.toArray⟩, .int .i64 tv, .int .i64 tl, .int .i64 tc] 36)) (.cells #[.nilFunc] 170)) (by simp)) (by simp)
         (try simp only [World.size_alloc] at hn2)
         have z0 := cell_of hn2 0
         have y0 := free_of hn2 0
         simp only [List.getElem?_toArray, List.getElem?_cons_zero, List.getElem?_cons_succ] at z0
         have HN2 := Lib.hid hn2
         clear hm3 hu3 hn2))
    all_goals (
      first
      | (obtain ⟨W4, Bp, hW4, hBp, hn4, hu4⟩ : ∃ W4 Bp, W4 = w3.alloc (.cells #[.nilFunc] 170) ∧ Bp = w3.heap.size ∧ W4.heap[Bp]? = some (.cells #[.nilFunc] 170 (0, 0)) ∧ Upto [] (w1.alloc (.cells #[.int .i64 4, .string ⟨tx.toArray⟩, .int .i64 tv, .int .i64 tl, .int .i64 tc] 36)) W4 :=
           ⟨_, _, rfl, rfl, new_at _ _, HU3.out.alloc _⟩
         rw [← hW4, ← hBp]
         clear hW4 hBp)
      | (obtain ⟨W4, Bp, hW4, hBp, hn4, hu4⟩ : ∃ W4 Bp, W4 = w3.setCell ⟨w1.heap.size + 1, 0, none⟩ (.nilFunc) ∧ Bp = w1.heap.size + 1 ∧ W4.heap[Bp]? = some (.cells #[.nilFunc] 170 (0, 0)) ∧ Upto [] (w1.alloc (.cells #[.int .i64 4, .string ⟨tx.toArray⟩, .int .i64 tv, .int .i64 tl, .int .i64 tc] 36)) W4 :=
           ⟨_, _, rfl, rfl, by have := set_same HN2.out 0 (.nilFunc); simpa using this, HU3.out.setCell (Or.inr (by simp)) _⟩
         rw [← hW4, ← hBp]
         clear hW4 hBp)
      | (obtain ⟨W4, Bp, hW4, hBp, hn4, hu4⟩ : ∃ W4 Bp, W4 = w3 ∧ Bp = w1.heap.size + 1 ∧ W4.heap[Bp]? = some (.cells #[.nilFunc] 170 (0, 0)) ∧ Upto [] (w1.alloc (.cells #[.int .i64 4, .string ⟨tx.toArray⟩, .int .i64 tv, .int .i64 tl, .int .i64 tc] 36)) W4 :=
           ⟨_, _, rfl, rfl, HN2.out, HU3.out⟩
         rw [← hW4, ← hBp]
         clear hW4 hBp)
      have HR4 := Lib.hid (HR2.out.ext hu4)
      have HX4 := Lib.hid (HX2.out.ext hu4)
      have HU4 := Lib.hid (HU2.out.trans_ext hu4)
      have hz4 := hu4.at HZ2.out (by simp)
      have HNW : Hid (W4.heap[w.heap.size]? = some (.cells #[.int .i64 0, .slice none 0 0, .int .i64 0, .int .i64 0, .int .i64 0, .slice none 0 0] 59 (0, 0))) := Lib.hid hz4
      have q0 := cell_of hn4 0
      simp only [List.getElem?_toArray, List.getElem?_cons_zero, List.getElem?_cons_succ] at q0
      obtain ⟨⟨vr, hb4, -, -⟩, -, -⟩ := id HR4.out
      have b2 := cell_of hb4 2
      unfold rdC at b2
      simp only [List.getElem?_toArray, List.getElem?_cons_zero, List.getElem?_cons_succ] at b2
      clear hn4 hu4 hz4 hb4
      go_wp2_with fail
      refine (atom_calls W4 p l s s' n HX4.out HR4.out hd he).mono ?_
      rintro e w5 ⟨vv, rfl, hn, hR5, hu5, ha⟩
      obtain ⟨oa, na1, na2, na3, sa, ma, qa, la1, la2, la3, rfl⟩ := hn.six
      have hz := hu5.at HNW.out (by have := HpB.out; simp; omega)
      have z0 := cell_of hz 0
      have z1 := cell_of hz 1
      have z2 := cell_of hz 2
      have z3 := cell_of hz 3
      have z4 := cell_of hz 4
      have z5 := cell_of hz 5
      have y0 := free_of hz 0
      have y1 := free_of hz 1
      have y2 := free_of hz 2
      have y3 := free_of hz 3
      have y4 := free_of hz 4
      have y5 := free_of hz 5
      simp only [List.getElem?_toArray, List.getElem?_cons_zero, List.getElem?_cons_succ] at z0 z1 z2 z3 z4 z5
      have HZ := Lib.hid hz
      have HN5 := Lib.hid hn
      have HR5 := Lib.hid hR5
      have HU5 := Lib.hid (HU4.out.trans_same hu5)
      have HA := Lib.hid ha
      have HS4 := Lib.hid (And.intro (lt_of_heap HNW.out) HU4.out.size)
      clear hn hR5 hu5 ha hz
      go_wp2_with fail
      have hst := nd_store HZ.out (.int .i64 oa) (.slice na1 na2 na3) (.int .i64 sa) (.int .i64 ma) (.int .i64 qa) (.slice la1 la2 la3)
      have q0 := cell_of hst 0
      have q1 := cell_of hst 1
      have q2 := cell_of hst 2
      have q3 := cell_of hst 3
      have q4 := cell_of hst 4
      have q5 := cell_of hst 5
      simp only [List.getElem?_toArray, List.getElem?_cons_zero, List.getElem?_cons_succ] at q0 q1 q2 q3 q4 q5
      exact bodyPost_ret (v := .agg #[.int .i64 oa, .slice na1 na2 na3, .int .i64 sa, .int .i64 ma, .int .i64 qa, .slice la1 la2 la3]) (by simp [results, Tryd.results103, go_sem, q0, q1, q2, q3, q4, q5]) rfl (rdpost_at (Nat.le_refl _) HpB.out HU5.out HR5.out HZ.out HA.out HN5.out (fun b hb _ => by have h1 := HS4.out; unfold New at hb ⊢; omega)))

set_option maxRecDepth 100000 in
set_option maxHeartbeats 12800000 in
theorem operand_err (w : World) (p : Nat) (l : List Tok) (s s' : PS) (n : Nd) (k : FuncId) (hx : Cx w p l) (h : RdAt w p l s) (tk tv tl tc : Nat) (tx : List UInt8) (HT : Hid (tkAt l s = ⟨tk, tx, tv, tl, tc⟩)) (hd : s.dp ≤ 256) (hk34 : tk = 3 ∨ tk = 4) (h0 : s.er ≠ 0) (HL : Hid (∀ (w : World) (b : Nat), MapL Tryd.prog 9 w b pieceL → (Instr.lookup 172 (.map (some b)) (.string ⟨tx.toArray⟩) true).run Tryd.prog w = .ok (.tuple #[.agg #[.func (.func k) #[] #[]], .bool true]) w)) (he : atomP l s = some (n, s')) :
    Calls Tryd.prog 103 #[.pointer (some ⟨p, 0, none⟩)] w (RdPost w p l s n s') := by
  have k0 : ((s.er : Int) == 0) = false := by rw [beq_eq_false_iff_ne]; omega
  clear h0
  rcases hk34 with h3 | h4
  · subst h3
    have HpB : Hid (p < w.heap.size) := Lib.hid h.lt
    have hu0 : Upto [] w (w.alloc (.cells #[.int .i64 0, .slice none 0 0, .int .i64 0, .int .i64 0, .int .i64 0, .slice none 0 0] 59)) := (Upto.refl [] w).alloc _
    have HR0 := Lib.hid (h.ext hu0)
    have HX0 := Lib.hid (hx.ext hu0)
    have HU0 : Hid (Upto [p] w (w.alloc (.cells #[.int .i64 0, .slice none 0 0, .int .i64 0, .int .i64 0, .int .i64 0, .slice none 0 0] 59))) := Lib.hid (hu0.mono (by simp))
    have HNew : Hid ((w.alloc (.cells #[.int .i64 0, .slice none 0 0, .int .i64 0, .int .i64 0, .int .i64 0, .slice none 0 0] 59)).heap[w.heap.size]? = some (.cells #[.int .i64 0, .slice none 0 0, .int .i64 0, .int .i64 0, .int .i64 0, .slice none 0 0] 59 (0, 0))) := Lib.hid (new_at _ _)
    have HN := Lib.hid (next_calls _ p l s HR0.out)
    clear h hu0
    go_enter Tryd.func103, Tryd.ntmps103
    go_wp2_with fail
    refine HN.out.mono ?_
    rintro e w1 ⟨rfl, hu1⟩
    rw [HT.out]
    unfold tkA
    have HU1 := Lib.hid (HU0.out.trans_ext hu1)
    have HU2 : Hid (Upto [p] w (w1.alloc (.cells #[.int .i64 3, .string ⟨tx.toArray⟩, .int .i64 tv, .int .i64 tl, .int .i64 tc] 36))) := Lib.hid ((HU0.out.trans_ext hu1).alloc _)
    have HZ2 : Hid ((w1.alloc (.cells #[.int .i64 3, .string ⟨tx.toArray⟩, .int .i64 tv, .int .i64 tl, .int .i64 tc] 36)).heap[w.heap.size]? = some (.cells #[.int .i64 0, .slice none 0 0, .int .i64 0, .int .i64 0, .int .i64 0, .slice none 0 0] 59 (0, 0))) := Lib.hid (alloc_old (hu1.at HNew.out (by simp)) _)
    have HTB : Hid ((w1.alloc (.cells #[.int .i64 3, .string ⟨tx.toArray⟩, .int .i64 tv, .int .i64 tl, .int .i64 tc] 36)).heap[w1.heap.size]? = some (.cells #[.int .i64 3, .string ⟨tx.toArray⟩, .int .i64 tv, .int .i64 tl, .int .i64 tc] 36 (0, 0))) := Lib.hid (new_at _ _)
    have HR2 : Hid (RdAt (w1.alloc (.cells #[.int .i64 3, .string ⟨tx.toArray⟩, .int .i64 tv, .int .i64 tl, .int .i64 tc] 36)) p l s) := Lib.hid ((HR0.out.ext hu1).ext ((Upto.refl [] w1).alloc _))
    have HX2 : Hid (Cx (w1.alloc (.cells #[.int .i64 3, .string ⟨tx.toArray⟩, .int .i64 tv, .int .i64 tl, .int .i64 tc] 36)) p l) := Lib.hid (HX0.out.upto ((hu1.mono (by simp)).alloc _))
    have HSZ : Hid (w.heap.size < (w1.alloc (.cells #[.int .i64 3, .string ⟨tx.toArray⟩, .int .i64 tv, .int .i64 tl, .int .i64 tc] 36)).heap.size) := Lib.hid (lt_of_heap HZ2.out)
    clear hu1 HN
    have k3 : ((3 : Int) == 3) = true := rfl
    have x0 := cell_of HTB.out 0
    simp only [List.getElem?_toArray, List.getElem?_cons_zero, List.getElem?_cons_succ] at x0
    have xa := cell_of ((Upto.refl [] (w1.alloc (.cells #[.int .i64 3, .string ⟨tx.toArray⟩, .int .i64 tv, .int .i64 tl, .int .i64 tc] 36))).drew.at HTB.out (by simp)) 1
    have xb := cell_of (((Upto.refl [] (w1.alloc (.cells #[.int .i64 3, .string ⟨tx.toArray⟩, .int .i64 tv, .int .i64 tl, .int .i64 tc] 36))).alloc (.cells #[.nilFunc] 170)).drew.at HTB.out (by simp)) 1
    simp only [List.getElem?_toArray, List.getElem?_cons_zero, List.getElem?_cons_succ] at xa xb
    go_wp2_with fail
    go_region_with (
      first
      | (refine (pieces_calls (w1.alloc (.cells #[.int .i64 3, .string ⟨tx.toArray⟩, .int .i64 tv, .int .i64 tl, .int .i64 tc] 36)).drew).mono ?_
         rintro e w3 ⟨b, rfl, hm3, hu3⟩
         have HU3 : Hid (Upto [] (w1.alloc (.cells #[.int .i64 3, .string ⟨tx.toArray⟩, .int .i64 tv, .int .i64 tl, .int .i64 tc] 36)) w3) := Lib.hid ((Upto.refl [] _).drew.trans_ext hu3)
         have l3 := HL.out w3 b hm3
         have l4 := HL.out (w3.alloc (.cells #[.nilFunc] 170)) b (hm3.upto ((Upto.refl [] w3).alloc _) (by simp))
         have xc := cell_of (HU3.out.at HTB.out (by simp)) 1
         have xd := cell_of (((Upto.refl [] w3).alloc (.cells #[.nilFunc] 170)).at (HU3.out.at HTB.out (by simp)) (by simp)) 1
         simp only [List.getElem?_toArray, List.getElem?_cons_zero, List.getElem?_cons_succ] at xc xd
         clear hm3 hu3)
      | (refine (pieces_calls ((w1.alloc (.cells #[.int .i64 3, .string ⟨tx.toArray⟩, .int .i64 tv, .int .i64 tl, .int .i64 tc] 36)).alloc (.cells #[.nilFunc] 170)).drew).mono ?_
         rintro e w3 ⟨b, rfl, hm3, hu3⟩
         have HU3 : Hid (Upto [] (w1.alloc (.cells #[.int .i64 3, .string ⟨tx.toArray⟩, .int .i64 tv, .int .i64 tl, .int .i64 tc] 36)) w3) := Lib.hid (((Upto.refl [] _).alloc _).drew.trans_ext hu3)
         have l3 := HL.out w3 b hm3
         have xc := cell_of (HU3.out.at HTB.out (by simp)) 1
         simp only [List.getElem?_toArray, List.getElem?_cons_zero, List.getElem?_cons_succ] at xc
         have hn2 := hu3.at ((Upto.refl [] ((w1.alloc (.cells #[.int .i64 3, .string ⟨tx.toArray⟩, .int .i64 tv, .int .i64 tl, .int .i64 tc] 36)).alloc (.cells #[.nilFunc] 170))).drew.at (new_at (w1.alloc (.cells #[.int .i64 3, .string ⟨tx.toArray⟩, .int .i64 tv, .int .i64 tl, .int .i64 tc] 36)) (.cells #[.nilFunc] 170)) (by simp)) (by simp)
         (try simp only [World.size_alloc] at hn2)
         have z0 := cell_of hn2 0
         have y0 := free_of hn2 0
         simp only [List.getElem?_toArray, List.getElem?_cons_zero, List.getElem?_cons_succ] at z0
         have HN2 := Lib.hid hn2
         clear hm3 hu3 hn2))
    all_goals (
      first
      | (obtain ⟨W4, Bp, hW4, hBp, hn4, hu4⟩ : ∃ W4 Bp, W4 = w3.alloc (.cells #[.func (.func k) #[] #[]] 170) ∧ Bp = w3.heap.size ∧ W4.heap[Bp]? = some (.cells #[.func (.func k) #[] #[]] 170 (0, 0)) ∧ Upto [] (w1.alloc (.cells #[.int .i64 3, .string ⟨tx.toArray⟩, .int .i64 tv, .int .i64 tl, .int .i64 tc] 36)) W4 :=
           ⟨_, _, rfl, rfl, new_at _ _, HU3.out.alloc _⟩
         rw [← hW4, ← hBp]
         clear hW4 hBp)
      | (obtain ⟨W4, Bp, hW4, hBp, hn4, hu4⟩ : ∃ W4 Bp, W4 = w3.setCell ⟨w1.heap.size + 1, 0, none⟩ (.func (.func k) #[] #[]) ∧ Bp = w1.heap.size + 1 ∧ W4.heap[Bp]? = some (.cells #[.func (.func k) #[] #[]] 170 (0, 0)) ∧ Upto [] (w1.alloc (.cells #[.int .i64 3, .string ⟨tx.toArray⟩, .int .i64 tv, .int .i64 tl, .int .i64 tc] 36)) W4 :=
           ⟨_, _, rfl, rfl, by have := set_same HN2.out 0 (.func (.func k) #[] #[]); simpa using this, HU3.out.setCell (Or.inr (by simp)) _⟩
         rw [← hW4, ← hBp]
         clear hW4 hBp)
      | (obtain ⟨W4, Bp, hW4, hBp, hn4, hu4⟩ : ∃ W4 Bp, W4 = w3 ∧ Bp = w1.heap.size + 1 ∧ W4.heap[Bp]? = some (.cells #[.func (.func k) #[] #[]] 170 (0, 0)) ∧ Upto [] (w1.alloc (.cells #[.int .i64 3, .string ⟨tx.toArray⟩, .int .i64 tv, .int .i64 tl, .int .i64 tc] 36)) W4 :=
           ⟨_, _, rfl, rfl, HN2.out, HU3.out⟩
         rw [← hW4, ← hBp]
         clear hW4 hBp)
      have HR4 := Lib.hid (HR2.out.ext hu4)
      have HX4 := Lib.hid (HX2.out.ext hu4)
      have HU4 := Lib.hid (HU2.out.trans_ext hu4)
      have hz4 := hu4.at HZ2.out (by simp)
      have HNW : Hid (W4.heap[w.heap.size]? = some (.cells #[.int .i64 0, .slice none 0 0, .int .i64 0, .int .i64 0, .int .i64 0, .slice none 0 0] 59 (0, 0))) := Lib.hid hz4
      have q0 := cell_of hn4 0
      simp only [List.getElem?_toArray, List.getElem?_cons_zero, List.getElem?_cons_succ] at q0
      obtain ⟨⟨vr, hb4, -, -⟩, -, -⟩ := id HR4.out
      have b2 := cell_of hb4 2
      unfold rdC at b2
      simp only [List.getElem?_toArray, List.getElem?_cons_zero, List.getElem?_cons_succ] at b2
      clear hn4 hu4 hz4 hb4
      go_wp2_with fail
      refine (atom_calls W4 p l s s' n HX4.out HR4.out hd he).mono ?_
      rintro e w5 ⟨vv, rfl, hn, hR5, hu5, ha⟩
      obtain ⟨oa, na1, na2, na3, sa, ma, qa, la1, la2, la3, rfl⟩ := hn.six
      have hz := hu5.at HNW.out (by have := HpB.out; simp; omega)
      have z0 := cell_of hz 0
      have z1 := cell_of hz 1
      have z2 := cell_of hz 2
      have z3 := cell_of hz 3
      have z4 := cell_of hz 4
      have z5 := cell_of hz 5
      have y0 := free_of hz 0
      have y1 := free_of hz 1
      have y2 := free_of hz 2
      have y3 := free_of hz 3
      have y4 := free_of hz 4
      have y5 := free_of hz 5
      simp only [List.getElem?_toArray, List.getElem?_cons_zero, List.getElem?_cons_succ] at z0 z1 z2 z3 z4 z5
      have HZ := Lib.hid hz
      have HN5 := Lib.hid hn
      have HR5 := Lib.hid hR5
      have HU5 := Lib.hid (HU4.out.trans_same hu5)
      have HA := Lib.hid ha
      have HS4 := Lib.hid (And.intro (lt_of_heap HNW.out) HU4.out.size)
      clear hn hR5 hu5 ha hz
      go_wp2_with fail
      have hst := nd_store HZ.out (.int .i64 oa) (.slice na1 na2 na3) (.int .i64 sa) (.int .i64 ma) (.int .i64 qa) (.slice la1 la2 la3)
      have q0 := cell_of hst 0
      have q1 := cell_of hst 1
      have q2 := cell_of hst 2
      have q3 := cell_of hst 3
      have q4 := cell_of hst 4
      have q5 := cell_of hst 5
      simp only [List.getElem?_toArray, List.getElem?_cons_zero, List.getElem?_cons_succ] at q0 q1 q2 q3 q4 q5
      exact bodyPost_ret (v := .agg #[.int .i64 oa, .slice na1 na2 na3, .int .i64 sa, .int .i64 ma, .int .i64 qa, .slice la1 la2 la3]) (by simp [results, Tryd.results103, go_sem, q0, q1, q2, q3, q4, q5]) rfl (rdpost_at (Nat.le_refl _) HpB.out HU5.out HR5.out HZ.out HA.out HN5.out (fun b hb _ => by have h1 := HS4.out; unfold New at hb ⊢; omega)))
  · subst h4
    have HpB : Hid (p < w.heap.size) := Lib.hid h.lt
    have hu0 : Upto [] w (w.alloc (.cells #[.int .i64 0, .slice none 0 0, .int .i64 0, .int .i64 0, .int .i64 0, .slice none 0 0] 59)) := (Upto.refl [] w).alloc _
    have HR0 := Lib.hid (h.ext hu0)
    have HX0 := Lib.hid (hx.ext hu0)
    have HU0 : Hid (Upto [p] w (w.alloc (.cells #[.int .i64 0, .slice none 0 0, .int .i64 0, .int .i64 0, .int .i64 0, .slice none 0 0] 59))) := Lib.hid (hu0.mono (by simp))
    have HNew : Hid ((w.alloc (.cells #[.int .i64 0, .slice none 0 0, .int .i64 0, .int .i64 0, .int .i64 0, .slice none 0 0] 59)).heap[w.heap.size]? = some (.cells #[.int .i64 0, .slice none 0 0, .int .i64 0, .int .i64 0, .int .i64 0, .slice none 0 0] 59 (0, 0))) := Lib.hid (new_at _ _)
    have HN := Lib.hid (next_calls _ p l s HR0.out)
    clear h hu0
    go_enter Tryd.func103, Tryd.ntmps103
    go_wp2_with fail
    refine HN.out.mono ?_
    rintro e w1 ⟨rfl, hu1⟩
    rw [HT.out]
    unfold tkA
    have HU1 := Lib.hid (HU0.out.trans_ext hu1)
    have HU2 : Hid (Upto [p] w (w1.alloc (.cells #[.int .i64 4, .string ⟨tx.toArray⟩, .int .i64 tv, .int .i64 tl, .int .i64 tc] 36))) := Lib.hid ((HU0.out.trans_ext hu1).alloc _)
    have HZ2 : Hid ((w1.alloc (.cells #[.int .i64 4, .string ⟨tx.toArray⟩, .int .i64 tv, .int .i64 tl, .int .i64 tc] 36)).heap[w.heap.size]? = some (.cells #[.int .i64 0, .slice none 0 0, .int .i64 0, .int .i64 0, .int .i64 0, .slice none 0 0] 59 (0, 0))) := Lib.hid (alloc_old (hu1.at HNew.out (by simp)) _)
    have HTB : Hid ((w1.alloc (.cells #[.int .i64 4, .string ⟨tx.toArray⟩, .int .i64 tv, .int .i64 tl, .int .i64 tc] 36)).heap[w1.heap.size]? = some (.cells #[.int .i64 4, .string ⟨tx.toArray⟩, .int .i64 tv, .int .i64 tl, .int .i64 tc] 36 (0, 0))) := Lib.hid (new_at _ _)
    have HR2 : Hid (RdAt (w1.alloc (.cells #[.int .i64 4, .string ⟨tx.toArray⟩, .int .i64 tv, .int .i64 tl, .int .i64 tc] 36)) p l s) := Lib.hid ((HR0.out.ext hu1).ext ((Upto.refl [] w1).alloc _))
    have HX2 : Hid (Cx (w1.alloc (.cells #[.int .i64 4, .string ⟨tx.toArray⟩, .int .i64 tv, .int .i64 tl, .int .i64 tc] 36)) p l) := Lib.hid (HX0.out.upto ((hu1.mono (by simp)).alloc _))
    have HSZ : Hid (w.heap.size < (w1.alloc (.cells #[.int .i64 4, .string ⟨tx.toArray⟩, .int .i64 tv, .int .i64 tl, .int .i64 tc] 36)).heap.size) := Lib.hid (lt_of_heap HZ2.out)
    clear hu1 HN
    have k3 : ((4 : Int) == 3) = false := rfl
    have k4 : ((4 : Int) == 4) = true := rfl
    have x0 := cell_of HTB.out 0
    simp only [List.getElem?_toArray, List.getElem?_cons_zero, List.getElem?_cons_succ] at x0
    have xa := cell_of ((Upto.refl [] (w1.alloc (.cells #[.int .i64 4, .string ⟨tx.toArray⟩, .int .i64 tv, .int .i64 tl, .int .i64 tc] 36))).drew.at HTB.out (by simp)) 1
    have xb := cell_of (((Upto.refl [] (w1.alloc (.cells #[.int .i64 4, .string ⟨tx.toArray⟩, .int .i64 tv, .int .i64 tl, .int .i64 tc] 36))).alloc (.cells #[.nilFunc] 170)).drew.at HTB.out (by simp)) 1
    simp only [List.getElem?_toArray, List.getElem?_cons_zero, List.getElem?_cons_succ] at xa xb
    go_wp2_with fail
    go_region_with (
      first
      | (refine (pieces_calls (w1.alloc (.cells #[.int .i64 4, .string ⟨tx.toArray⟩, .int .i64 tv, .int .i64 tl, .int .i64 tc] 36)).drew).mono ?_
         rintro e w3 ⟨b, rfl, hm3, hu3⟩
         have HU3 : Hid (Upto [] (w1.alloc (.cells #[.int .i64 4, .string ⟨tx.toArray⟩, .int .i64 tv, .int .i64 tl, .int .i64 tc] 36)) w3) := Lib.hid ((Upto.refl [] _).drew.trans_ext hu3)
         have l3 := HL.out w3 b hm3
         have l4 := HL.out (w3.alloc (.cells #[.nilFunc] 170)) b (hm3.upto ((Upto.refl [] w3).alloc _) (by simp))
         have xc := cell_of (HU3.out.at HTB.out (by simp)) 1
         have xd := cell_of (((Upto.refl [] w3).alloc (.cells #[.nilFunc] 170)).at (HU3.out.at HTB.out (by simp)) (by simp)) 1
         simp only [List.getElem?_toArray, List.getElem?_cons_zero, List.getElem?_cons_succ] at xc xd
         clear hm3 hu3)
      | (refine (pieces_calls ((w1.alloc (.cells #[.int .i64 4, .string ⟨tx.toArray⟩, .int .i64 tv, .int .i64 tl, .int .i64 tc] 36)).alloc (.cells #[.nilFunc] 170)).drew).mono ?_
         rintro e w3 ⟨b, rfl, hm3, hu3⟩
         have HU3 : Hid (Upto [] (w1.alloc (.cells #[.int .i64 4, .string ⟨tx.toArray⟩, .int .i64 tv, .int .i64 tl, .int .i64 tc] 36)) w3) := Lib.hid (((Upto.refl [] _).alloc _).drew.trans_ext hu3)
         have l3 := HL.out w3 b hm3
         have xc := cell_of (HU3.out.at HTB.out (by simp)) 1
         simp only [List.getElem?_toArray, List.getElem?_cons_zero, List.getElem?_cons_succ] at xc
         have hn2 := hu3.at ((Upto.refl [] ((w1.alloc (.cells #[.int .i64 4, .string ⟨tx.toArray⟩, .int .i64 tv, .int .i64 tl, .int .i64 tc] 36)).alloc (.cells #[.nilFunc] 170))).drew.at (new_at (w1.alloc (.cells #[.int .i64 4, .string ⟨tx.toArray⟩, .int .i64 tv, .int .i64 tl, .int .i64 tc] 36)) (.cells #[.nilFunc] 170)) (by simp)) (by simp)
         (try simp only [World.size_alloc] at hn2)
         have z0 := cell_of hn2 0
         have y0 := free_of hn2 0
         simp only [List.getElem?_toArray, List.getElem?_cons_zero, List.getElem?_cons_succ] at z0
         have HN2 := Lib.hid hn2
         clear hm3 hu3 hn2))
    all_goals (
      first
      | (obtain ⟨W4, Bp, hW4, hBp, hn4, hu4⟩ : ∃ W4 Bp, W4 = w3.alloc (.cells #[.func (.func k) #[] #[]] 170) ∧ Bp = w3.heap.size ∧ W4.heap[Bp]? = some (.cells #[.func (.func k) #[] #[]] 170 (0, 0)) ∧ Upto [] (w1.alloc (.cells #[.int .i64 4, .string ⟨tx.toArray⟩, .int .i64 tv, .int .i64 tl, .int .i64 tc] 36)) W4 :=
           ⟨_, _, rfl, rfl, new_at _ _, HU3.out.alloc _⟩
         rw [← hW4, ← hBp]
         clear hW4 hBp)
      | (obtain ⟨W4, Bp, hW4, hBp, hn4, hu4⟩ : ∃ W4 Bp, W4 = w3.setCell ⟨w1.heap.size + 1, 0, none⟩ (.func (.func k) #[] #[]) ∧ Bp = w1.heap.size + 1 ∧ W4.heap[Bp]? = some (.cells #[.func (.func k) #[] #[]] 170 (0, 0)) ∧ Upto [] (w1.alloc (.cells #[.int .i64 4, .string ⟨tx.toArray⟩, .int .i64 tv, .int .i64 tl, .int .i64 tc] 36)) W4 :=
           ⟨_, _, rfl, rfl, by have := set_same HN2.out 0 (.func (.func k) #[] #[]); simpa using this, HU3.out.setCell (Or.inr (by simp)) _⟩
         rw [← hW4, ← hBp]
         clear hW4 hBp)
      | (obtain ⟨W4, Bp, hW4, hBp, hn4, hu4⟩ : ∃ W4 Bp, W4 = w3 ∧ Bp = w1.heap.size + 1 ∧ W4.heap[Bp]? = some (.cells #[.func (.func k) #[] #[]] 170 (0, 0)) ∧ Upto [] (w1.alloc (.cells #[.int .i64 4, .string ⟨tx.toArray⟩, .int .i64 tv, .int .i64 tl, .int .i64 tc] 36)) W4 :=
           ⟨_, _, rfl, rfl, HN2.out, HU3.out⟩
         rw [← hW4, ← hBp]
         clear hW4 hBp)
      have HR4 := Lib.hid (HR2.out.ext hu4)
      have HX4 := Lib.hid (HX2.out.ext hu4)
      have HU4 := Lib.hid (HU2.out.trans_ext hu4)
      have hz4 := hu4.at HZ2.out (by simp)
      have HNW : Hid (W4.heap[w.heap.size]? = some (.cells #[.int .i64 0, .slice none 0 0, .int .i64 0, .int .i64 0, .int .i64 0, .slice none 0 0] 59 (0, 0))) := Lib.hid hz4
      have q0 := cell_of hn4 0
      simp only [List.getElem?_toArray, List.getElem?_cons_zero, List.getElem?_cons_succ] at q0
      obtain ⟨⟨vr, hb4, -, -⟩, -, -⟩ := id HR4.out
      have b2 := cell_of hb4 2
      unfold rdC at b2
      simp only [List.getElem?_toArray, List.getElem?_cons_zero, List.getElem?_cons_succ] at b2
      clear hn4 hu4 hz4 hb4
      go_wp2_with fail
      refine (atom_calls W4 p l s s' n HX4.out HR4.out hd he).mono ?_
      rintro e w5 ⟨vv, rfl, hn, hR5, hu5, ha⟩
      obtain ⟨oa, na1, na2, na3, sa, ma, qa, la1, la2, la3, rfl⟩ := hn.six
      have hz := hu5.at HNW.out (by have := HpB.out; simp; omega)
      have z0 := cell_of hz 0
      have z1 := cell_of hz 1
      have z2 := cell_of hz 2
      have z3 := cell_of hz 3
      have z4 := cell_of hz 4
      have z5 := cell_of hz 5
      have y0 := free_of hz 0
      have y1 := free_of hz 1
      have y2 := free_of hz 2
      have y3 := free_of hz 3
      have y4 := free_of hz 4
      have y5 := free_of hz 5
      simp only [List.getElem?_toArray, List.getElem?_cons_zero, List.getElem?_cons_succ] at z0 z1 z2 z3 z4 z5
      have HZ := Lib.hid hz
      have HN5 := Lib.hid hn
      have HR5 := Lib.hid hR5
      have HU5 := Lib.hid (HU4.out.trans_same hu5)
      have HA := Lib.hid ha
      have HS4 := Lib.hid (And.intro (lt_of_heap HNW.out) HU4.out.size)
      clear hn hR5 hu5 ha hz
      go_wp2_with fail
      have hst := nd_store HZ.out (.int .i64 oa) (.slice na1 na2 na3) (.int .i64 sa) (.int .i64 ma) (.int .i64 qa) (.slice la1 la2 la3)
      have q0 := cell_of hst 0
      have q1 := cell_of hst 1
      have q2 := cell_of hst 2
      have q3 := cell_of hst 3
      have q4 := cell_of hst 4
      have q5 := cell_of hst 5
      simp only [List.getElem?_toArray, List.getElem?_cons_zero, List.getElem?_cons_succ] at q0 q1 q2 q3 q4 q5
      exact bodyPost_ret (v := .agg #[.int .i64 oa, .slice na1 na2 na3, .int .i64 sa, .int .i64 ma, .int .i64 qa, .slice la1 la2 la3]) (by simp [results, Tryd.results103, go_sem, q0, q1, q2, q3, q4, q5]) rfl (rdpost_at (Nat.le_refl _) HpB.out HU5.out HR5.out HZ.out HA.out HN5.out (fun b hb _ => by have h1 := HS4.out; unfold New at hb ⊢; omega)))

set_option maxRecDepth 100000 in
set_option maxHeartbeats 12800000 in
theorem operand_other (w : World) (p : Nat) (l : List Tok) (s s' : PS) (n : Nd) (hx : Cx w p l) (h : RdAt w p l s) (tk tv tl tc : Nat) (tx : List UInt8) (HT : Hid (tkAt l s = ⟨tk, tx, tv, tl, tc⟩)) (hd : s.dp ≤ 256) (h3 : tk ≠ 3) (h4 : tk ≠ 4) (he : atomP l s = some (n, s')) :
    Calls Tryd.prog 103 #[.pointer (some ⟨p, 0, none⟩)] w (RdPost w p l s n s') := by
  have k3 : ((tk : Int) == 3) = false := by rw [beq_eq_false_iff_ne]; omega
  have k4 : ((tk : Int) == 4) = false := by rw [beq_eq_false_iff_ne]; omega
  clear h3 h4
  have HpB : Hid (p < w.heap.size) := Lib.hid h.lt
  have hu0 : Upto [] w (w.alloc (.cells #[.int .i64 0, .slice none 0 0, .int .i64 0, .int .i64 0, .int .i64 0, .slice none 0 0] 59)) := (Upto.refl [] w).alloc _
  have HR0 := Lib.hid (h.ext hu0)
  have HX0 := Lib.hid (hx.ext hu0)
  have HU0 : Hid (Upto [p] w (w.alloc (.cells #[.int .i64 0, .slice none 0 0, .int .i64 0, .int .i64 0, .int .i64 0, .slice none 0 0] 59))) := Lib.hid (hu0.mono (by simp))
  have HNew : Hid ((w.alloc (.cells #[.int .i64 0, .slice none 0 0, .int .i64 0, .int .i64 0, .int .i64 0, .slice none 0 0] 59)).heap[w.heap.size]? = some (.cells #[.int .i64 0, .slice none 0 0, .int .i64 0, .int .i64 0, .int .i64 0, .slice none 0 0] 59 (0, 0))) := Lib.hid (new_at _ _)
  have HN := Lib.hid (next_calls _ p l s HR0.out)
  clear h hu0
  go_enter Tryd.func103, Tryd.ntmps103
  go_wp2_with fail
  refine HN.out.mono ?_
  rintro e w1 ⟨rfl, hu1⟩
  rw [HT.out]
  unfold tkA
  have HU1 := Lib.hid (HU0.out.trans_ext hu1)
  have HU2 : Hid (Upto [p] w (w1.alloc (.cells #[.int .i64 tk, .string ⟨tx.toArray⟩, .int .i64 tv, .int .i64 tl, .int .i64 tc] 36))) := Lib.hid ((HU0.out.trans_ext hu1).alloc _)
  have HZ2 : Hid ((w1.alloc (.cells #[.int .i64 tk, .string ⟨tx.toArray⟩, .int .i64 tv, .int .i64 tl, .int .i64 tc] 36)).heap[w.heap.size]? = some (.cells #[.int .i64 0, .slice none 0 0, .int .i64 0, .int .i64 0, .int .i64 0, .slice none 0 0] 59 (0, 0))) := Lib.hid (alloc_old (hu1.at HNew.out (by simp)) _)
  have HTB : Hid ((w1.alloc (.cells #[.int .i64 tk, .string ⟨tx.toArray⟩, .int .i64 tv, .int .i64 tl, .int .i64 tc] 36)).heap[w1.heap.size]? = some (.cells #[.int .i64 tk, .string ⟨tx.toArray⟩, .int .i64 tv, .int .i64 tl, .int .i64 tc] 36 (0, 0))) := Lib.hid (new_at _ _)
  have HR2 : Hid (RdAt (w1.alloc (.cells #[.int .i64 tk, .string ⟨tx.toArray⟩, .int .i64 tv, .int .i64 tl, .int .i64 tc] 36)) p l s) := Lib.hid ((HR0.out.ext hu1).ext ((Upto.refl [] w1).alloc _))
  have HX2 : Hid (Cx (w1.alloc (.cells #[.int .i64 tk, .string ⟨tx.toArray⟩, .int .i64 tv, .int .i64 tl, .int .i64 tc] 36)) p l) := Lib.hid (HX0.out.upto ((hu1.mono (by simp)).alloc _))
  have HSZ : Hid (w.heap.size < (w1.alloc (.cells #[.int .i64 tk, .string ⟨tx.toArray⟩, .int .i64 tv, .int .i64 tl, .int .i64 tc] 36)).heap.size) := Lib.hid (lt_of_heap HZ2.out)
  clear hu1 HN
  have x0 := cell_of HTB.out 0
  simp only [List.getElem?_toArray, List.getElem?_cons_zero, List.getElem?_cons_succ] at x0
  have HU4 := HU2
  have HNW := HZ2
  go_wp2_with fail
  refine (atom_calls _ p l s s' n HX2.out HR2.out hd he).mono ?_
  rintro e w5 ⟨vv, rfl, hn, hR5, hu5, ha⟩
  obtain ⟨oa, na1, na2, na3, sa, ma, qa, la1, la2, la3, rfl⟩ := hn.six
  have hz := hu5.at HNW.out (by have := HpB.out; simp; omega)
  have z0 := cell_of hz 0
  have z1 := cell_of hz 1
  have z2 := cell_of hz 2
  have z3 := cell_of hz 3
  have z4 := cell_of hz 4
  have z5 := cell_of hz 5
  have y0 := free_of hz 0
  have y1 := free_of hz 1
  have y2 := free_of hz 2
  have y3 := free_of hz 3
  have y4 := free_of hz 4
  have y5 := free_of hz 5
  simp only [List.getElem?_toArray, List.getElem?_cons_zero, List.getElem?_cons_succ] at z0 z1 z2 z3 z4 z5
  have HZ := Lib.hid hz
  have HN5 := Lib.hid hn
  have HR5 := Lib.hid hR5
  have HU5 := Lib.hid (HU4.out.trans_same hu5)
  have HA := Lib.hid ha
  have HS4 := Lib.hid (And.intro (lt_of_heap HNW.out) HU4.out.size)
  clear hn hR5 hu5 ha hz
  go_wp2_with fail
  have hst := nd_store HZ.out (.int .i64 oa) (.slice na1 na2 na3) (.int .i64 sa) (.int .i64 ma) (.int .i64 qa) (.slice la1 la2 la3)
  have q0 := cell_of hst 0
  have q1 := cell_of hst 1
  have q2 := cell_of hst 2
  have q3 := cell_of hst 3
  have q4 := cell_of hst 4
  have q5 := cell_of hst 5
  simp only [List.getElem?_toArray, List.getElem?_cons_zero, List.getElem?_cons_succ] at q0 q1 q2 q3 q4 q5
  exact bodyPost_ret (v := .agg #[.int .i64 oa, .slice na1 na2 na3, .int .i64 sa, .int .i64 ma, .int .i64 qa, .slice la1 la2 la3]) (by simp [results, Tryd.results103, go_sem, q0, q1, q2, q3, q4, q5]) rfl (rdpost_at (Nat.le_refl _) HpB.out HU5.out HR5.out HZ.out HA.out HN5.out (fun b hb _ => by have h1 := HS4.out; unfold New at hb ⊢; omega))
end Go.Proofs.YtkhbpebpljdifaaDoor


namespace Go.Proofs.YtkhbpebpljdifaaDoor
open Go.RowKit Go.PL Go.Maps Go.Shelf

attribute [local go_sem] Oper.semAt_some

/-- these blocks read as they did -/
def KeepsL (L : List Nat) (W W' : World) : Prop := ∀ k ∈ L, W'.heap[k]? = W.heap[k]?
theorem KeepsL.trans {L : List Nat} {A B C : World} (h : KeepsL L A B) (k : KeepsL L B C) : KeepsL L A C := fun i hi => (k i hi).trans (h i hi)
/-- a number of an element, and what is handed on for it -/
abbrev Ix (r : Nat) : Type := { i : Nat // i < r }
def encsB (r : Nat) (c : Nat → Nat → Value) (x : Ix r) : Array Value := #[.int .i64 x.1, .agg #[c x.1 0, c x.1 1, c x.1 2, c x.1 3, c x.1 4, c x.1 5]]
/-- the numbers from the last down -/
def Down {r : Nat} (xs : List (Ix r)) : Prop := xs.length ≤ r ∧ ∀ (j : Nat) x, xs[j]? = some x → x.1 + j + 1 = r

set_option maxRecDepth 100000 in
set_option maxHeartbeats 1000000 in
theorem backn_in (n : Nat) (a : Option Addr) (len cap : Nat) (w : World) :
    CallsIn Fence.wide n Tryd.prog 93 #[.slice a len cap] w fun e w' => e = .returned (.func (.func 104) #[] #[.pointer (some ⟨w.heap.size, 0, none⟩)]) ∧ w' = w.alloc (.cells #[.slice a len cap] 57) := by
  refine callsIn_of_wp Tryd.func93 rfl trivial ?_ rfl
  simp only [Tryd.ntmps93, List.size_toArray, List.length_cons, List.length_nil, Nat.reduceAdd, Nat.reduceSub, Array.replicate_succ, Array.replicate_zero, List.push_toArray, List.append_toArray, List.nil_append, List.cons_append]
  gi_wp2
  go_ret
  exact ⟨rfl, rfl⟩

set_option maxRecDepth 100000 in
set_option maxHeartbeats 4000000 in
theorem back_in (n : Nat) (hn : 1 ≤ n) (l Bs g o r cap : Nat) (hr : r ≤ 100000000) (c : Nat → Nat → Value) (J Jx : List (Ix r) → World → Prop)
    (hY : ∀ pre x W, J pre W → pre.length < r → YieldAt Fence.wide (n - 1) Tryd.prog l (encsB r c x) W fun e W' =>
      (e = .returned (.bool true) ∧ J (pre ++ [x]) W' ∧ KeepsL [Bs, g] W W') ∨ (e = .returned (.bool false) ∧ Jx (pre ++ [x]) W'))
    (W : World) (hBs : W.heap[Bs]? = some (.cells #[.slice (some ⟨g, o, none⟩) r cap] 57 (0, 0))) (hc : ∀ i j, i < r → j < 6 → W.cell? ⟨g, o + i * 6 + j, none⟩ = some (c i j)) (h0 : J [] W) :
    CallsIn Fence.wide n Tryd.prog 104 #[.func (.yield l) #[] #[], .pointer (some ⟨Bs, 0, none⟩)] W fun e W' => (∃ v, e = .returned v) ∧
      ((∃ ys, (Down ys ∧ ys.length = r) ∧ J ys W') ∨ (∃ pre, Down pre ∧ Jx pre W')) := by
  have c0 := cell_of hBs 0
  simp only [List.getElem?_toArray, List.getElem?_cons_zero] at c0
  have HBS := Lib.hid hBs
  have HCC := Lib.hid hc
  have hr0 : (0 : Int) ≤ r := by omega
  have hr1 : (r : Int) ≤ 100000000 := by omega
  clear hBs hc
  refine callsIn_of_wp Tryd.func104 rfl trivial ?_ rfl
  simp only [Tryd.ntmps104, List.size_toArray, List.length_cons, List.length_nil, Nat.reduceAdd, Nat.reduceSub, Array.replicate_succ, Array.replicate_zero, List.push_toArray, List.append_toArray, List.nil_append, List.cons_append]
  gi_wp2
  gi_loopw [3] (fun i wr => ∃ (m : Nat) (pre : List (Ix r)), i = .int .i64 ((m : Int) - 1) ∧ pre.length + m = r ∧ Hid (Down pre ∧ J pre wr ∧ KeepsL [Bs, g] W wr)) (fun i _ => (intOf i + 1).toNat)
  case atStart => exact ⟨r, [], rfl, by simp, Lib.hid ⟨⟨by simp, fun j x h => by simp at h⟩, h0, fun _ _ => rfl⟩⟩
  case round =>
    obtain ⟨m, pre, rfl, hm, HI⟩ := hrel
    clear c0
    cases m with
    | zero =>
      gi_wp2
      go_end0
      exact ⟨⟨_, rfl⟩, .inl ⟨pre, ⟨HI.out.1, by simpa using hm⟩, HI.out.2.1⟩⟩
    | succ q =>
      have hi : ((q + 1 : Nat) : Int) - 1 = q := by omega
      rw [hi]
      have hq : q < r := by omega
      have hqI : (q : Int) < r := by omega
      have hq0 : (0 : Int) ≤ q := by omega
      have hb := (HI.out.2.2 Bs (by simp)).trans HBS.out
      have hg := HI.out.2.2 g (by simp)
      have c0 := cell_of hb 0
      simp only [List.getElem?_toArray, List.getElem?_cons_zero] at c0
      have up : ∀ j, j < 6 → wr.cell? ⟨g, o + q * 6 + j, none⟩ = some (c q j) := fun j hj => (World.cell?_of_block (w := W) hg).trans (HCC.out q j hq hj)
      have e0 := up 0 (by decide)
      have e1 := up 1 (by decide)
      have e2 := up 2 (by decide)
      have e3 := up 3 (by decide)
      have e4 := up 4 (by decide)
      have e5 := up 5 (by decide)
      rw [Nat.add_zero] at e0
      obtain ⟨fn, tmps, assign, body, hy, hR⟩ := hY pre ⟨q, hq⟩ wr HI.out.2.1 (by omega)
      unfold encsB at hy
      simp only at hy
      have HD : Hid (Down (pre ++ [(⟨q, hq⟩ : Ix r)])) := Lib.hid ⟨by simp; omega, fun j x hx => by
        by_cases hj : j < pre.length
        · rw [List.getElem?_append_left hj] at hx
          exact HI.out.1.2 j x hx
        · rw [List.getElem?_append_right (by omega)] at hx
          cases hd : j - pre.length with
          | zero => rw [hd] at hx; simp at hx; subst hx; simp; omega
          | succ z => rw [hd] at hx; simp at hx⟩
      clear up hg hb
      generalize c q 0 = v0 at *
      generalize c q 1 = v1 at *
      generalize c q 2 = v2 at *
      generalize c q 3 = v3 at *
      generalize c q 4 = v4 at *
      generalize c q 5 = v5 at *
      gi_wp2
      refine hR.mono ?_
      rintro e W3 (⟨rfl, hJ3, hB3⟩ | ⟨rfl, hJx3⟩)
      · gi_wp2
        go_roundw
        case rel => exact ⟨q, pre ++ [⟨q, hq⟩], rfl, by simp; omega, Lib.hid ⟨HD.out, hJ3, HI.out.2.2.trans hB3⟩⟩
        case measure => simp [intOf]
      · gi_wp2
        refine bodyPost_ret (results_none rfl _ _ _) rfl ?_
        exact ⟨⟨_, rfl⟩, .inr ⟨pre ++ [⟨q, hq⟩], HD.out, hJx3⟩⟩

theorem back_stops (n : Nat) (hn : 1 ≤ n) (Bs g o r cap : Nat) (hr : r ≤ 100000000) (c : Nat → Nat → Value) (w : World) (hg : g < w.heap.size) (hBs : w.heap[Bs]? = some (.cells #[.slice (some ⟨g, o, none⟩) r cap] 57 (0, 0))) (hc : ∀ i j, i < r → j < 6 → w.cell? ⟨g, o + i * 6 + j, none⟩ = some (c i j)) :
    SeqStopsK Fence.wide n Tryd.prog 104 #[.pointer (some ⟨Bs, 0, none⟩)] (encsB r c) (KeepsL [Bs, g]) (fun ys => Down ys ∧ ys.length = r) (fun pre => Down pre) r w := fun l J Jx W hW _ _ hY h0 =>
  back_in n hn l Bs g o r cap hr c J Jx hY W ((hW.block Bs (lt_of_heap hBs)).trans hBs) (fun i j hi hj => (hW.cell (p := ⟨g, o + i * 6 + j, none⟩) hg).trans (hc i j hi hj)) h0
end Go.Proofs.YtkhbpebpljdifaaDoor


namespace Go.Proofs.YtkhbpebpljdifaaDoor
open Go.RowKit Go.PL Go.Maps Go.Shelf

/-- the cells of n formulas -/
def cellsN (c : Nat → Nat → Value) (n : Nat) : List Value := (List.range n).flatMap fun i => [c i 0, c i 1, c i 2, c i 3, c i 4, c i 5]
theorem cellsN_at (c : Nat → Nat → Value) {n i j : Nat} (hi : i < n) (hj : j < 6) : (cellsN c n)[i * 6 + j]? = some (c i j) := by
  unfold cellsN
  rw [flatMap_at (fun i => [c i 0, c i 1, c i 2, c i 3, c i 4, c i 5]) 6 (fun _ => rfl) (List.range n) i j i (by rw [List.getElem?_range hi]) hj]
  have : j = 0 ∨ j = 1 ∨ j = 2 ∨ j = 3 ∨ j = 4 ∨ j = 5 := by omega
  rcases this with rfl | rfl | rfl | rfl | rfl | rfl <;> rfl
def addC (c : Nat → Nat → Value) (n : Nat) (v0 v1 v2 v3 v4 v5 : Value) : Nat → Nat → Value := fun i j => if i = n then (match j with | 0 => v0 | 1 => v1 | 2 => v2 | 3 => v3 | 4 => v4 | _ => v5) else c i j
theorem fm_congr {α β : Type} (f g : α → List β) : ∀ (L : List α), (∀ i ∈ L, f i = g i) → L.flatMap f = L.flatMap g
  | [], _ => rfl
  | x :: xs, h => by rw [List.flatMap_cons, List.flatMap_cons, h x (by simp), fm_congr f g xs fun i hi => h i (by simp [hi])]
theorem cellsN_add (c : Nat → Nat → Value) (n : Nat) (v0 v1 v2 v3 v4 v5 : Value) : cellsN (addC c n v0 v1 v2 v3 v4 v5) (n + 1) = cellsN c n ++ [v0, v1, v2, v3, v4, v5] := by
  unfold cellsN
  rw [List.range_succ, List.flatMap_append]
  congr 1
  · refine fm_congr _ _ _ fun i hi => ?_
    have := List.mem_range.1 hi
    simp [addC, Nat.ne_of_lt this]
  · simp [addC]
/-- blocks new since w0, but for the result's and the row's own -/
def Lr (w0 : World) (B : Nat) (v : Value) (b : Nat) : Prop := New w0 b ∧ b ≠ B ∧ v.ownBlock ≠ some b
/-- a slice of one's own that holds these formulas -/
structure NdRow (w0 w : World) (B : Nat) (c : Nat → Nat → Value) (v : Value) (ms : List Nd) : Prop where
  row : w.ownsRow 0 59 6 v ms.length (cellsN c ms.length)
  nd : ∀ i m, ms[i]? = some m → NdV w (Lr w0 B v) m (.agg #[c i 0, c i 1, c i 2, c i 3, c i 4, c i 5])
  own : ∀ g, v.ownBlock = some g → w0.heap.size ≤ g ∧ g ≠ B
theorem NdRow.upto {w0 w w' : World} {S : List Nat} {B : Nat} {c : Nat → Nat → Value} {v : Value} {ms : List Nd} (h : NdRow w0 w B c v ms) (hu : Upto S w w') (hS : ∀ k ∈ S, k < w0.heap.size ∨ k = B) : NdRow w0 w' B c v ms :=
  ⟨ownsRow_upto h.row hu (fun g hg hm => by have h1 := h.own g hg; rcases hS g hm with h2 | h2 <;> omega),
   fun i m hi => (h.nd i m hi).upto hu (fun b hb _ hm => by have h1 := hb.1; unfold New at h1; rcases hS b hm with h2 | h2; omega; exact hb.2.1 h2), h.own⟩
theorem six_at {w : World} {g : Nat} {v0 v1 v2 v3 v4 v5 : Value} {t : TypeId} {z : Nat × Nat} (h : w.heap[g]? = some (.cells #[v0, v1, v2, v3, v4, v5] t z)) : ∀ (j : Nat) u, [v0, v1, v2, v3, v4, v5][j]? = some u → w.cell? ((⟨g, 0, none⟩ : Addr).add j) = some u := by
  intro j u hj
  rw [Addr.add_lit, Nat.zero_add, cell_of h]
  simpa using hj
theorem row_six {w : World} {g : Nat} {v0 v1 v2 v3 v4 v5 : Value} (h : w.heap[g]? = some (.cells #[v0, v1, v2, v3, v4, v5] 59 (0, 0))) : w.ownsRow 0 59 6 (.slice (some ⟨g, 0, none⟩) 1 1) 1 [v0, v1, v2, v3, v4, v5] :=
  ⟨rfl, Or.inr ⟨g, 1, _, rfl, Nat.zero_le _, h, Nat.le_refl _, by unfold maxLen; omega, rfl, rfl⟩⟩
theorem NdRow.one {w0 w : World} {B g : Nat} {m : Nd} {v0 v1 v2 v3 v4 v5 : Value} (h : w.heap[g]? = some (.cells #[v0, v1, v2, v3, v4, v5] 59 (0, 0))) (hm : NdV w (fun b => New w0 b ∧ b ≠ B ∧ b ≠ g) m (.agg #[v0, v1, v2, v3, v4, v5])) (hg : w0.heap.size ≤ g ∧ g ≠ B) :
    NdRow w0 w B (addC (fun _ _ => undef) 0 v0 v1 v2 v3 v4 v5) (.slice (some ⟨g, 0, none⟩) 1 1) [m] := by
  refine ⟨?_, ?_, ?_⟩
  · have := cellsN_add (fun _ _ => undef) 0 v0 v1 v2 v3 v4 v5
    rw [List.length_singleton, this]
    exact row_six h
  · intro i x hi
    match i, hi with
    | 0, hi =>
      simp at hi
      subst hi
      exact hm.mono fun b hb _ => ⟨hb.1, hb.2.1, by simp [Value.ownBlock]; exact fun e => hb.2.2 e.symm⟩
  · intro g' hg'
    simp [Value.ownBlock] at hg'
    subst hg'
    exact hg
theorem NdRow.app {w0 w w5 : World} {B : Nat} {c : Nat → Nat → Value} {v : Value} {ms : List Nd} {m : Nd} {v0 v1 v2 v3 v4 v5 : Value} {b' : Option Addr} {c' : Nat} (h : NdRow w0 w B c v ms) (hsz : w0.heap.size ≤ w.heap.size) (hBw : B < w.heap.size)
    (hm : NdV w (Lr w0 B v) m (.agg #[v0, v1, v2, v3, v4, v5])) (ho : w5.ownsRow 0 59 6 (.slice b' (ms.length + 1) c') (ms.length + 1) (cellsN c ms.length ++ [v0, v1, v2, v3, v4, v5])) (hu : Upto v.ownBlock.toList w w5)
    (hw : ∀ g, (Value.slice b' (ms.length + 1) c').ownBlock = some g → v.ownBlock = some g ∨ w.heap.size ≤ g) : NdRow w0 w5 B (addC c ms.length v0 v1 v2 v3 v4 v5) (.slice b' (ms.length + 1) c') (ms ++ [m]) := by
  have key : ∀ x u, NdV w (Lr w0 B v) x u → NdV w5 (Lr w0 B (.slice b' (ms.length + 1) c')) x u := fun x u hx =>
    NdV.keep ⟨hu.size, fun b hb hl => ⟨⟨hb.1, hb.2.1, fun e => by
      rcases hw b e with h1 | h1
      · exact hb.2.2 h1
      · have := hl.lt; omega⟩, hu.block b hl.lt (fun hmm => hb.2.2 (Option.mem_toList.1 hmm))⟩⟩ x u hx
  refine ⟨?_, ?_, ?_⟩
  · rw [List.length_append, List.length_singleton, cellsN_add]
    exact ho
  · intro i x hi
    by_cases hlt : i < ms.length
    · rw [List.getElem?_append_left hlt] at hi
      have := key _ _ (h.nd i x hi)
      simpa [addC, Nat.ne_of_lt hlt] using this
    · rw [List.getElem?_append_right (by omega)] at hi
      cases hd : i - ms.length with
      | zero =>
        rw [hd] at hi
        simp at hi
        subst hi
        have : i = ms.length := by omega
        subst this
        simpa [addC] using key _ _ hm
      | succ z => rw [hd] at hi; simp at hi
  · intro g hg
    rcases hw g hg with h1 | h1
    · exact h.own g h1
    · exact ⟨by omega, by omega⟩
theorem NdRow.cells {w0 w : World} {B : Nat} {c : Nat → Nat → Value} {v : Value} {ms : List Nd} (h : NdRow w0 w B c v ms) (hne : ms ≠ []) : ∃ g cap, v = .slice (some ⟨g, 0, none⟩) ms.length cap ∧ ms.length ≤ cap ∧ g < w.heap.size ∧ ∀ i j, i < ms.length → j < 6 → w.cell? ⟨g, 0 + i * 6 + j, none⟩ = some (c i j) := by
  rcases h.row.2 with ⟨-, h0⟩ | ⟨g, cap, cur, rfl, _, hh, h1, _, _, ht⟩
  · exact absurd (List.eq_nil_of_length_eq_zero h0) hne
  · refine ⟨g, cap, rfl, h1, lt_of_heap hh, fun i j hi hj => ?_⟩
    rw [cell_of hh]
    have := cellsN_at c hi hj
    rw [← ht, List.getElem?_take] at this
    split at this
    · simpa using this
    · cases this

theorem info59 : (Tryd.prog.info? 59).map (fun i => (i.zero, i.size, i.bytes)) = some (some (.agg #[.int .i64 0, .slice none 0 0, .int .i64 0, .int .i64 0, .int .i64 0, .slice none 0 0]), 6, 80) := by kernel_rfl
theorem info59' : ∃ i, Tryd.prog.info? 59 = some i ∧ i.zero = some (.agg #[.int .i64 0, .slice none 0 0, .int .i64 0, .int .i64 0, .int .i64 0, .slice none 0 0]) ∧ i.size = 6 ∧ i.bytes = 80 := by
  have h := info59
  cases hi : Tryd.prog.info? 59 with
  | none => rw [hi] at h; cases h
  | some i =>
    rw [hi] at h
    simp only [Option.map_some, Option.some.injEq, Prod.mk.injEq] at h
    exact ⟨i, rfl, h.1, h.2.1, h.2.2⟩
/-- what stands between two rounds -/
def ImpI (w : World) (p : Nat) (l : List Tok) (of : Rd) (s s' : PS) (a : List Nd) (v : Value) (wr : World) : Prop :=
  ∃ k ms t c, implLoop l (orsP l of) k ms t = some (a, s') ∧ RdAt wr p l t ∧ Upto [p] w wr ∧ Adv l s t ∧ wr.heap[w.heap.size]? = some (.cells #[.int .i64 0, .slice none 0 0, .int .i64 0, .int .i64 0, .int .i64 0, .slice none 0 0] 59 (0, 0)) ∧ NdRow w wr w.heap.size c v ms ∧ ms ≠ [] ∧ ms.length ≤ t.nx + 1
end Go.Proofs.YtkhbpebpljdifaaDoor


namespace Go.Proofs.YtkhbpebpljdifaaDoor
open Go.RowKit Go.PL Go.Maps Go.Shelf

attribute [local go_sem] Oper.semAt_some

/-- what stands between two rounds of the range -/
structure ImB (w : World) (p B Bn Bs : Nat) (l : List Tok) (t : PS) (ms : List Nd) (c : Nat → Nat → Value) (sl : Value) (ok : Prop) (k : Nat) (W : World) : Prop where
  rd : RdAt W p l t
  up : Upto [p] w W
  z : W.heap[B]? = some (.cells #[.int .i64 0, .slice none 0 0, .int .i64 0, .int .i64 0, .int .i64 0, .slice none 0 0] 59 (0, 0))
  bs : W.heap[Bs]? = some (.cells #[sl] 57 (0, 0))
  nd : ∀ i m, ms[i]? = some m → NdV W (Lo w B Bn) m (.agg #[c i 0, c i 1, c i 2, c i 3, c i 4, c i 5])
  acc : ∃ (oa : Int) (na1 : Option Addr) (na2 na3 : Nat) (sa ma qa : Int) (la1 : Option Addr) (la2 la3 : Nat), W.heap[Bn]? = some (.cells #[.int .i64 oa, .slice na1 na2 na3, .int .i64 sa, .int .i64 ma, .int .i64 qa, .slice la1 la2 la3] 59 (0, 0)) ∧ (ok → NdV W (Lo w B Bn) (implFold (ms.drop k)) (.agg #[.int .i64 oa, .slice na1 na2 na3, .int .i64 sa, .int .i64 ma, .int .i64 qa, .slice la1 la2 la3]))
theorem keep_grown {W W' : World} {row : Option Nat} (hg : W.grownBy W' row) (hr : ∀ r, row = some r → ∃ o : Obj, W.heap[r]? = some o ∧ o.isCells = false) (P : Nat → Prop) : Keep W W' P P :=
  ⟨hg.size, fun b hb hl => ⟨hb, hg.block b hl.lt (fun e => by
    obtain ⟨cs, t, z, h⟩ := hl
    obtain ⟨o, ho, hc⟩ := hr b (by first | exact e | exact e.symm)
    rw [h] at ho
    cases ho
    cases hc)⟩⟩
theorem ImB.grown {w : World} {p B Bn Bs : Nat} {l : List Tok} {t : PS} {ms : List Nd} {c : Nat → Nat → Value} {sl : Value} {ok : Prop} {k b0 : Nat} {W W' : World} {row : Option Nat} (h : ImB w p B Bn Bs l t ms c sl ok k W) (hb : p < b0 ∧ w.heap.size ≤ b0) (hg : W.grownBy W' row)
    (hr : ∀ r, row = some r → b0 ≤ r ∧ ∃ o : Obj, W.heap[r]? = some o ∧ o.isCells = false) : ImB w p B Bn Bs l t ms c sl ok k W' := by
  have hr2 := fun r e => (hr r e).2
  have hu : Upto row.toList W W' := (Upto.refl _ W).grown hg (fun k e => Or.inl (by rw [e]; simp))
  have kc := fun (b : Nat) (cs : Array Value) (T : TypeId) (z : Nat × Nat) (h : W.heap[b]? = some (.cells cs T z)) => (grownBy_keeps_cells hg hr2 h rfl).trans h
  refine ⟨h.rd.above hu (fun k hk => ?_), h.up.grown hg (fun k e => Or.inr ?_), kc _ _ _ _ h.z, kc _ _ _ _ h.bs, fun i m hi => NdV.keep (keep_grown hg hr2 _) _ _ (h.nd i m hi), ?_⟩
  · have := (hr k (Option.mem_toList.1 hk)).1; omega
  · have := (hr k e).1; omega
  · obtain ⟨oa, na1, na2, na3, sa, ma, qa, la1, la2, la3, h1, h2⟩ := h.acc
    exact ⟨oa, na1, na2, na3, sa, ma, qa, la1, la2, la3, kc _ _ _ _ h1, fun hk => NdV.keep (keep_grown hg hr2 _) _ _ (h2 hk)⟩
theorem ImB.ext {w : World} {p B Bn Bs : Nat} {l : List Tok} {t : PS} {ms : List Nd} {c : Nat → Nat → Value} {sl : Value} {ok : Prop} {k : Nat} {W W' : World} (h : ImB w p B Bn Bs l t ms c sl ok k W) (hu : Upto [] W W') : ImB w p B Bn Bs l t ms c sl ok k W' := by
  obtain ⟨oa, na1, na2, na3, sa, ma, qa, la1, la2, la3, h1, h2⟩ := h.acc
  exact ⟨h.rd.ext hu, h.up.trans_ext hu, hu.at h.z (by simp), hu.at h.bs (by simp), fun i m hi => (h.nd i m hi).ext hu, oa, na1, na2, na3, sa, ma, qa, la1, la2, la3, hu.at h1 (by simp), fun hk => (h2 hk).ext hu⟩
theorem ImB.at {w : World} {p B Bn Bs : Nat} {l : List Tok} {t : PS} {ms : List Nd} {c : Nat → Nat → Value} {sl : Value} {ok : Prop} {k k' : Nat} {W : World} (h : ImB w p B Bn Bs l t ms c sl ok k W) (hk : ok → k = k') : ImB w p B Bn Bs l t ms c sl ok k' W := by
  obtain ⟨oa, na1, na2, na3, sa, ma, qa, la1, la2, la3, h1, h2⟩ := h.acc
  exact ⟨h.rd, h.up, h.z, h.bs, h.nd, oa, na1, na2, na3, sa, ma, qa, la1, la2, la3, h1, fun ho => by rw [← hk ho]; exact h2 ho⟩
theorem implFold_step (ms : List Nd) (q : Nat) (m : Nd) (h : ms[q]? = some m) (hl : q + 1 < ms.length) : implFold (ms.drop q) = .mk 14 [] 0 0 0 [m, implFold (ms.drop (q + 1))] := by
  obtain ⟨h1, rfl⟩ := List.getElem?_eq_some_iff.1 h
  rw [List.drop_eq_getElem_cons h1]
  cases hd : ms.drop (q + 1) with
  | nil => have := congrArg List.length hd; simp at this; omega
  | cons y ys => rfl
/-- a round: the node over the element and what has been built -/
theorem ImB.next {w : World} {p B Bn Bs : Nat} {l : List Tok} {t : PS} {ms : List Nd} {c : Nat → Nat → Value} {sl : Value} {ok ok2 : Prop} {k q : Nat} {m : Nd} {W : World} (h : ImB w p B Bn Bs l t ms c sl ok k W) (hB : w.heap.size = B) (hp : p < B) (hBn : B < Bn) (hsn : Bs ≠ Bn)
    (hq : ms[q]? = some m) (hok : ok2 → ok ∧ k = q + 1 ∧ q + 1 < ms.length) {x0 x1 x2 x3 x4 x5 : Value} (hx : x0 = c q 0 ∧ x1 = c q 1 ∧ x2 = c q 2 ∧ x3 = c q 3 ∧ x4 = c q 4 ∧ x5 = c q 5) {oa : Int} {na1 : Option Addr} {na2 na3 : Nat} {sa ma qa : Int} {la1 : Option Addr} {la2 la3 : Nat} (hn : W.heap[Bn]? = some (.cells #[.int .i64 oa, .slice na1 na2 na3, .int .i64 sa, .int .i64 ma, .int .i64 qa, .slice la1 la2 la3] 59 (0, 0))) (ha : ok → NdV W (Lo w B Bn) (implFold (ms.drop k)) (.agg #[.int .i64 oa, .slice na1 na2 na3, .int .i64 sa, .int .i64 ma, .int .i64 qa, .slice la1 la2 la3])) :
    ImB w p B Bn Bs l t ms c sl ok2 q ((((((((W.alloc (.cells #[x0, x1, x2, x3, x4, x5, .int .i64 oa, .slice na1 na2 na3, .int .i64 sa, .int .i64 ma, .int .i64 qa, .slice la1 la2 la3] 59)).setCell ⟨Bn, 0, none⟩ (.int .i64 14)).setCell ⟨Bn, 1, none⟩ (.slice none 0 0)).setCell ⟨Bn, 2, none⟩ (.int .i64 0)).setCell ⟨Bn, 3, none⟩ (.int .i64 0)).setCell ⟨Bn, 4, none⟩ (.int .i64 0)).setCell ⟨Bn, 5, none⟩ (.slice (some ⟨W.heap.size, 0, none⟩) 2 2))) ∧
    Upto [Bn] W ((((((((W.alloc (.cells #[x0, x1, x2, x3, x4, x5, .int .i64 oa, .slice na1 na2 na3, .int .i64 sa, .int .i64 ma, .int .i64 qa, .slice la1 la2 la3] 59)).setCell ⟨Bn, 0, none⟩ (.int .i64 14)).setCell ⟨Bn, 1, none⟩ (.slice none 0 0)).setCell ⟨Bn, 2, none⟩ (.int .i64 0)).setCell ⟨Bn, 3, none⟩ (.int .i64 0)).setCell ⟨Bn, 4, none⟩ (.int .i64 0)).setCell ⟨Bn, 5, none⟩ (.slice (some ⟨W.heap.size, 0, none⟩) 2 2))) := by
  obtain ⟨rfl, rfl, rfl, rfl, rfl, rfl⟩ := hx
  have hua : Upto [] W (W.alloc (.cells #[c q 0, c q 1, c q 2, c q 3, c q 4, c q 5, .int .i64 oa, .slice na1 na2 na3, .int .i64 sa, .int .i64 ma, .int .i64 qa, .slice la1 la2 la3] 59)) := (Upto.refl [] W).alloc _
  have hlt := lt_of_heap hn
  have hnew := new_at W (.cells #[c q 0, c q 1, c q 2, c q 3, c q 4, c q 5, .int .i64 oa, .slice na1 na2 na3, .int .i64 sa, .int .i64 ma, .int .i64 qa, .slice la1 la2 la3] 59)
  have hus := h.up.size
  have hg : Lo w B Bn W.heap.size := ⟨hus, by omega, by omega⟩
  have hnA := hua.at hn (by simp)
  have hst := nd_self (W.alloc (.cells #[c q 0, c q 1, c q 2, c q 3, c q 4, c q 5, .int .i64 oa, .slice na1 na2 na3, .int .i64 sa, .int .i64 ma, .int .i64 qa, .slice la1 la2 la3] 59)) Bn (.int .i64 14) (.slice none 0 0) (.int .i64 0) (.int .i64 0) (.int .i64 0) (.slice (some ⟨W.heap.size, 0, none⟩) 2 2)
  have hbn := nd_store hnA (.int .i64 14) (.slice none 0 0) (.int .i64 0) (.int .i64 0) (.int .i64 0) (.slice (some ⟨W.heap.size, 0, none⟩) 2 2)
  refine ⟨⟨(h.rd.ext hua).above hst (fun k hk => by simp at hk; omega), nd_up (h.up.trans_ext hua) (Or.inr (by omega)) .., hst.at (hua.at h.z (by simp)) (by simp; omega), hst.at (hua.at h.bs (by simp)) (by simpa using hsn), fun i x hi => ((h.nd i x hi).ext hua).upto hst (fun b hb _ => by simp; exact hb.2.2), 14, none, 0, 0, 0, 0, 0, _, 2, 2, hbn, fun hk2 => ?_⟩, (hua.mono (by simp)).trans_same hst⟩
  obtain ⟨hk, rfl, hl⟩ := hok hk2
  rw [implFold_step ms q m hq hl]
  exact (NdV.two (op := 14) (so := 0) (names := []) SlP.nil ((h.nd q m hq).ext hua) ((ha hk).ext hua) hg hnew).upto hst (fun b hb _ => by simp; exact hb.2.2)
theorem RdPost.put {w W W' : World} {p D : Nat} {l : List Tok} {s s' : PS} {n : Nd} {e : Ending} (h : RdPost w p l s n s' e W) (hu : Upto [D] W W') (hD : p < D ∧ w.heap.size ≤ D) (hc : ¬ IsC W D) : RdPost w p l s n s' e W' := by
  obtain ⟨v, he, hn, hR, hup, ha⟩ := h
  exact ⟨v, he, hn.upto hu (fun b _ hl => by simp; rintro rfl; exact hc hl), hR.above hu (fun k hk => by simp at hk; omega), hup.trans hu (fun k hk => Or.inr (by simp at hk; omega)), ha⟩
theorem Down.snoc {r : Nat} {pre : List (Ix r)} {x : Ix r} (h : Down (pre ++ [x])) : Down pre ∧ x.1 + pre.length + 1 = r := by
  refine ⟨⟨by have := h.1; simp at this; omega, fun j y hy => h.2 j y ?_⟩, ?_⟩
  · rw [List.getElem?_append_left (List.getElem?_eq_some_iff.1 hy).1]; exact hy
  · exact h.2 pre.length x (by simp)

set_option maxRecDepth 100000 in
set_option maxHeartbeats 12800000 in
theorem implies_calls (w : World) (p : Nat) (l : List Tok) (s s' : PS) (n : Nd) (of : Rd) (hx : Cx w p l) (h : RdAt w p l s) (hd : s.dp ≤ 256) (hop : Rdr w p l 103 #[.pointer (some ⟨p, 0, none⟩)] of) (he : impliesP l of s = some (n, s')) :
    Calls Tryd.prog 76 #[.pointer (some ⟨p, 0, none⟩)] w (RdPost w p l s n s') := by
  have HpB : Hid (p < w.heap.size) := Lib.hid h.lt
  have hu0 : Upto [] w (w.alloc (.cells #[.int .i64 0, .slice none 0 0, .int .i64 0, .int .i64 0, .int .i64 0, .slice none 0 0] 59)) := (Upto.refl [] w).alloc _
  have HR0 := Lib.hid (h.ext hu0)
  have HX0 := Lib.hid (hx.ext hu0)
  have HU0 : Hid (Upto [p] w (w.alloc (.cells #[.int .i64 0, .slice none 0 0, .int .i64 0, .int .i64 0, .int .i64 0, .slice none 0 0] 59))) := Lib.hid (hu0.mono (by simp))
  have HNew : Hid ((w.alloc (.cells #[.int .i64 0, .slice none 0 0, .int .i64 0, .int .i64 0, .int .i64 0, .slice none 0 0] 59)).heap[w.heap.size]? = some (.cells #[.int .i64 0, .slice none 0 0, .int .i64 0, .int .i64 0, .int .i64 0, .slice none 0 0] 59 (0, 0))) := Lib.hid (new_at _ _)
  have hlen := hx.len
  have hin := h.inb
  have HF : Hid (Fin l) := Lib.hid h.fin
  have HOP := Lib.hid (hop.upto HU0.out)
  have HV : Hid (∃ m t a, orsP l of s = some (m, t) ∧ implLoop l (orsP l of) (l.length + 1) [m] t = some (a, s') ∧ n = implFold a) := Lib.hid (by
    unfold impliesP at he
    cases hq : orsP l of s with
    | none => rw [hq] at he; cases he
    | some r =>
      obtain ⟨m, t⟩ := r
      rw [hq] at he
      simp only [Option.bind_some] at he
      cases hz : implLoop l (orsP l of) (l.length + 1) [m] t with
      | none => rw [hz] at he; cases he
      | some r2 =>
        obtain ⟨a, t2⟩ := r2
        rw [hz] at he
        simp at he
        obtain ⟨rfl, rfl⟩ := he
        exact ⟨m, t, a, rfl, hz, rfl⟩)
  obtain ⟨m0, t0, a, hv1, hv2, rfl⟩ := HV.out
  have HO := Lib.hid (fun w1 (hu : Upto [p] w w1) s1 n1 s2 (hR : RdAt w1 p l s1) (hd1 : s1.dp ≤ 256) (he1 : orsP l of s1 = some (n1, s2)) => ors_calls w1 p l s1 s2 n1 of (hx.upto hu) hR hd1 (hop.upto hu) he1)
  have HV1 := Lib.hid hv1
  have HV2 := Lib.hid hv2
  clear hx h he hu0 hop HV hv1 hv2
  refine (callsIn_wide (n := 5)).1 ?_
  refine callsIn_of_wp_marks Tryd.func76 rfl trivial (wpIn_wide.2 ?_) rfl
  simp only [Tryd.ntmps76, List.size_toArray, List.length_cons, List.length_nil, Nat.reduceAdd, Nat.reduceSub, Array.replicate_succ, Array.replicate_zero, List.push_toArray, List.append_toArray, List.nil_append, List.cons_append]
  go_wp2_with fail
  refine (HO.out _ HU0.out s m0 t0 HR0.out hd HV1.out).mono ?_
  rintro e w2 ⟨vv, rfl, hn, hR2, hu2, ha⟩
  obtain ⟨oa, na1, na2, na3, sa, ma, qa, la1, la2, la3, rfl⟩ := hn.six
  have hua := (Upto.refl [] w2).alloc (.cells #[.int .i64 oa, .slice na1 na2 na3, .int .i64 sa, .int .i64 ma, .int .i64 qa, .slice la1 la2 la3] 59)
  have hgn : (w2.alloc (.cells #[.int .i64 oa, .slice na1 na2 na3, .int .i64 sa, .int .i64 ma, .int .i64 qa, .slice la1 la2 la3] 59)).heap[w2.heap.size]? = some (.cells #[.int .i64 oa, .slice na1 na2 na3, .int .i64 sa, .int .i64 ma, .int .i64 qa, .slice la1 la2 la3] 59 (0, 0)) := new_at _ _
  have HS2 : Hid (w.heap.size < w2.heap.size) := Lib.hid (Nat.lt_of_lt_of_le (lt_of_heap HNew.out) hu2.size)
  have HI0 : Hid (ImpI w p l of s s' a (.slice (some ⟨w2.heap.size, 0, none⟩) 1 1) (w2.alloc (.cells #[.int .i64 oa, .slice na1 na2 na3, .int .i64 sa, .int .i64 ma, .int .i64 qa, .slice la1 la2 la3] 59))) := Lib.hid ⟨_, _, _, _, HV2.out, hR2.ext hua, (HU0.out.trans_same hu2).trans_ext hua, ha, hua.at (hu2.at HNew.out (by have := HpB.out; simp; omega)) (by simp),
    NdRow.one hgn ((hn.mono (fun b hb hl => ⟨by have h1 := HU0.out.size; unfold New at hb ⊢; omega, by have h1 := lt_of_heap HNew.out; unfold New at hb; omega, by have := hl.lt; omega⟩)).ext hua) ⟨by have := HS2.out; omega, by have := HS2.out; omega⟩, by simp, by simp⟩
  clear hn hR2 hu2 ha hua hgn HS2
  obtain ⟨i0, hi0, hz0, hz1, hz2⟩ := info59'
  go_wp2_with fail
  go_loopw [3] (fun v wr => Hid (ImpI w p l of s s' a v wr)) (fun _ wr => l.length - nxOf wr p)
  case atStart => exact HI0
  case round =>
    obtain ⟨k, ms, t, c, hl, hR, hu, ha, hz, hrow, hne, hlm⟩ := hrel.out
    obtain ⟨g, cap, rfl, hcap, hgl, hcell⟩ := hrow.cells hne
    have HI := Lib.hid (And.intro hR (And.intro hu (And.intro ha (And.intro hz hrow))))
    have HC := Lib.hid (takes_calls wr p l t [105, 109, 112, 108, 105, 101, 115] hR hlen)
    have HNX := Lib.hid hR.nx
    have hml : ms.length ≤ 1000001 := by have := hR.inb; omega
    have HML := Lib.hid hlm
    clear hrel HI0
    cases k with
    | zero => unfold implLoop at hl; cases hl
    | succ k =>
    unfold implLoop at hl
    cases hv : isF l [105, 109, 112, 108, 105, 101, 115] t with
    | true =>
      rw [hv] at HC hl
      have HT : Hid ((takesF l [105, 109, 112, 108, 105, 101, 115] t).2 = stepF t) := Lib.hid (by unfold takesF; rw [if_pos hv])
      have HV3 : Hid (∃ m4 t4, orsP l of (stepF t) = some (m4, t4) ∧ implLoop l (orsP l of) k (ms ++ [m4]) t4 = some (a, s')) := Lib.hid (by
        simp only [if_true] at hl
        cases hq : orsP l of (stepF t) with
        | none => rw [hq] at hl; cases hl
        | some r => obtain ⟨m4, t4⟩ := r; rw [hq] at hl; exact ⟨m4, t4, rfl, hl⟩)
      have HK := Lib.hid (isF_ne hv)
      clear hR hu ha hz hrow hl hv hcell
      go_wp2_with fail
      refine HC.out.mono ?_
      rintro e w3 ⟨rfl, hR3, hu3⟩
      rw [HT.out] at hR3
      have HR3 := Lib.hid hR3
      have HU3 := Lib.hid hu3
      have HROW3 := Lib.hid (HI.out.2.2.2.2.upto hu3 (fun k hk => by simp at hk; have := HpB.out; omega))
      clear hR3 hu3
      obtain ⟨m4, t4, he4, hl4⟩ := HV3.out
      have HL4 := Lib.hid hl4
      have HE4 := Lib.hid he4
      clear he4 hl4
      have HUW : Hid (Upto [p] w w3) := Lib.hid (HI.out.2.1.trans_same HU3.out)
      go_wp2_with (first
        | (refine (HO.out w3 HUW.out (stepF t) m4 t4 HR3.out (by have := HI.out.2.2.1.dp; show t.dp ≤ 256; omega) HE4.out).mono ?_
           rintro e w4 ⟨v4, rfl, hn4, hR4, hu4, ha4⟩
           obtain ⟨ob, nb1, nb2, nb3, sb, mb, qb, lb1, lb2, lb3, rfl⟩ := hn4.six
           have HN4 := Lib.hid hn4
           have HR4 := Lib.hid hR4
           have HU4 := Lib.hid hu4
           have HA4 := Lib.hid ha4
           have HROW4 := Lib.hid (HROW3.out.upto hu4 (fun k hk => by simp at hk; have := HpB.out; omega))
           clear hn4 hR4 hu4 ha4)
        | (at_builtin
           refine wpList_app _ rfl (.tmp 12) (.tmp 15) 57 rfl 59 i0 (.agg #[.int .i64 0, .slice none 0 0, .int .i64 0, .int .i64 0, .int .i64 0, .slice none 0 0]) 6 80 Tryd.underlying57 hi0 hz0 hz1 hz2 rfl (by decide) (.slice (some ⟨g, 0, none⟩) ms.length cap) ms.length (cellsN c ms.length) rfl (HROW4.out.row.alloc _) ⟨w4.heap.size, 0, none⟩ 1 1 [.int .i64 ob, .slice nb1 nb2 nb3, .int .i64 sb, .int .i64 mb, .int .i64 qb, .slice lb1 lb2 lb3] rfl rfl (six_at (new_at _ _)) (by simp [Value.oneCell']) (by unfold maxLen; omega) (by omega) ?_
           intro b5 c5 w5 ho5 hu5 hw5))
      have hg3 : g < w3.heap.size := Nat.lt_of_lt_of_le hgl HU3.out.size
      have hua := (Upto.refl [] w4).alloc (.cells #[.int .i64 ob, .slice nb1 nb2 nb3, .int .i64 sb, .int .i64 mb, .int .i64 qb, .slice lb1 lb2 lb3] 59)
      have hown := HROW4.out.own g rfl
      have hsz4 := (HUW.out.trans_same HU4.out).size
      have hz4 := HU4.out.at (HU3.out.at HI.out.2.2.2.1 (by have := HpB.out; simp; omega)) (by have := HpB.out; simp; omega)
      have hp := HpB.out
      have hu5g : Upto [g] (w4.alloc (.cells #[.int .i64 ob, .slice nb1 nb2 nb3, .int .i64 sb, .int .i64 mb, .int .i64 qb, .slice lb1 lb2 lb3] 59)) w5 := hu5
      have hR5 := (HR4.out.ext hua).above hu5g (fun k hk => by simp at hk; omega)
      have hrow5 := NdRow.app (HROW4.out.upto hua (by simp)) (by simp; omega) (by have := lt_of_heap hz4; simp; omega) ((HN4.out.mono (fun b hb hl => ⟨by have := HUW.out.size; unfold New at hb ⊢; omega, by have := lt_of_heap (HU3.out.at HI.out.2.2.2.1 (by simp; omega)); unfold New at hb; omega, by unfold New at hb; simp [Value.ownBlock]; omega⟩)).ext hua) ho5 hu5 hw5
      have a5 := Adv.step HF.out HI.out.1.inb HK.out
      refine ⟨Lib.hid ⟨k, ms ++ [m4], t4, _, HL4.out, hR5, ((HUW.out.trans_same HU4.out).trans_ext hua).trans hu5g (fun k hk => Or.inr (by simp at hk; omega)), HI.out.2.2.1.trans (a5.trans HA4.out), hu5g.at (hua.at hz4 (by simp)) (by simp; omega), hrow5, by simp, ?_⟩, ?_⟩
      · have h1 := HML.out
        have h2 := HA4.out.le
        have h3 : (stepF t).nx = t.nx + 1 := rfl
        simp
        omega
      · have h1 := HNX.out
        have h2 := HA4.out.le
        have h3 : (stepF t).nx = t.nx + 1 := rfl
        have h4 := HA4.out.lt
        rw [hR5.nx, h1]
        omega
    | false =>
      rw [hv] at HC hl
      have HT : Hid ((takesF l [105, 109, 112, 108, 105, 101, 115] t).2 = t) := Lib.hid (by unfold takesF; rw [hv]; rfl)
      simp at hl
      obtain ⟨rfl, rfl⟩ := hl
      clear hR hu ha hz hrow hv
      go_wp2_with fail
      refine HC.out.mono ?_
      rintro e w3 ⟨rfl, hR3, hu3⟩
      rw [HT.out] at hR3
      have hg3 : ∀ i j, i < ms.length → j < 6 → w3.cell? ⟨g, 0 + i * 6 + j, none⟩ = some (c i j) := fun i j hi hj => (hu3.cell (p := ⟨g, 0 + i * 6 + j, none⟩) hgl (by have := (HI.out.2.2.2.2.own g rfl).1; have := HpB.out; simp; omega)).trans (hcell i j hi hj)
      obtain ⟨r, hr⟩ : ∃ r, ms.length = r + 1 := ⟨ms.length - 1, by have := List.length_pos_iff.2 hne; omega⟩
      have HROW3 := Lib.hid (HI.out.2.2.2.2.upto hu3 (fun k hk => by simp at hk; have := HpB.out; omega))
      have HR3 := Lib.hid hR3
      have HU3 := Lib.hid (HI.out.2.1.trans_same hu3)
      have HZ3 := Lib.hid (hu3.at HI.out.2.2.2.1 (by have := HpB.out; simp; omega))
      have HG3 := Lib.hid hg3
      have HLEN := Lib.hid hr
      have HADV := Lib.hid HI.out.2.2.1
      have HGL := Lib.hid (Nat.lt_of_lt_of_le hgl hu3.size)
      have e0 := hg3 r 0 (by omega) (by decide)
      have e1 := hg3 r 1 (by omega) (by decide)
      have e2 := hg3 r 2 (by omega) (by decide)
      have e3 := hg3 r 3 (by omega) (by decide)
      have e4 := hg3 r 4 (by omega) (by decide)
      have e5 := hg3 r 5 (by omega) (by decide)
      simp only [Nat.zero_add, Nat.add_zero] at e0 e1 e2 e3 e4 e5
      obtain ⟨ml, hml2⟩ : ∃ x, ms[r]? = some x := ⟨_, List.getElem?_eq_getElem (by omega)⟩
      have hlast := Lib.hid (HROW3.out.nd r ml hml2)
      have HML2 := Lib.hid hml2
      clear hml2
      have hrI : (r : Int) ≤ 1000001 := by omega
      have hr0 : (0 : Int) ≤ r := by omega
      have hcr : (r : Int) + 1 ≤ cap := by omega
      rw [hr]
      have hi1 : ((r + 1 : Nat) : Int) = (r : Int) + 1 := by omega
      obtain ⟨xo, xn1, xn2, xn3, xs1, xm, xq, xl1, xl2, xl3, hx6⟩ := hlast.out.six
      simp only [Value.agg.injEq, Array.mk.injEq, List.cons.injEq, and_true] at hx6
      obtain ⟨y0, y1, y2, y3, y4, y5⟩ := hx6
      rw [y0] at e0
      rw [y1] at e1
      rw [y2] at e2
      rw [y3] at e3
      rw [y4] at e4
      rw [y5] at e5
      have HX6 := Lib.hid (And.intro y0 (And.intro y1 (And.intro y2 (And.intro y3 (And.intro y4 y5)))))
      clear hR3 hu3 hg3 hcell hr hlm hml HC y0 y1 y2 y3 y4 y5
      go_wp2_with fail
      refine ((callsIn_wide (n := 5)).1 (backn_in 5 _ _ _ _)).mono ?_
      clear e0 e1 e2 e3 e4 e5
      rintro e w4 ⟨rfl, rfl⟩
      have hG := HG3.out
      have hgl3 := HGL.out
      have hpB := HpB.out
      have hgB := HROW3.out.own g rfl
      have hmlr := HLEN.out
      have hx6 := HX6.out
      have hB3 := lt_of_heap HZ3.out
      have HS6 : Hid (((w3.alloc (.cells #[.int .i64 xo, .slice xn1 xn2 xn3, .int .i64 xs1, .int .i64 xm, .int .i64 xq, .slice xl1 xl2 xl3] 59)).alloc (.cells #[.slice (some ⟨g, 0, none⟩) r cap] 57)).heap.size = w3.heap.size + 1 + 1) := Lib.hid (by simp)
      have HI6 : Hid (ImB w p w.heap.size w3.heap.size (w3.heap.size + 1) l t ms c (.slice (some ⟨g, 0, none⟩) r cap) (Down ([] : List (Ix r))) r ((w3.alloc (.cells #[.int .i64 xo, .slice xn1 xn2 xn3, .int .i64 xs1, .int .i64 xm, .int .i64 xq, .slice xl1 xl2 xl3] 59)).alloc (.cells #[.slice (some ⟨g, 0, none⟩) r cap] 57))) := Lib.hid (by
        have hua := (Upto.refl [] w3).alloc (.cells #[.int .i64 xo, .slice xn1 xn2 xn3, .int .i64 xs1, .int .i64 xm, .int .i64 xq, .slice xl1 xl2 xl3] 59)
        have hub := (Upto.refl [] (w3.alloc (.cells #[.int .i64 xo, .slice xn1 xn2 xn3, .int .i64 xs1, .int .i64 xm, .int .i64 xq, .slice xl1 xl2 xl3] 59))).alloc (.cells #[.slice (some ⟨g, 0, none⟩) r cap] 57)
        have hnd : ∀ i m, ms[i]? = some m → NdV w3 (Lo w w.heap.size w3.heap.size) m (.agg #[c i 0, c i 1, c i 2, c i 3, c i 4, c i 5]) := fun i m hi => (HROW3.out.nd i m hi).mono (fun b hb hl => ⟨hb.1, hb.2.1, by have := hl.lt; omega⟩)
        refine ⟨(HR3.out.ext hua).ext hub, (HU3.out.alloc _).alloc _, hub.at (hua.at HZ3.out (by simp)) (by simp), new_at1 _ _ _, fun i m hi => ((hnd i m hi).ext hua).ext hub, xo, xn1, xn2, xn3, xs1, xm, xq, xl1, xl2, xl3, hub.at (new_at _ _) (by simp), fun _ => ?_⟩
        have hd : ms.drop r = [ml] := by
          obtain ⟨h1, h2⟩ := List.getElem?_eq_some_iff.1 HML2.out
          rw [List.drop_eq_getElem_cons h1, h2, List.drop_eq_nil_of_le (by omega)]
        rw [hd]
        have := hnd r ml HML2.out
        rw [hx6.1, hx6.2.1, hx6.2.2.1, hx6.2.2.2.1, hx6.2.2.2.2.1, hx6.2.2.2.2.2] at this
        exact (this.ext hua).ext hub)
      have HC6 : Hid (∀ i j, i < r → j < 6 → ((w3.alloc (.cells #[.int .i64 xo, .slice xn1 xn2 xn3, .int .i64 xs1, .int .i64 xm, .int .i64 xq, .slice xl1 xl2 xl3] 59)).alloc (.cells #[.slice (some ⟨g, 0, none⟩) r cap] 57)).cell? ⟨g, 0 + i * 6 + j, none⟩ = some (c i j)) := Lib.hid (fun i j hi hj => (((Upto.refl [] w3).alloc _).alloc _).cell (p := ⟨g, 0 + i * 6 + j, none⟩) hgl3 (by simp) |>.trans (hG i j (by omega) hj))
      clear hG hx6
      go_wp2_with fail
      refine (wpIn_wide (n := 5)).1 ?_
      refine wpIn_rangeFunc_ownH (F := Fence.wide) (n := 5) rfl (by omega) (gf := 104) (lb := #[.pointer (some ⟨w3.heap.size + 1, 0, none⟩)]) rfl trivial (enters_of Tryd.func104 (by kernel_rfl) rfl)
        (back_stops (5 - 1) (by omega) (w3.heap.size + 1) g 0 r cap (by omega) c ((w3.alloc (.cells #[.int .i64 xo, .slice xn1 xn2 xn3, .int .i64 xs1, .int .i64 xm, .int .i64 xq, .slice xl1 xl2 xl3] 59)).alloc (.cells #[.slice (some ⟨g, 0, none⟩) r cap] 57)) (by simp; omega) (new_at1 _ _ _) HC6.out) (fun h k => h.trans k)
        (fun W lx o o' hlx ho hc _ => fun b hb => World.putObj_heap_other (by simp at hb hlx; omega)) (Below.refl _ _) (fun _ => rfl)
        (fun pre W => ImB w p w.heap.size w3.heap.size (w3.heap.size + 1) l t ms c (.slice (some ⟨g, 0, none⟩) r cap) (Down pre) (r - pre.length) W) (fun _ _ _ => False)
        (fun pre W W' row hI hg hr => hI.grown (b0 := w3.heap.size + 1 + 1) ⟨by omega, by omega⟩ hg (fun rr e => by have := hr rr e; rw [HS6.out] at this; exact this))
        (fun _ _ _ _ _ hs _ _ => hs) HI6.out
        (fun x a' W => ∃ Bx v30, a' = { tmps := #[.pointer (some ⟨p, 0, none⟩), undef, .pointer (some ⟨w.heap.size, 0, none⟩), .slice (some ⟨g, 0, none⟩) (r + 1) cap, .pointer (some ⟨w3.heap.size, 0, none⟩), undef, .pointer (some ⟨Bx, 0, none⟩), .pointer (some ⟨p, 0, none⟩), .agg #[.int .i64 oa, .slice na1 na2 na3, .int .i64 sa, .int .i64 ma, .int .i64 qa, .slice la1 la2 la3], .slice (some ⟨w2.heap.size, 0, none⟩) 1 1, .pointer (some ⟨p, 0, none⟩), .bool false, u12, u13, u14, u15, u16, .slice (some ⟨g, 0, none⟩) (r + 1) cap, .slice (some ⟨g, 0, none⟩) (r + 1) cap, .int .i64 ((r : Int) + 1), .int .i64 r, .pointer (some ⟨g, r * 6, none⟩), .agg #[.int .i64 xo, .slice xn1 xn2 xn3, .int .i64 xs1, .int .i64 xm, .int .i64 xq, .slice xl1 xl2 xl3], .slice (some ⟨g, 0, none⟩) (r + 1) cap, .slice (some ⟨g, 0, none⟩) (r + 1) cap, .int .i64 ((r : Int) + 1), .int .i64 r, .slice (some ⟨g, 0, none⟩) r cap, .func (.func 104) #[] #[.pointer (some ⟨w3.heap.size + 1, 0, none⟩)], .int .i64 x.1, v30, undef, undef, undef, undef, undef], defers := [] } ∧ W.heap[Bx]? = some (.cells #[c x.1 0, c x.1 1, c x.1 2, c x.1 3, c x.1 4, c x.1 5] 59 (0, 0)))
        (fun x a' _ W W' row hs hg hr => by
          obtain ⟨Bx, v30, h1, h2⟩ := hs
          exact ⟨Bx, v30, h1, (grownBy_keeps_cells hg (fun rr e => (hr rr e).2) h2 rfl).trans h2⟩) ?assign ?body ?done ?stop
      case assign =>
        intro lx pre x W K hI hK
        obtain ⟨mx, hmx⟩ : ∃ m, ms[x.1]? = some m := ⟨_, List.getElem?_eq_getElem (by have := x.2; omega)⟩
        obtain ⟨o', p1, p2, p3, s1, m1, q1, l1, l2, l3, hsix⟩ := (hI.nd _ _ hmx).six
        simp only [Value.agg.injEq, Array.mk.injEq, List.cons.injEq, and_true] at hsix
        obtain ⟨z0, z1, z2, z3, z4, z5⟩ := hsix
        have HIW := Lib.hid hI
        have HKW := Lib.hid hK
        have HSX := Lib.hid (And.intro z0 (And.intro z1 (And.intro z2 (And.intro z3 (And.intro z4 z5)))))
        unfold encsB
        rw [z0, z1, z2, z3, z4, z5]
        clear hI hK z0 z1 z2 z3 z4 z5
        gi_wp2
        have hu : Upto [] W (W.alloc (.cells #[.int .i64 o', .slice p1 p2 p3, .int .i64 s1, .int .i64 m1, .int .i64 q1, .slice l1 l2 l3] 59)) := (Upto.refl [] W).alloc _
        refine HKW.out _ _ ⟨hu.size, fun k o _ hk _ => hu.at hk (by simp)⟩ (fun b hb => ?_) (HIW.out.ext hu) ⟨_, _, rfl, ?_⟩
        · simp at hb
          rcases hb with rfl | rfl
          · exact hu.block _ (lt_of_heap HIW.out.bs) (by simp)
          · have h1 := HIW.out.acc
            exact hu.block _ (by have h2 := HIW.out.up.size; have h3 := lt_of_heap HIW.out.bs; omega) (by simp)
        · obtain ⟨z0, z1, z2, z3, z4, z5⟩ := HSX.out
          rw [z0, z1, z2, z3, z4, z5]
          exact new_at _ _
      case body =>
        rintro lx pre x a' W - - hI ⟨Bx, v30, rfl, hbx⟩ hlen
        obtain ⟨mx, hmx⟩ : ∃ m, ms[x.1]? = some m := ⟨_, List.getElem?_eq_getElem (by have := x.2; omega)⟩
        obtain ⟨o', p1, p2, p3, s1, m1, q1, l1, l2, l3, hsix⟩ := (hI.nd _ _ hmx).six
        simp only [Value.agg.injEq, Array.mk.injEq, List.cons.injEq, and_true] at hsix
        obtain ⟨z0, z1, z2, z3, z4, z5⟩ := hsix
        obtain ⟨ob, nb1, nb2, nb3, sb, mb, qb, lb1, lb2, lb3, hn, hacc⟩ := hI.acc
        have hz : (.int .i64 o' = c x.1 0 ∧ .slice p1 p2 p3 = c x.1 1 ∧ .int .i64 s1 = c x.1 2 ∧ .int .i64 m1 = c x.1 3 ∧ .int .i64 q1 = c x.1 4 ∧ .slice l1 l2 l3 = c x.1 5) := ⟨z0.symm, z1.symm, z2.symm, z3.symm, z4.symm, z5.symm⟩
        rw [z0, z1, z2, z3, z4, z5] at hbx
        have hnx := ImB.next (q := x.1) (ok2 := Down (pre ++ [x])) hI rfl hpB hB3 (by omega) hmx (fun hd => by have h1 := hd.snoc; exact ⟨h1.1, by omega, by have := x.2; omega⟩) hz hn hacc
        have hna := ((Upto.refl [] W).alloc (.cells #[.int .i64 o', .slice p1 p2 p3, .int .i64 s1, .int .i64 m1, .int .i64 q1, .slice l1 l2 l3, .int .i64 ob, .slice nb1 nb2 nb3, .int .i64 sb, .int .i64 mb, .int .i64 qb, .slice lb1 lb2 lb3] 59)).at hn (by simp)
        have cc0 := cell_of hbx 0
        have cc1 := cell_of hbx 1
        have cc2 := cell_of hbx 2
        have cc3 := cell_of hbx 3
        have cc4 := cell_of hbx 4
        have cc5 := cell_of hbx 5
        have d0 := free_of hbx 0
        have d1 := free_of hbx 1
        have d2 := free_of hbx 2
        have d3 := free_of hbx 3
        have d4 := free_of hbx 4
        have d5 := free_of hbx 5
        simp only [List.getElem?_toArray, List.getElem?_cons_zero, List.getElem?_cons_succ] at cc0 cc1 cc2 cc3 cc4 cc5
        have h0 := cell_of hn 0
        have h1 := cell_of hn 1
        have h2 := cell_of hn 2
        have h3 := cell_of hn 3
        have h4 := cell_of hn 4
        have h5 := cell_of hn 5
        have i0 := free_of hn 0
        have i1 := free_of hn 1
        have i2 := free_of hn 2
        have i3 := free_of hn 3
        have i4 := free_of hn 4
        have i5 := free_of hn 5
        simp only [List.getElem?_toArray, List.getElem?_cons_zero, List.getElem?_cons_succ] at h0 h1 h2 h3 h4 h5
        have e0 := cell_of hna 0
        have e1 := cell_of hna 1
        have e2 := cell_of hna 2
        have e3 := cell_of hna 3
        have e4 := cell_of hna 4
        have e5 := cell_of hna 5
        have f0 := free_of hna 0
        have f1 := free_of hna 1
        have f2 := free_of hna 2
        have f3 := free_of hna 3
        have f4 := free_of hna 4
        have f5 := free_of hna 5
        simp only [List.getElem?_toArray, List.getElem?_cons_zero, List.getElem?_cons_succ] at e0 e1 e2 e3 e4 e5
        have HNX := Lib.hid hnx
        have HNN := Lib.hid hn
        have HIW := Lib.hid hI
        have hlb := lt_of_heap hI.bs
        have HLB := Lib.hid hlb
        clear z0 z1 z2 z3 z4 z5 hz hnx hna hn hbx hacc hI hlb
        gi_wp2
        have hq := HNX.out
        refine ⟨⟨hq.2.size, fun k o _ hk ho => hq.2.at hk (by simp; rintro rfl; have := HNN.out; rw [hk] at this; cases this; cases ho)⟩, fun b hb => ?_, ?_⟩
        · simp at hb
          rcases hb with rfl | rfl
          · exact hq.2.block _ HLB.out (by simp)
          · exact hq.2.block _ (by have := HLB.out; omega) (by simp; omega)
        · refine hq.1.at (fun hd => ?_)
          have h1 := hd.snoc.2
          simp
          omega
      case done =>
        rintro D xs W hD ⟨hDn, hlen⟩ hI hK
        have hI0 := hI.at (k' := 0) (fun _ => by omega)
        obtain ⟨oa, na1, na2, na3, sa, ma, qa, la1, la2, la3, hn, hacc⟩ := hI0.acc
        have hz := hI.z
        have h0 := cell_of hn 0
        have h1 := cell_of hn 1
        have h2 := cell_of hn 2
        have h3 := cell_of hn 3
        have h4 := cell_of hn 4
        have h5 := cell_of hn 5
        have i0 := free_of hn 0
        have i1 := free_of hn 1
        have i2 := free_of hn 2
        have i3 := free_of hn 3
        have i4 := free_of hn 4
        have i5 := free_of hn 5
        simp only [List.getElem?_toArray, List.getElem?_cons_zero, List.getElem?_cons_succ] at h0 h1 h2 h3 h4 h5
        have z0 := cell_of hz 0
        have z1 := cell_of hz 1
        have z2 := cell_of hz 2
        have z3 := cell_of hz 3
        have z4 := cell_of hz 4
        have z5 := cell_of hz 5
        have y0 := free_of hz 0
        have y1 := free_of hz 1
        have y2 := free_of hz 2
        have y3 := free_of hz 3
        have y4 := free_of hz 4
        have y5 := free_of hz 5
        simp only [List.getElem?_toArray, List.getElem?_cons_zero, List.getElem?_cons_succ] at z0 z1 z2 z3 z4 z5
        have hDs : w3.heap.size + 1 + 1 ≤ D := by have := HS6.out; omega
        have hst := nd_self W w.heap.size (.int .i64 oa) (.slice na1 na2 na3) (.int .i64 sa) (.int .i64 ma) (.int .i64 qa) (.slice la1 la2 la3)
        have HD4 := Lib.hid (hst.at hK (by simp; omega))
        have HDN := Lib.hid (show ¬ IsC ((((((W.setCell ⟨w.heap.size, 0, none⟩ (.int .i64 oa)).setCell ⟨w.heap.size, 1, none⟩ (.slice na1 na2 na3)).setCell ⟨w.heap.size, 2, none⟩ (.int .i64 sa)).setCell ⟨w.heap.size, 3, none⟩ (.int .i64 ma)).setCell ⟨w.heap.size, 4, none⟩ (.int .i64 qa)).setCell ⟨w.heap.size, 5, none⟩ (.slice la1 la2 la3)) D from fun ⟨cs, t, z, h⟩ => by have := hst.at hK (by simp; omega); rw [h] at this; cases this)
        have hs := nd_store hz (.int .i64 oa) (.slice na1 na2 na3) (.int .i64 sa) (.int .i64 ma) (.int .i64 qa) (.slice la1 la2 la3)
        have hs2 : ((((((((W.setCell ⟨w.heap.size, 0, none⟩ (.int .i64 oa)).setCell ⟨w.heap.size, 1, none⟩ (.slice na1 na2 na3)).setCell ⟨w.heap.size, 2, none⟩ (.int .i64 sa)).setCell ⟨w.heap.size, 3, none⟩ (.int .i64 ma)).setCell ⟨w.heap.size, 4, none⟩ (.int .i64 qa)).setCell ⟨w.heap.size, 5, none⟩ (.slice la1 la2 la3))).putObj D (.deferred none)).heap[w.heap.size]? = some (.cells #[.int .i64 oa, .slice na1 na2 na3, .int .i64 sa, .int .i64 ma, .int .i64 qa, .slice la1 la2 la3] 59 (0, 0)) := (World.putObj_heap_other (by omega)).trans hs
        have HFIN := Lib.hid (rdpost_at (l := l) (s := s) (s' := t) (n := implFold ms) (P := Lo w w.heap.size w3.heap.size) (Nat.le_refl _) hpB hI.up hI.rd hz HADV.out (by have := hacc hDn; simpa using this) (fun b hb _ => ⟨hb.1, hb.2.1⟩))
        have HUD : Hid (Upto [D] ((((((W.setCell ⟨w.heap.size, 0, none⟩ (.int .i64 oa)).setCell ⟨w.heap.size, 1, none⟩ (.slice na1 na2 na3)).setCell ⟨w.heap.size, 2, none⟩ (.int .i64 sa)).setCell ⟨w.heap.size, 3, none⟩ (.int .i64 ma)).setCell ⟨w.heap.size, 4, none⟩ (.int .i64 qa)).setCell ⟨w.heap.size, 5, none⟩ (.slice la1 la2 la3)) ((((((((W.setCell ⟨w.heap.size, 0, none⟩ (.int .i64 oa)).setCell ⟨w.heap.size, 1, none⟩ (.slice na1 na2 na3)).setCell ⟨w.heap.size, 2, none⟩ (.int .i64 sa)).setCell ⟨w.heap.size, 3, none⟩ (.int .i64 ma)).setCell ⟨w.heap.size, 4, none⟩ (.int .i64 qa)).setCell ⟨w.heap.size, 5, none⟩ (.slice la1 la2 la3))).putObj D (.deferred none))) := Lib.hid ((Upto.refl [D] _).grown (grownBy_putObj' _ D _) (fun k e => by cases e; simp))
        have q0 := cell_of hs2 0
        have q1 := cell_of hs2 1
        have q2 := cell_of hs2 2
        have q3 := cell_of hs2 3
        have q4 := cell_of hs2 4
        have q5 := cell_of hs2 5
        have v0 := free_of hs2 0
        have v1 := free_of hs2 1
        have v2 := free_of hs2 2
        have v3 := free_of hs2 3
        have v4 := free_of hs2 4
        have v5 := free_of hs2 5
        simp only [List.getElem?_toArray, List.getElem?_cons_zero, List.getElem?_cons_succ] at q0 q1 q2 q3 q4 q5
        have HDS := Lib.hid hDs
        clear hI hI0 hn hacc hz hst hs hs2 hK hDs
        go_wp2_with fail
        refine ⟨by simp, .inl ⟨_, _, rfl, run_takeDeferred HD4.out, ?_⟩⟩
        exact ⟨.agg #[.int .i64 oa, .slice na1 na2 na3, .int .i64 sa, .int .i64 ma, .int .i64 qa, .slice la1 la2 la3], by simp [results, Tryd.results76, go_sem, q0, q1, q2, q3, q4, q5], HFIN.out.put HUD.out ⟨by have := HDS.out; omega, by have := HDS.out; omega⟩ HDN.out⟩
      case stop =>
        rintro D c' pre W _ _ h _
        exact h.elim
end Go.Proofs.YtkhbpebpljdifaaDoor


namespace Go.Proofs.YtkhbpebpljdifaaDoor
open Go.RowKit Go.PL Go.Maps

theorem operand_calls (p : Nat) (l : List Tok) (htx : ∀ t ∈ l, t.text.length ≤ 65536) : ∀ (d : Nat) (w : World) (s : PS) (n : Nd) (s' : PS), Cx w p l → RdAt w p l s → s.dp ≤ 256 → operandP l d s = some (n, s') → Calls Tryd.prog 103 #[.pointer (some ⟨p, 0, none⟩)] w (RdPost w p l s n s')
  | 0, w, s, n, s', _, _, _, he => by unfold operandP at he; cases he
  | d + 1, w, s, n, s', hx, h, hd, he => by
    have hop : Rdr w p l 103 #[.pointer (some ⟨p, 0, none⟩)] (operandP l d) := fun w1 s1 n1 s2 hu hR hd1 he1 => operand_calls p l htx d w1 s1 n1 s2 (hx.upto hu) hR hd1 he1
    have him : Rdr w p l 76 #[.pointer (some ⟨p, 0, none⟩)] (impliesP l (operandP l d)) := fun w1 s1 n1 s2 hu hR hd1 he1 => implies_calls w1 p l s1 s2 n1 (operandP l d) (hx.upto hu) hR hd1 (hop.upto hu) he1
    have hfm : Rdr w p l 52 #[.pointer (some ⟨p, 0, none⟩)] (formulaP l (operandP l d)) := fun w1 s1 n1 s2 hu hR hd1 he1 => formula_calls w1 p l s1 s2 n1 (operandP l d) (hx.upto hu) hR hd1 (him.upto hu) he1
    have hlen : (tkAt l s).text.length ≤ 65536 := htx _ (List.mem_of_getElem? (tk_some h.inb))
    unfold operandP at he
    simp only at he
    obtain ⟨tk, tx, tv, tl, tc, hT⟩ : ∃ tk tx tv tl tc, tkAt l s = ⟨tk, tx, tv, tl, tc⟩ := ⟨_, _, _, _, _, rfl⟩
    have HT := Lib.hid hT
    rw [hT] at hlen he
    simp only at he hlen
    by_cases h34 : tk = 3 ∨ tk = 4
    · have hk0 : (tkAt l s).kind ≠ 0 := by rw [hT]; simp; omega
      by_cases h0 : s.er = 0
      · rw [if_pos ⟨h34, h0⟩] at he
        by_cases e116 : tx = [116, 114, 117, 101]
        · rw [if_pos e116] at he
          subst e116
          exact operand_word w p l s s' n 116 hx h tk tv tl tc _ HT h34 h0 (Lib.hid fun w b hm => piece_116 hm) (run_enter Tryd.func116 (by kernel_rfl) rfl) (Lib.hid fun W4 hu hx4 hR4 => true_calls W4 p l s s' n hx4 hR4 hd hk0 he)
        rw [if_neg e116] at he
        by_cases e117 : tx = [102, 97, 108, 115, 101]
        · rw [if_pos e117] at he
          subst e117
          exact operand_word w p l s s' n 117 hx h tk tv tl tc _ HT h34 h0 (Lib.hid fun w b hm => piece_117 hm) (run_enter Tryd.func117 (by kernel_rfl) rfl) (Lib.hid fun W4 hu hx4 hR4 => false_calls W4 p l s s' n hx4 hR4 hd hk0 he)
        rw [if_neg e117] at he
        by_cases e118 : tx = [115, 105, 122, 101]
        · rw [if_pos e118] at he
          subst e118
          exact operand_word w p l s s' n 118 hx h tk tv tl tc _ HT h34 h0 (Lib.hid fun w b hm => piece_118 hm) (run_enter Tryd.func118 (by kernel_rfl) rfl) (Lib.hid fun W4 hu hx4 hR4 => size_calls W4 p l s s' n hx4 hR4 hd hk0 he)
        rw [if_neg e118] at he
        by_cases e120 : tx = [111, 110, 101]
        · rw [if_pos e120] at he
          subst e120
          exact operand_word w p l s s' n 120 hx h tk tv tl tc _ HT h34 h0 (Lib.hid fun w b hm => piece_120 hm) (run_enter Tryd.func120 (by kernel_rfl) rfl) (Lib.hid fun W4 hu hx4 hR4 => one_calls W4 p l s s' n hx4 hR4 hd hk0 he)
        rw [if_neg e120] at he
        by_cases e121 : tx = [110, 111, 116]
        · rw [if_pos e121] at he
          subst e121
          exact operand_word w p l s s' n 121 hx h tk tv tl tc _ HT h34 h0 (Lib.hid fun w b hm => piece_121 hm) (run_enter Tryd.func121 (by kernel_rfl) rfl) (Lib.hid fun W4 hu hx4 hR4 => not_calls W4 p l s s' n (operandP l d) hx4 hR4 hd hk0 (hop.upto hu) he)
        rw [if_neg e121] at he
        by_cases e124 : tx = [115, 111, 109, 101]
        · rw [if_pos e124] at he
          subst e124
          exact operand_word w p l s s' n 124 hx h tk tv tl tc _ HT h34 h0 (Lib.hid fun w b hm => piece_124 hm) (run_enter Tryd.func124 (by kernel_rfl) rfl) (Lib.hid fun W4 hu hx4 hR4 => some_calls W4 p l s s' n (formulaP l (operandP l d)) hx4 hR4 hd hk0 (hfm.upto hu) he)
        rw [if_neg e124] at he
        by_cases e126 : tx = [101, 118, 101, 114, 121]
        · rw [if_pos e126] at he
          subst e126
          exact operand_word w p l s s' n 126 hx h tk tv tl tc _ HT h34 h0 (Lib.hid fun w b hm => piece_126 hm) (run_enter Tryd.func126 (by kernel_rfl) rfl) (Lib.hid fun W4 hu hx4 hR4 => every_calls W4 p l s s' n (formulaP l (operandP l d)) hx4 hR4 hd hk0 (hfm.upto hu) he)
        rw [if_neg e126] at he
        by_cases e127 : tx = [40]
        · rw [if_pos e127] at he
          subst e127
          exact operand_word w p l s s' n 127 hx h tk tv tl tc _ HT h34 h0 (Lib.hid fun w b hm => piece_127 hm) (run_enter Tryd.func127 (by kernel_rfl) rfl) (Lib.hid fun W4 hu hx4 hR4 => paren_calls W4 p l s s' n (formulaP l (operandP l d)) hx4 hR4 hd hk0 (hfm.upto hu) he)
        rw [if_neg e127] at he
        exact operand_none w p l s s' n hx h tk tv tl tc tx HT hd h34 (Lib.hid fun w b hm => piece_no hm tx (by omega) (by
          intro q hq e
          simp only [pieceL, List.mem_cons, List.not_mem_nil, or_false] at hq
          rcases hq with rfl | rfl | rfl | rfl | rfl | rfl | rfl | rfl
          · exact e116 (sb_inj e).symm
          · exact e117 (sb_inj e).symm
          · exact e118 (sb_inj e).symm
          · exact e120 (sb_inj e).symm
          · exact e121 (sb_inj e).symm
          · exact e124 (sb_inj e).symm
          · exact e126 (sb_inj e).symm
          · exact e127 (sb_inj e).symm)) he
      · rw [if_neg (fun hh => h0 hh.2)] at he
        by_cases e116 : tx = [116, 114, 117, 101]
        · subst e116
          exact operand_err w p l s s' n 116 hx h tk tv tl tc _ HT hd h34 h0 (Lib.hid fun w b hm => piece_116 hm) he
        by_cases e117 : tx = [102, 97, 108, 115, 101]
        · subst e117
          exact operand_err w p l s s' n 117 hx h tk tv tl tc _ HT hd h34 h0 (Lib.hid fun w b hm => piece_117 hm) he
        by_cases e118 : tx = [115, 105, 122, 101]
        · subst e118
          exact operand_err w p l s s' n 118 hx h tk tv tl tc _ HT hd h34 h0 (Lib.hid fun w b hm => piece_118 hm) he
        by_cases e120 : tx = [111, 110, 101]
        · subst e120
          exact operand_err w p l s s' n 120 hx h tk tv tl tc _ HT hd h34 h0 (Lib.hid fun w b hm => piece_120 hm) he
        by_cases e121 : tx = [110, 111, 116]
        · subst e121
          exact operand_err w p l s s' n 121 hx h tk tv tl tc _ HT hd h34 h0 (Lib.hid fun w b hm => piece_121 hm) he
        by_cases e124 : tx = [115, 111, 109, 101]
        · subst e124
          exact operand_err w p l s s' n 124 hx h tk tv tl tc _ HT hd h34 h0 (Lib.hid fun w b hm => piece_124 hm) he
        by_cases e126 : tx = [101, 118, 101, 114, 121]
        · subst e126
          exact operand_err w p l s s' n 126 hx h tk tv tl tc _ HT hd h34 h0 (Lib.hid fun w b hm => piece_126 hm) he
        by_cases e127 : tx = [40]
        · subst e127
          exact operand_err w p l s s' n 127 hx h tk tv tl tc _ HT hd h34 h0 (Lib.hid fun w b hm => piece_127 hm) he
        exact operand_none w p l s s' n hx h tk tv tl tc tx HT hd h34 (Lib.hid fun w b hm => piece_no hm tx (by omega) (by
          intro q hq e
          simp only [pieceL, List.mem_cons, List.not_mem_nil, or_false] at hq
          rcases hq with rfl | rfl | rfl | rfl | rfl | rfl | rfl | rfl
          · exact e116 (sb_inj e).symm
          · exact e117 (sb_inj e).symm
          · exact e118 (sb_inj e).symm
          · exact e120 (sb_inj e).symm
          · exact e121 (sb_inj e).symm
          · exact e124 (sb_inj e).symm
          · exact e126 (sb_inj e).symm
          · exact e127 (sb_inj e).symm)) he
    · rw [if_neg (fun hh => h34 hh.1)] at he
      exact operand_other w p l s s' n hx h tk tv tl tc tx HT hd (by omega) (by omega) he

/-- formula, at the outermost level -/
theorem whole_calls (p : Nat) (l : List Tok) (htx : ∀ t ∈ l, t.text.length ≤ 65536) (w : World) (s : PS) (n : Nd) (s' : PS) (hx : Cx w p l) (h : RdAt w p l s) (hd : s.dp ≤ 256) (he : wholeP l s = some (n, s')) : Calls Tryd.prog 52 #[.pointer (some ⟨p, 0, none⟩)] w (RdPost w p l s n s') := by
  have hop : Rdr w p l 103 #[.pointer (some ⟨p, 0, none⟩)] (operandP l 257) := fun w1 s1 n1 s2 hu hR hd1 he1 => operand_calls p l htx 257 w1 s1 n1 s2 (hx.upto hu) hR hd1 he1
  have him : Rdr w p l 76 #[.pointer (some ⟨p, 0, none⟩)] (impliesP l (operandP l 257)) := fun w1 s1 n1 s2 hu hR hd1 he1 => implies_calls w1 p l s1 s2 n1 (operandP l 257) (hx.upto hu) hR hd1 (hop.upto hu) he1
  exact formula_calls w p l s s' n (operandP l 257) hx h hd him he
end Go.Proofs.YtkhbpebpljdifaaDoor


namespace Go.Proofs.YtkhbpebpljdifaaDoor
open Go.RowKit Go.PL Go.Maps

theorem sizes_len : ∀ l : List Nd, l.length ≤ sizesF l
  | [] => by simp
  | x :: xs => by have := sizes_len xs; have := sizeF_pos x; simp only [List.length_cons, sizesF]; omega
set_option maxRecDepth 100000 in
set_option maxHeartbeats 6400000 in
theorem sizeN_calls : ∀ (k : Nat) (nd : Nd), sizeF nd ≤ k → k ≤ 10000000 → ∀ (v : Value) (w : World) (P : Nat → Prop), NdV w P nd v → Calls Tryd.prog 90 #[v] w fun e w' => e = .returned (.int .i64 (sizeF nd)) ∧ Upto [] w w'
  | 0, nd, hk, _, _, _, _, _ => by have := sizeF_pos nd; omega
  | k + 1, .mk op nms so nn mm l, hk, hk7, v, w, P, h => by
    unfold NdV at h
    obtain ⟨vn, vl, rfl, h1, h2⟩ := h
    obtain ⟨n1, n3, rfl⟩ := h1.len
    obtain ⟨av, cv, hvl, hg⟩ : ∃ av cv, vl = .slice av l.length cv ∧ ∀ i x, l[i]? = some x → ∃ g o v0 v1 v2 v3 v4 v5, av = some ⟨g, o, none⟩ ∧ w.cell? ⟨g, o + i * 6, none⟩ = some v0 ∧ w.cell? ⟨g, o + i * 6 + 1, none⟩ = some v1 ∧ w.cell? ⟨g, o + i * 6 + 2, none⟩ = some v2 ∧ w.cell? ⟨g, o + i * 6 + 3, none⟩ = some v3 ∧ w.cell? ⟨g, o + i * 6 + 4, none⟩ = some v4 ∧ w.cell? ⟨g, o + i * 6 + 5, none⟩ = some v5 ∧ NdV w P x (.agg #[v0, v1, v2, v3, v4, v5]) := by
      rcases h2 with ⟨rfl, a, c, rfl⟩ | ⟨g, o, c, rfl, -, h3⟩
      · exact ⟨a, c, rfl, fun i x h => by simp at h⟩
      · exact ⟨_, c, rfl, fun i x hi => by
          obtain ⟨v0, v1, v2, v3, v4, v5, h⟩ := h3.get l o i x hi
          exact ⟨g, o, v0, v1, v2, v3, v4, v5, rfl, h⟩⟩
    subst hvl
    have HG := Lib.hid hg
    have hsz : sizesF l ≤ k := by simp only [sizeF] at hk; omega
    have HSZ := Lib.hid hsz
    have HE : Hid (sizeF (.mk op nms so nn mm l) = 1 + sizesF l) := Lib.hid (by simp only [sizeF])
    have HLEN : Hid (l.length ≤ 10000000) := Lib.hid (by have := sizes_len l; omega)
    have hlen := HLEN.out
    generalize hll : l.length = ll at *
    have HLL := Lib.hid hll
    have hL0 : (0 : Int) ≤ ll := by omega
    have hL1 : (ll : Int) ≤ 10000000 := by omega
    clear h1 h2 hg hsz hll hlen hk
    go_enter Tryd.func90, Tryd.ntmps90
    go_wp2_with fail
    go_loopw [3, 9] (fun s i wr => ∃ j : Nat, j ≤ ll ∧ i = .int .i64 j ∧ s = .int .i64 (1 + (sizesF (l.take j) : Int)) ∧ Hid (Upto [] w wr)) (fun _ i _ => ll - (intOf i).toNat)
    case atStart => exact ⟨0, by omega, rfl, by simp [sizesF], Lib.hid ((Upto.refl [] w).alloc _)⟩
    case round =>
      obtain ⟨j, hj, rfl, rfl, HU⟩ := hrel
      rcases Nat.lt_or_ge j ll with hlt | hge
      · obtain ⟨x, hx⟩ : ∃ x, l[j]? = some x := ⟨_, List.getElem?_eq_getElem (by have := HLL.out; omega)⟩
        obtain ⟨g, o, v0, v1, v2, v3, v4, v5, rfl, c0, c1, c2, c3, c4, c5, hnx⟩ := HG.out j x hx
        obtain ⟨xo, xn1, xn2, xn3, xs, xm, xq, xl1, xl2, xl3, hsix⟩ := hnx.six
        simp only [Value.agg.injEq, Array.mk.injEq, List.cons.injEq, and_true] at hsix
        obtain ⟨rfl, rfl, rfl, rfl, rfl, rfl⟩ := hsix
        have hlb := World.block_lt_of_cell? w _ c0
        replace c0 := (HU.out.cell (p := ⟨g, o + j * 6, none⟩) hlb (by simp)).trans c0
        replace c1 := (HU.out.cell (p := ⟨g, o + j * 6 + 1, none⟩) hlb (by simp)).trans c1
        replace c2 := (HU.out.cell (p := ⟨g, o + j * 6 + 2, none⟩) hlb (by simp)).trans c2
        replace c3 := (HU.out.cell (p := ⟨g, o + j * 6 + 3, none⟩) hlb (by simp)).trans c3
        replace c4 := (HU.out.cell (p := ⟨g, o + j * 6 + 4, none⟩) hlb (by simp)).trans c4
        replace c5 := (HU.out.cell (p := ⟨g, o + j * 6 + 5, none⟩) hlb (by simp)).trans c5
        have hst := sizesF_take l j x hx
        have HST := Lib.hid hst
        have hua : Upto [] wr (wr.alloc (.cells #[.int .i64 xo, .slice xn1 xn2 xn3, .int .i64 xs, .int .i64 xm, .int .i64 xq, .slice xl1 xl2 xl3] 59)) := (Upto.refl [] wr).alloc _
        have HC := Lib.hid (sizeN_calls k x (by have := HSZ.out; omega) (by omega) _ (wr.alloc (.cells #[.int .i64 xo, .slice xn1 xn2 xn3, .int .i64 xs, .int .i64 xm, .int .i64 xq, .slice xl1 xl2 xl3] 59)) P ((hnx.ext HU.out).ext hua))
        have HUA := Lib.hid (HU.out.trans_ext hua)
        have hltI : (j : Int) < ll := by omega
        have hj0 : (0 : Int) ≤ j := by omega
        have hb1 := HSZ.out
        have hb2 := sizeF_pos x
        have hb3 := depth_le_size x
        have hb4 := depths_le_sizes (l.take j)
        generalize hA : sizesF (l.take j) = A at *
        generalize hB : sizeF x = B at *
        have hA0 : (0 : Int) ≤ A := by omega
        have hA1 : (A : Int) ≤ 10000000 := by omega
        have hB0 : (0 : Int) ≤ B := by omega
        have hB1 : (B : Int) ≤ 10000000 := by omega
        have HAB := Lib.hid (And.intro hA hB)
        clear hst hua hnx hlb hx hb1 hb2 hb3 hb4 hA hB
        go_wp2_with fail
        refine HC.out.mono ?_
        rintro e w5 ⟨rfl, hu5⟩
        have HU5 := Lib.hid (HUA.out.trans_ext hu5)
        clear hu5
        go_wp2_with fail
        go_roundw
        case rel => exact ⟨j + 1, by omega, by go_num, by rw [HST.out.1]; congr 1; omega, HU5⟩
        case measure => simp [intOf]; omega
      · obtain rfl : j = ll := by omega
        have hgeI : (j : Int) ≥ j := by omega
        have HT : Hid (l.take j = l) := Lib.hid (by rw [← HLL.out, List.take_length])
        rw [HT.out]
        have hq1 := HSZ.out
        have hq2 := depths_le_sizes l
        generalize hA : sizesF l = A at *
        have hA0 : (0 : Int) ≤ A := by omega
        have hA1 : (A : Int) ≤ 10000000 := by omega
        have HA := Lib.hid hA
        clear hq1 hq2 hA
        go_wp2
        go_ret
        exact ⟨by rw [HE.out]; exact ret_int (by omega), HU.out⟩

set_option maxRecDepth 100000 in
set_option maxHeartbeats 6400000 in
theorem depthN_calls : ∀ (k : Nat) (nd : Nd), sizeF nd ≤ k → k ≤ 10000000 → ∀ (v : Value) (w : World) (P : Nat → Prop), NdV w P nd v → Calls Tryd.prog 91 #[v] w fun e w' => e = .returned (.int .i64 (depthF nd)) ∧ Upto [] w w'
  | 0, nd, hk, _, _, _, _, _ => by have := sizeF_pos nd; omega
  | k + 1, .mk op nms so nn mm l, hk, hk7, v, w, P, h => by
    unfold NdV at h
    obtain ⟨vn, vl, rfl, h1, h2⟩ := h
    obtain ⟨n1, n3, rfl⟩ := h1.len
    obtain ⟨av, cv, hvl, hg⟩ : ∃ av cv, vl = .slice av l.length cv ∧ ∀ i x, l[i]? = some x → ∃ g o v0 v1 v2 v3 v4 v5, av = some ⟨g, o, none⟩ ∧ w.cell? ⟨g, o + i * 6, none⟩ = some v0 ∧ w.cell? ⟨g, o + i * 6 + 1, none⟩ = some v1 ∧ w.cell? ⟨g, o + i * 6 + 2, none⟩ = some v2 ∧ w.cell? ⟨g, o + i * 6 + 3, none⟩ = some v3 ∧ w.cell? ⟨g, o + i * 6 + 4, none⟩ = some v4 ∧ w.cell? ⟨g, o + i * 6 + 5, none⟩ = some v5 ∧ NdV w P x (.agg #[v0, v1, v2, v3, v4, v5]) := by
      rcases h2 with ⟨rfl, a, c, rfl⟩ | ⟨g, o, c, rfl, -, h3⟩
      · exact ⟨a, c, rfl, fun i x h => by simp at h⟩
      · exact ⟨_, c, rfl, fun i x hi => by
          obtain ⟨v0, v1, v2, v3, v4, v5, h⟩ := h3.get l o i x hi
          exact ⟨g, o, v0, v1, v2, v3, v4, v5, rfl, h⟩⟩
    subst hvl
    have HG := Lib.hid hg
    have hsz : sizesF l ≤ k := by simp only [sizeF] at hk; omega
    have HSZ := Lib.hid hsz
    have HE : Hid (depthF (.mk op nms so nn mm l) = depthsF l + 1) := Lib.hid (by simp only [depthF])
    have HLEN : Hid (l.length ≤ 10000000) := Lib.hid (by have := sizes_len l; omega)
    have hlen := HLEN.out
    generalize hll : l.length = ll at *
    have HLL := Lib.hid hll
    have hL0 : (0 : Int) ≤ ll := by omega
    have hL1 : (ll : Int) ≤ 10000000 := by omega
    clear h1 h2 hg hsz hll hlen hk
    go_enter Tryd.func91, Tryd.ntmps91
    go_wp2_with fail
    go_loopw [3, 9] (fun s i wr => ∃ j : Nat, j ≤ ll ∧ i = .int .i64 j ∧ s = .int .i64 ((depthsF (l.take j) : Int)) ∧ Hid (Upto [] w wr)) (fun _ i _ => ll - (intOf i).toNat)
    case atStart => exact ⟨0, by omega, rfl, by simp [depthsF], Lib.hid ((Upto.refl [] w).alloc _)⟩
    case round =>
      obtain ⟨j, hj, rfl, rfl, HU⟩ := hrel
      rcases Nat.lt_or_ge j ll with hlt | hge
      · obtain ⟨x, hx⟩ : ∃ x, l[j]? = some x := ⟨_, List.getElem?_eq_getElem (by have := HLL.out; omega)⟩
        obtain ⟨g, o, v0, v1, v2, v3, v4, v5, rfl, c0, c1, c2, c3, c4, c5, hnx⟩ := HG.out j x hx
        obtain ⟨xo, xn1, xn2, xn3, xs, xm, xq, xl1, xl2, xl3, hsix⟩ := hnx.six
        simp only [Value.agg.injEq, Array.mk.injEq, List.cons.injEq, and_true] at hsix
        obtain ⟨rfl, rfl, rfl, rfl, rfl, rfl⟩ := hsix
        have hlb := World.block_lt_of_cell? w _ c0
        replace c0 := (HU.out.cell (p := ⟨g, o + j * 6, none⟩) hlb (by simp)).trans c0
        replace c1 := (HU.out.cell (p := ⟨g, o + j * 6 + 1, none⟩) hlb (by simp)).trans c1
        replace c2 := (HU.out.cell (p := ⟨g, o + j * 6 + 2, none⟩) hlb (by simp)).trans c2
        replace c3 := (HU.out.cell (p := ⟨g, o + j * 6 + 3, none⟩) hlb (by simp)).trans c3
        replace c4 := (HU.out.cell (p := ⟨g, o + j * 6 + 4, none⟩) hlb (by simp)).trans c4
        replace c5 := (HU.out.cell (p := ⟨g, o + j * 6 + 5, none⟩) hlb (by simp)).trans c5
        have hst := sizesF_take l j x hx
        have HST := Lib.hid hst
        have HXX := Lib.hid hx
        have hua : Upto [] wr (wr.alloc (.cells #[.int .i64 xo, .slice xn1 xn2 xn3, .int .i64 xs, .int .i64 xm, .int .i64 xq, .slice xl1 xl2 xl3] 59)) := (Upto.refl [] wr).alloc _
        have HC := Lib.hid (depthN_calls k x (by have := HSZ.out; omega) (by omega) _ (wr.alloc (.cells #[.int .i64 xo, .slice xn1 xn2 xn3, .int .i64 xs, .int .i64 xm, .int .i64 xq, .slice xl1 xl2 xl3] 59)) P ((hnx.ext HU.out).ext hua))
        have HUA := Lib.hid (HU.out.trans_ext hua)
        have hltI : (j : Int) < ll := by omega
        have hj0 : (0 : Int) ≤ j := by omega
        have hb1 := HSZ.out
        have hb2 := sizeF_pos x
        have hb3 := depth_le_size x
        have hb4 := depths_le_sizes (l.take j)
        generalize hA : depthsF (l.take j) = A at *
        generalize hB : depthF x = B at *
        have hA0 : (0 : Int) ≤ A := by omega
        have hA1 : (A : Int) ≤ 10000000 := by omega
        have hB0 : (0 : Int) ≤ B := by omega
        have hB1 : (B : Int) ≤ 10000000 := by omega
        have HAB := Lib.hid (And.intro hA hB)
        clear hst hua hnx hlb hx hb1 hb2 hb3 hb4 hA hB
        have HMX : Hid (depthsF (l.take (j + 1)) = max A B) := Lib.hid (by rw [depthsF_take l j x HXX.out, HAB.out.1, HAB.out.2])
        rcases Nat.lt_or_ge A B with hab | hab
        · have habI : (A : Int) < B := by omega
          have hmx : max (A : Int) B = B := by omega
          go_wp2_with fail
          refine HC.out.mono ?_
          rintro e w5 ⟨rfl, hu5⟩
          have HU5 := Lib.hid (HUA.out.trans_ext hu5)
          clear hu5
          go_wp2_with fail
          go_roundw
          case rel => exact ⟨j + 1, by omega, by go_num, by rw [HMX.out]; first | rfl | (congr 1; omega), HU5⟩
          case measure => simp [intOf]; omega
        · have habI : (B : Int) ≤ A := by omega
          have hmx : max (A : Int) B = A := by omega
          go_wp2_with fail
          refine HC.out.mono ?_
          rintro e w5 ⟨rfl, hu5⟩
          have HU5 := Lib.hid (HUA.out.trans_ext hu5)
          clear hu5
          go_wp2_with fail
          go_roundw
          case rel => exact ⟨j + 1, by omega, by go_num, by rw [HMX.out]; first | rfl | (congr 1; omega), HU5⟩
          case measure => simp [intOf]; omega
      · obtain rfl : j = ll := by omega
        have hgeI : (j : Int) ≥ j := by omega
        have HT : Hid (l.take j = l) := Lib.hid (by rw [← HLL.out, List.take_length])
        rw [HT.out]
        have hq1 := HSZ.out
        have hq2 := depths_le_sizes l
        generalize hA : depthsF l = A at *
        have hA0 : (0 : Int) ≤ A := by omega
        have hA1 : (A : Int) ≤ 10000000 := by omega
        have HA := Lib.hid hA
        clear hq1 hq2 hA
        go_wp2
        go_ret
        exact ⟨by rw [HE.out]; exact ret_int (by omega), HU.out⟩

set_option maxRecDepth 100000 in
set_option maxHeartbeats 6400000 in
theorem great_calls (nd : Nd) (v : Value) (w : World) (P : Nat → Prop) (h : NdV w P nd v) (hk : sizeF nd ≤ 10000000) : Calls Tryd.prog 74 #[v] w fun e w' => e = .returned (.int .i64 (greatF nd)) ∧ Upto [] w w' := by
  obtain ⟨xo, xn1, xn2, xn3, xs, xm, xq, xl1, xl2, xl3, rfl⟩ := h.six
  have hua : Upto [] w (w.alloc (.cells #[.int .i64 xo, .slice xn1 xn2 xn3, .int .i64 xs, .int .i64 xm, .int .i64 xq, .slice xl1 xl2 xl3] 59)) := (Upto.refl [] w).alloc _
  have HS := Lib.hid (sizeN_calls _ nd hk (Nat.le_refl _) _ _ P (h.ext hua))
  have HN := Lib.hid h
  have HUA := Lib.hid hua
  have HNB := Lib.hid (new_at w (.cells #[.int .i64 xo, .slice xn1 xn2 xn3, .int .i64 xs, .int .i64 xm, .int .i64 xq, .slice xl1 xl2 xl3] 59))
  have hd := depth_le_size nd
  clear h hua
  by_cases h1 : 4096 < sizeF nd
  · have hI : (4096 : Int) < sizeF nd := by omega
    have HE : Hid (greatF nd = 8) := Lib.hid (by unfold greatF; rw [if_pos h1])
    go_enter Tryd.func74, Tryd.ntmps74
    go_wp2_with fail
    refine HS.out.mono ?_
    rintro e w2 ⟨rfl, hu2⟩
    have HU2 := Lib.hid (HUA.out.trans_ext hu2)
    clear hu2
    go_wp2_with fail
    go_ret
    exact ⟨by rw [HE.out]; rfl, HU2.out⟩
  · have hI : ¬ (4096 : Int) < sizeF nd := by omega
    have hI2 : (sizeF nd : Int) ≤ 4096 := by omega
    by_cases h2 : 256 < depthF nd
    · have hJ : (256 : Int) < depthF nd := by omega
      have HE : Hid (greatF nd = 16) := Lib.hid (by unfold greatF; rw [if_neg h1, if_pos h2])
      go_enter Tryd.func74, Tryd.ntmps74
      go_wp2_with fail
      refine HS.out.mono ?_
      rintro e w2 ⟨rfl, hu2⟩
      have hb2 := hu2.at HNB.out (by simp)
      have x0 := cell_of hb2 0
      have x1 := cell_of hb2 1
      have x2 := cell_of hb2 2
      have x3 := cell_of hb2 3
      have x4 := cell_of hb2 4
      have x5 := cell_of hb2 5
      have y0 := free_of hb2 0
      have y1 := free_of hb2 1
      have y2 := free_of hb2 2
      have y3 := free_of hb2 3
      have y4 := free_of hb2 4
      have y5 := free_of hb2 5
      simp only [List.getElem?_toArray, List.getElem?_cons_zero, List.getElem?_cons_succ] at x0 x1 x2 x3 x4 x5
      have HU2 := Lib.hid (HUA.out.trans_ext hu2)
      have HD := Lib.hid (depthN_calls _ nd hk (Nat.le_refl _) _ w2 P (HN.out.ext HU2.out))
      clear hu2 hb2
      go_wp2_with fail
      refine HD.out.mono ?_
      rintro e w3 ⟨rfl, hu3⟩
      have HU3 := Lib.hid (HU2.out.trans_ext hu3)
      clear hu3
      go_wp2_with fail
      go_ret
      exact ⟨by rw [HE.out]; rfl, HU3.out⟩
    · have hJ : ¬ (256 : Int) < depthF nd := by omega
      have hJ2 : (depthF nd : Int) ≤ 256 := by omega
      have HE : Hid (greatF nd = 0) := Lib.hid (by unfold greatF; rw [if_neg h1, if_neg h2])
      go_enter Tryd.func74, Tryd.ntmps74
      go_wp2_with fail
      refine HS.out.mono ?_
      rintro e w2 ⟨rfl, hu2⟩
      have hb2 := hu2.at HNB.out (by simp)
      have x0 := cell_of hb2 0
      have x1 := cell_of hb2 1
      have x2 := cell_of hb2 2
      have x3 := cell_of hb2 3
      have x4 := cell_of hb2 4
      have x5 := cell_of hb2 5
      have y0 := free_of hb2 0
      have y1 := free_of hb2 1
      have y2 := free_of hb2 2
      have y3 := free_of hb2 3
      have y4 := free_of hb2 4
      have y5 := free_of hb2 5
      simp only [List.getElem?_toArray, List.getElem?_cons_zero, List.getElem?_cons_succ] at x0 x1 x2 x3 x4 x5
      have HU2 := Lib.hid (HUA.out.trans_ext hu2)
      have HD := Lib.hid (depthN_calls _ nd hk (Nat.le_refl _) _ w2 P (HN.out.ext HU2.out))
      clear hu2 hb2
      go_wp2_with fail
      refine HD.out.mono ?_
      rintro e w3 ⟨rfl, hu3⟩
      have HU3 := Lib.hid (HU2.out.trans_ext hu3)
      clear hu3
      go_wp2_with fail
      go_ret
      exact ⟨by rw [HE.out]; rfl, HU3.out⟩
end Go.Proofs.YtkhbpebpljdifaaDoor


namespace Go.Proofs.YtkhbpebpljdifaaDoor
open Go.RowKit Go.PL Go.Maps

/-- a free variable's cells -/
def varC (o : List UInt8 × Int) : List Value := [.string ⟨o.1.toArray⟩, .int .i64 o.2]
theorem vars_at {l : List (List UInt8 × Int)} {i : Nat} {x : List UInt8 × Int} (h : l[i]? = some x) : (l.flatMap varC)[i * 2]? = some (.string ⟨x.1.toArray⟩) ∧ (l.flatMap varC)[i * 2 + 1]? = some (.int .i64 x.2) :=
  ⟨flatMap_at varC 2 (fun _ => rfl) l i 0 x h (by decide), flatMap_at varC 2 (fun _ => rfl) l i 1 x h (by decide)⟩

set_option maxRecDepth 100000 in
set_option maxHeartbeats 1600000 in
theorem free1_calls (a tx : List UInt8) (q : Int) (tk tv tl tc Bt : Nat) (w : World) (hb : w.heap[Bt]? = some (.cells #[.int .i64 tk, .string ⟨tx.toArray⟩, .int .i64 tv, .int .i64 tl, .int .i64 tc] 36 (0, 0))) : Calls Tryd.prog 80 #[.agg #[.string ⟨a.toArray⟩, .int .i64 q], .pointer (some ⟨Bt, 0, none⟩)] w fun e w' => e = .returned (.bool (decide (a = tx))) ∧ Upto [] w w' := by
  have hu : Upto [] w (w.alloc (.cells #[.string ⟨a.toArray⟩, .int .i64 q] 92)) := (Upto.refl [] w).alloc _
  have c1 := cell_of (hu.at hb (by simp)) 1
  simp only [List.getElem?_toArray, List.getElem?_cons_zero, List.getElem?_cons_succ] at c1
  by_cases h : a = tx
  · have k1 : (a == tx) = true := by simp [h]
    have HE : Hid (decide (a = tx) = true) := Lib.hid (by simp [h])
    clear h hb
    go_enter Tryd.func80, Tryd.ntmps80
    go_wp2_with fail
    go_ret
    exact ⟨by rw [HE.out]; rfl, hu⟩
  · have k1 : (a == tx) = false := by simp [h]
    have HE : Hid (decide (a = tx) = false) := Lib.hid (by simp [h])
    clear h hb
    go_enter Tryd.func80, Tryd.ntmps80
    go_wp2_with fail
    go_ret
    exact ⟨by rw [HE.out]; rfl, hu⟩

set_option maxRecDepth 100000 in
set_option maxHeartbeats 3200000 in
theorem index_calls (out : List (List UInt8 × Int)) (tx : List UInt8) (tk tv tl tc Bt : Nat) (v : Value) (w : World) (hl : out.length ≤ 1000000) (hr : w.ownsRow 0 92 2 v out.length (out.flatMap varC)) (hb : w.heap[Bt]? = some (.cells #[.int .i64 tk, .string ⟨tx.toArray⟩, .int .i64 tv, .int .i64 tl, .int .i64 tc] 36 (0, 0))) :
    Calls Tryd.prog 95 #[v, .func (.func 80) #[] #[.pointer (some ⟨Bt, 0, none⟩)]] w fun e w' => (∃ z : Int, e = .returned (.int .i64 z) ∧ (0 ≤ z ↔ (out.any fun o => decide (o.1 = tx)) = true)) ∧ Upto [] w w' := by
  obtain ⟨va, vc, rfl, hva⟩ := ownsRow_len hr
  have hg : Hid (∀ i x, out[i]? = some x → ∃ g, va = some ⟨g, 0, none⟩ ∧ w.cell? ⟨g, i * 2, none⟩ = some (.string ⟨x.1.toArray⟩) ∧ w.cell? ⟨g, i * 2 + 1, none⟩ = some (.int .i64 x.2)) := Lib.hid (by
    intro i x hi
    have hin := (List.getElem?_eq_some_iff.1 hi).1
    rcases hr.2 with ⟨h1, h2⟩ | ⟨g, cap, cur, h1, _, hh, _, _, _, ht⟩
    · omega
    · simp at h1
      obtain ⟨rfl, rfl⟩ := h1
      have h2 := vars_at hi
      rw [← ht] at h2
      refine ⟨g, rfl, ?_, ?_⟩
      · rw [cell_of hh]
        have := h2.1
        rw [List.getElem?_take] at this
        split at this
        · simpa using this
        · cases this
      · rw [cell_of hh]
        have := h2.2
        rw [List.getElem?_take] at this
        split at this
        · simpa using this
        · cases this)
  have HB := Lib.hid hb
  clear hr hb hva
  generalize hll : out.length = ll at *
  have HLL := Lib.hid hll
  have hL0 : (0 : Int) ≤ ll := by omega
  have hL1 : (ll : Int) ≤ 1000000 := by omega
  clear hll
  go_enter Tryd.func95, Tryd.ntmps95
  go_wp2_with fail
  go_loopw [8] (fun i wr => ∃ j : Nat, j ≤ ll ∧ i = .int .i64 j ∧ Hid (Upto [] w wr ∧ ((out.take j).any fun o => decide (o.1 = tx)) = false)) (fun i _ => ll - (intOf i).toNat)
  case atStart => exact ⟨0, by omega, rfl, Lib.hid ⟨Upto.refl _ _, by simp⟩⟩
  case round =>
    obtain ⟨j, hj, rfl, HI⟩ := hrel
    rcases Nat.lt_or_ge j ll with hlt | hge
    · obtain ⟨x, hx⟩ : ∃ x, out[j]? = some x := ⟨_, List.getElem?_eq_getElem (by have := HLL.out; omega)⟩
      obtain ⟨g, rfl, c0, c1⟩ := hg.out j x hx
      have hlb := World.block_lt_of_cell? w _ c0
      replace c0 := (HI.out.1.cell (p := ⟨g, j * 2, none⟩) hlb (by simp)).trans c0
      replace c1 := (HI.out.1.cell (p := ⟨g, j * 2 + 1, none⟩) hlb (by simp)).trans c1
      have HC := Lib.hid (free1_calls x.1 tx x.2 tk tv tl tc Bt wr (HI.out.1.at HB.out (by simp)))
      have HS : Hid ((out.take (j + 1)).any (fun o => decide (o.1 = tx)) = decide (x.1 = tx)) := Lib.hid (by
        obtain ⟨h1, h2⟩ := List.getElem?_eq_some_iff.1 hx
        rw [List.take_succ_eq_append_getElem h1, List.any_append, HI.out.2, h2]
        simp)
      have HX := Lib.hid hx
      have hltI : (j : Int) < ll := by omega
      have hj0 : (0 : Int) ≤ j := by omega
      clear hx hlb
      cases hd : decide (x.1 = tx) with
      | true =>
        rw [hd] at HC HS
        have HANY : Hid ((out.any fun o => decide (o.1 = tx)) = true) := Lib.hid (by
          rw [List.any_eq_true]
          exact ⟨x, List.mem_of_getElem? HX.out, hd⟩)
        clear hd
        go_wp2_with fail
        refine HC.out.mono ?_
        rintro e w5 ⟨rfl, hu5⟩
        have HU5 := Lib.hid (HI.out.1.trans_ext hu5)
        clear hu5
        go_wp2_with fail
        go_ret
        exact ⟨⟨(j : Int), rfl, by rw [HANY.out]; simp⟩, HU5.out⟩
      | false =>
        rw [hd] at HC HS
        clear hd
        go_wp2_with fail
        refine HC.out.mono ?_
        rintro e w5 ⟨rfl, hu5⟩
        have HU5 := Lib.hid (HI.out.1.trans_ext hu5)
        clear hu5
        go_wp2_with fail
        go_roundw
        case rel => exact ⟨j + 1, by omega, by go_num, Lib.hid ⟨HU5.out, HS.out⟩⟩
        case measure => simp [intOf]; omega
    · obtain rfl : j = ll := by omega
      have hgeI : (j : Int) ≥ j := by omega
      have HANY : Hid ((out.any fun o => decide (o.1 = tx)) = false) := Lib.hid (by
        have := HI.out.2
        rwa [← HLL.out, List.take_length] at this)
      go_wp2
      go_ret
      exact ⟨⟨-1, rfl, by rw [HANY.out]; simp⟩, HI.out.1⟩

set_option maxRecDepth 100000 in
set_option maxHeartbeats 1600000 in
theorem contains_calls (out : List (List UInt8 × Int)) (tx : List UInt8) (tk tv tl tc Bt : Nat) (v : Value) (w : World) (hl : out.length ≤ 1000000) (hr : w.ownsRow 0 92 2 v out.length (out.flatMap varC)) (hb : w.heap[Bt]? = some (.cells #[.int .i64 tk, .string ⟨tx.toArray⟩, .int .i64 tv, .int .i64 tl, .int .i64 tc] 36 (0, 0))) :
    Calls Tryd.prog 79 #[v, .func (.func 80) #[] #[.pointer (some ⟨Bt, 0, none⟩)]] w fun e w' => e = .returned (.bool (out.any fun o => decide (o.1 = tx))) ∧ Upto [] w w' := by
  have HC := Lib.hid (index_calls out tx tk tv tl tc Bt v w hl hr hb)
  generalize (out.any fun o => decide (o.1 = tx)) = b at *
  clear hr hb
  go_enter Tryd.func79, Tryd.ntmps79
  go_wp2_with fail
  refine HC.out.mono ?_
  rintro e w2 ⟨⟨z, rfl, hz⟩, hu2⟩
  have HU := Lib.hid hu2
  cases b with
  | true =>
    have h0 : (0 : Int) ≤ z := hz.2 rfl
    clear hz hu2
    go_wp2_with fail
    go_ret
    exact ⟨rfl, HU.out⟩
  | false =>
    have h0 : ¬ (0 : Int) ≤ z := fun h => by have := hz.1 h; cases this
    clear hz hu2
    go_wp2_with fail
    go_ret
    exact ⟨by first | rfl | exact ret_bool (decide_eq_false (by omega)), HU.out⟩
end Go.Proofs.YtkhbpebpljdifaaDoor


namespace Go.Proofs.YtkhbpebpljdifaaDoor
open Go.RowKit Go.PL Go.Maps

/-- what is held while the free variables are read -/
structure FrI (w : World) (p : Nat) (l : List Tok) (s t : PS) (out : List (List UInt8 × Int)) (v : Value) (wr : World) : Prop where
  rd : RdAt wr p l t
  up : Upto [p] w wr
  adv : Adv l s t
  row : wr.ownsRow 0 92 2 v out.length (out.flatMap varC)
  own : ∀ g, v.ownBlock = some g → w.heap.size ≤ g
  ne : p < w.heap.size
theorem FrI.go {w : World} {p : Nat} {l : List Tok} {s t t' : PS} {out : List (List UInt8 × Int)} {v : Value} {wr wr' : World} (h : FrI w p l s t out v wr) (hu : Upto [p] wr wr') (hR : RdAt wr' p l t') (ha : Adv l t t') : FrI w p l s t' out v wr' := by
  have h1 := h.ne
  exact ⟨hR, h.up.trans_same hu, h.adv.trans ha, ownsRow_upto h.row hu (fun g hg => by have := h.own g hg; simp; omega), h.own, h.ne⟩
theorem FrI.set {w : World} {p B : Nat} {l : List Tok} {s t : PS} {out : List (List UInt8 × Int)} {v : Value} {wr wr' : World} (h : FrI w p l s t out v wr) (hu : Upto [B] wr wr') (hB : p < B ∧ w.heap.size ≤ B) (hne : ∀ g, v.ownBlock = some g → g ≠ B) : FrI w p l s t out v wr' :=
  ⟨h.rd.above hu (fun k hk => by simp at hk; omega), h.up.trans hu (fun k hk => Or.inr (by simp at hk; omega)), h.adv, ownsRow_upto h.row hu (fun g hg => by simpa using hne g hg), h.own, h.ne⟩
theorem identR_er {l : List Tok} {s : PS} (h : (identR l s).2.er = 0) : s.er = 0 ∧ (tkAt l s).kind = 1 := by
  unfold identR at h
  by_cases hk : (tkAt l s).kind = 1
  · refine ⟨?_, hk⟩
    simp only [if_pos hk] at h
    by_cases h0 : s.er = 0
    · exact h0
    · simp only [if_neg h0] at h
      exact absurd h h0
  · simp only [if_neg hk, if_neg (wrongF_pos (by decide : (3 : Nat) ≠ 0) s)] at h
    exact absurd h (wrongF_pos (by decide) s)
theorem FrI.app {w : World} {p : Nat} {l : List Tok} {s t : PS} {out : List (List UInt8 × Int)} {v : Value} {wr w5 : World} {x : List UInt8 × Int} {b' : Option Addr} {c' : Nat} {o : Obj} (h : FrI w p l s t out v wr)
    (ho : w5.ownsRow 0 92 2 (.slice b' (out.length + 1) c') (out.length + 1) (out.flatMap varC ++ varC x)) (hu : Upto v.ownBlock.toList (wr.alloc o) w5) (hw : ∀ g, (Value.slice b' (out.length + 1) c').ownBlock = some g → v.ownBlock = some g ∨ (wr.alloc o).heap.size ≤ g) :
    FrI w p l s t (out ++ [x]) (.slice b' (out.length + 1) c') w5 := by
  have hua : Upto [] wr (wr.alloc o) := (Upto.refl [] wr).alloc _
  have hp := h.ne
  have hus := h.up.size
  have hvs : ∀ g ∈ v.ownBlock.toList, w.heap.size ≤ g := fun g hm => h.own g (Option.mem_toList.1 hm)
  refine ⟨(h.rd.ext hua).above hu (fun k hk => by have := hvs k hk; omega), (h.up.trans_ext hua).trans hu (fun k hk => Or.inr (hvs k hk)), h.adv, ?_, fun g hg => ?_, hp⟩
  · rw [List.length_append, List.flatMap_append]
    simpa using ho
  · rcases hw g hg with h1 | h1
    · exact h.own g h1
    · simp at h1; omega
/-- what reading the free variables comes to -/
def VarsV (w : World) (P : Nat → Prop) (v : Value) (out : List (List UInt8 × Int)) : Prop := SlP w P v out.length (out.flatMap varC)
def FrPost (w : World) (p : Nat) (l : List Tok) (s : PS) (r : List (List UInt8 × Int)) (s' : PS) (e : Ending) (w' : World) : Prop :=
  ∃ v, e = .returned v ∧ VarsV w' (New w) v r ∧ RdAt w' p l s' ∧ Upto [p] w w' ∧ Adv l s s'
theorem slP_rowN {w : World} {P : Nat → Prop} {e : TypeId} {z : Nat} {v : Value} {n : Nat} {xs : List Value} (h : w.ownsRow 0 e z v n xs) (hP : ∀ g, v.ownBlock = some g → P g) : SlP w P v n xs := by
  rcases h.2 with ⟨rfl, rfl⟩ | ⟨g, cap, cur, rfl, _, hh, _, _, _, ht⟩
  · exact Or.inl ⟨rfl, List.eq_nil_of_length_eq_zero (by simpa using h.1), none, 0, rfl⟩
  · refine Or.inr ⟨g, 0, cap, rfl, ⟨hP g rfl, _, _, _, hh⟩, ?_⟩
    intro j u hj
    rw [cell_of hh, Nat.zero_add]
    rw [← ht, List.getElem?_take] at hj
    split at hj
    · simpa using hj
    · cases hj
theorem FrI.post {w : World} {p : Nat} {l : List Tok} {s t : PS} {out : List (List UInt8 × Int)} {v : Value} {wr : World} (h : FrI w p l s t out v wr) : FrPost w p l s out t (.returned v) wr := ⟨v, rfl, slP_rowN h.row (fun g hg => h.own g hg), h.rd, h.up, h.adv⟩
theorem info92 : (Tryd.prog.info? 92).map (fun i => (i.zero, i.size, i.bytes)) = some (some (.agg #[.string ⟨#[]⟩, .int .i64 0]), 2, 24) := by kernel_rfl
theorem info92' : ∃ i, Tryd.prog.info? 92 = some i ∧ i.zero = some (.agg #[.string ⟨#[]⟩, .int .i64 0]) ∧ i.size = 2 ∧ i.bytes = 24 := by
  have h := info92
  cases hi : Tryd.prog.info? 92 with
  | none => rw [hi] at h; cases h
  | some i =>
    rw [hi] at h
    simp only [Option.map_some, Option.some.injEq, Prod.mk.injEq] at h
    exact ⟨i, rfl, h.1, h.2.1, h.2.2⟩
theorem two_at {w : World} {g : Nat} {v0 v1 : Value} {t : TypeId} {z : Nat × Nat} (h : w.heap[g]? = some (.cells #[v0, v1] t z)) : ∀ (j : Nat) u, [v0, v1][j]? = some u → w.cell? ((⟨g, 0, none⟩ : Addr).add j) = some u := by
  intro j u hj
  rw [Addr.add_lit, Nat.zero_add, cell_of h]
  simpa using hj

set_option maxRecDepth 100000 in
set_option maxHeartbeats 12800000 in
theorem free_calls (w : World) (p : Nat) (l : List Tok) (s s' : PS) (r : List (List UInt8 × Int)) (hx : Cx w p l) (h : RdAt w p l s) (he : freeP l s = some (r, s')) :
    Calls Tryd.prog 54 #[.pointer (some ⟨p, 0, none⟩)] w (FrPost w p l s r s') := by
  have hlen := hx.len
  have hin := h.inb
  have HF : Hid (Fin l) := Lib.hid h.fin
  have HX := Lib.hid hx
  have hp := h.lt
  have HC := Lib.hid (takes_calls w p l s [102, 105, 110, 100] h hlen)
  unfold freeP at he
  cases hv : isF l [102, 105, 110, 100] s with
  | false =>
    rw [hv] at HC he
    have HT : Hid ((takesF l [102, 105, 110, 100] s).2 = s) := Lib.hid (by unfold takesF; rw [hv]; rfl)
    simp at he
    obtain ⟨rfl, rfl⟩ := he
    clear hv hx h
    go_enter Tryd.func54, Tryd.ntmps54
    go_wp2_with fail
    refine HC.out.mono ?_
    rintro e w1 ⟨rfl, hR1, hu1⟩
    rw [HT.out] at hR1
    have HP := Lib.hid (show FrPost w p l s [] s (.returned (.slice none 0 0)) w1 from ⟨_, rfl, Or.inl ⟨rfl, rfl, none, 0, rfl⟩, hR1, hu1, Adv.refl hin⟩)
    clear hR1 hu1
    go_wp2_with fail
    go_ret
    exact HP.out
  | true =>
    rw [hv] at HC he
    simp only [if_true] at he
    have HT : Hid ((takesF l [102, 105, 110, 100] s).2 = stepF s) := Lib.hid (by unfold takesF; rw [if_pos hv])
    have HA := Lib.hid (Adv.step HF.out hin (isF_ne hv))
    have HE := Lib.hid he
    obtain ⟨i0, hi0, hz0, hz1, hz2⟩ := info92'
    clear hv hx h he
    go_enter Tryd.func54, Tryd.ntmps54
    go_wp2_with fail
    refine HC.out.mono ?_
    rintro e w1 ⟨rfl, hR1, hu1⟩
    rw [HT.out] at hR1
    have HL0 : Hid (∃ k out t v, freeLoop l k out t = some (r, s') ∧ v = .slice none 0 0 ∧ FrI w p l s t out v w1 ∧ out.length ≤ 8) := Lib.hid ⟨_, [], stepF s, _, HE.out, rfl, ⟨hR1, hu1, HA.out, World.ownsRow_nil _ _ _ _, (fun g hg => by cases hg), hp⟩, by simp⟩
    clear hR1 hu1 HC HT HE HA
    go_wp2_with fail
    go_loopw [3] (fun v3 wr => Hid (∃ k out t v, freeLoop l k out t = some (r, s') ∧ v = v3 ∧ FrI w p l s t out v wr ∧ out.length ≤ 8)) (fun _ wr => l.length - nxOf wr p)
    case atStart => exact HL0.out.elim fun k hk => hk.elim fun out ho => ho.elim fun t ht => ht.elim fun v hv => Lib.hid ⟨k, out, t, v, hv.1, hv.2.1, hv.2.2⟩
    case round =>
      obtain ⟨k, out, t, v, hl, rfl, hI, h8⟩ := hrel.out
      obtain ⟨va, vc, rfl, -⟩ := ownsRow_len hI.row
      clear hrel HL0
      cases k with
      | zero => unfold freeLoop at hl; cases hl
      | succ k =>
      unfold freeLoop at hl
      have HI := Lib.hid hI
      have HNX := Lib.hid hI.rd.nx
      obtain ⟨⟨vr, hb, -, -⟩, -, -⟩ := id hI.rd
      have b2 := cell_of hb 2
      unfold rdC at b2
      simp only [List.getElem?_toArray, List.getElem?_cons_zero, List.getElem?_cons_succ] at b2
      clear hb
      by_cases h0 : t.er = 0
      · have k0 : ((t.er : Int) == 0) = true := by simp [h0]
        rw [if_pos h0] at hl
        simp only at hl
        have HS := Lib.hid (sort_calls wr p l t (HX.out.upto hI.up) hI.rd)
        have hx8 : (0 : Int) ≤ out.length := by omega
        have H8 := Lib.hid h8
        obtain ⟨tk, tx, tv, tl, tc, hT⟩ : ∃ tk tx tv tl tc, tkAt l (sortP l t).2 = ⟨tk, tx, tv, tl, tc⟩ := ⟨_, _, _, _, _, rfl⟩
        have HTK := Lib.hid hT
        rw [hT] at hl
        simp only at hl
        clear hI hT
        by_cases h1 : tk = 1
        · have k1 : ((tk : Int) == 1) = true := by simp [h1]
          rw [if_pos h1] at hl
          by_cases h2 : out.length = 8
          · have k2 : ((out.length : Int) == 8) = true := by simp [h2]
            rw [if_pos h2] at hl
            have HL := Lib.hid hl
            clear hl h0 h1 h2
            go_wp2_with fail
            refine HS.out.mono ?_
            rintro e w2 ⟨rfl, hR2, hu2⟩
            have hI2 := HI.out.go hu2 hR2 (sortP_adv HF.out HI.out.rd.inb)
            have hua := (Upto.refl [] w2).alloc (.cells #[.string ⟨#[]⟩, .int .i64 (sortP l t).1] 92)
            have HI2 := Lib.hid (hI2.go (hua.mono (by simp)) (hR2.ext hua) (Adv.refl hI2.rd.inb))
            have HV2 : Hid ((w2.alloc (.cells #[.string ⟨#[]⟩, .int .i64 (sortP l t).1] 92)).heap[w2.heap.size]? = some (.cells #[.string ⟨#[]⟩, .int .i64 (sortP l t).1] 92 (0, 0))) := Lib.hid (new_at _ _)
            have HUW2 : Hid (w.heap.size ≤ w2.heap.size) := Lib.hid hI2.up.size
            have HPV : Hid (p < w2.heap.size) := Lib.hid (by have := hI2.up.size; have := hI2.ne; omega)
            have HOWN : Hid (∀ g, (Value.slice va out.length vc).ownBlock = some g → g ≠ w2.heap.size) := Lib.hid (fun g hg => by
              obtain ⟨cur, hh⟩ := ownsRow_block hI2.row hg
              have := lt_of_heap hh
              omega)
            have HSA := Lib.hid (sortP_adv HF.out HI.out.rd.inb)
            have HN := Lib.hid (next_calls (w2.alloc (.cells #[.string ⟨#[]⟩, .int .i64 (sortP l t).1] 92)) p l (sortP l t).2 HI2.out.rd)
            clear hR2 hu2 hI2 hua HS b2
            go_wp2_with fail
            refine HN.out.mono ?_
            rintro e w3 ⟨rfl, hu3⟩
            rw [HTK.out]
            unfold tkA
            have hub := (Upto.refl [] w3).alloc (.cells #[.int .i64 tk, .string ⟨tx.toArray⟩, .int .i64 tv, .int .i64 tl, .int .i64 tc] 36)
            have HI3 := Lib.hid ((HI2.out.go (hu3.mono (by simp)) (HI2.out.rd.ext hu3) (Adv.refl HI2.out.rd.inb)).go (hub.mono (by simp)) ((HI2.out.rd.ext hu3).ext hub) (Adv.refl HI2.out.rd.inb))
            have HT3 : Hid ((w3.alloc (.cells #[.int .i64 tk, .string ⟨tx.toArray⟩, .int .i64 tv, .int .i64 tl, .int .i64 tc] 36)).heap[w3.heap.size]? = some (.cells #[.int .i64 tk, .string ⟨tx.toArray⟩, .int .i64 tv, .int .i64 tl, .int .i64 tc] 36 (0, 0))) := Lib.hid (new_at _ _)
            have HV3 := Lib.hid (hub.at (hu3.at HV2.out (by simp)) (by simp))
            clear hu3 hub HN HV2
            go_wp2_with fail
            refine (wrong_calls _ p 8 l (sortP l t).2 HI3.out.rd).mono ?_
            rintro e w4 ⟨rfl, hR4, hu4⟩
            have HI4 := Lib.hid (HI3.out.go hu4 hR4 (Adv.wrong HI3.out.rd.inb 8))
            have HV4 := Lib.hid (hu4.at HV3.out (by have := HPV.out; simp; omega))
            clear hR4 hu4
            go_wp2_with fail
            refine (name_calls _ p l (wrongF 8 (sortP l t).2) HI4.out.rd hlen).mono ?_
            rintro e w5 ⟨rfl, hR5, hu5⟩
            have hI5 := HI4.out.go hu5 hR5 (identR_adv HF.out HI4.out.rd.inb).1
            have hv5 := hu5.at HV4.out (by have := HPV.out; simp; omega)
            have ca0 := cell_of hv5 0
            have ca1 := cell_of hv5 1
            have fa0 := free_of hv5 0
            have fa1 := free_of hv5 1
            simp only [List.getElem?_toArray, List.getElem?_cons_zero, List.getElem?_cons_succ] at ca0 ca1
            have hs6 := (Upto.refl [w2.heap.size] w5).setCell (p := ⟨w2.heap.size, 0, none⟩) (Or.inl (by simp)) (.string ⟨(identR l (wrongF 8 (sortP l t).2)).1.toArray⟩)
            have hv6 := set_same hv5 0 (.string ⟨(identR l (wrongF 8 (sortP l t).2)).1.toArray⟩)
            simp only [List.setIfInBounds_toArray, List.set_cons_zero, List.set_cons_succ] at hv6
            have cb0 := cell_of hv6 0
            have cb1 := cell_of hv6 1
            have fb0 := free_of hv6 0
            have fb1 := free_of hv6 1
            simp only [List.getElem?_toArray, List.getElem?_cons_zero, List.getElem?_cons_succ] at cb0 cb1
            have HI6 := Lib.hid (hI5.set hs6 (by have h1 := HPV.out; have h2 := hI5.ne; have h3 := HUW2.out; omega) HOWN.out)
            have hnx : ((w5.setCell ⟨w2.heap.size, 0, none⟩ (.string ⟨(identR l (wrongF 8 (sortP l t).2)).1.toArray⟩)).alloc (.cells #[.string ⟨(identR l (wrongF 8 (sortP l t).2)).1.toArray⟩, .int .i64 (sortP l t).1] 92)).heap[w5.heap.size]? = some (.cells #[.string ⟨(identR l (wrongF 8 (sortP l t).2)).1.toArray⟩, .int .i64 (sortP l t).1] 92 (0, 0)) := by
              have := new_at (w5.setCell ⟨w2.heap.size, 0, none⟩ (.string ⟨(identR l (wrongF 8 (sortP l t).2)).1.toArray⟩)) (.cells #[.string ⟨(identR l (wrongF 8 (sortP l t).2)).1.toArray⟩, .int .i64 (sortP l t).1] 92)
              simpa [World.setCell] using this
            have HNX6 := Lib.hid hnx
            have h8b := H8.out
            clear hR5 hu5 hI5 hv5 hs6 hv6 hnx
            go_wp2_with (at_builtin
                         refine wpList_app _ rfl (.tmp 37) (.tmp 39) 65 rfl 92 i0 (.agg #[.string ⟨#[]⟩, .int .i64 0]) 2 24 Tryd.underlying65 hi0 hz0 hz1 hz2 rfl (by decide) (.slice va out.length vc) out.length (out.flatMap varC) rfl (HI6.out.row.alloc _) ⟨w5.heap.size, 0, none⟩ 1 1 [.string ⟨(identR l (wrongF 8 (sortP l t).2)).1.toArray⟩, .int .i64 (sortP l t).1] rfl rfl (two_at HNX6.out) (by simp [Value.oneCell']) (by unfold maxLen; omega) (by omega) ?_
                         intro b7 c7 w7 ho7 hu7 hw7)
            have HI7 := Lib.hid (FrI.app (x := ((identR l (wrongF 8 (sortP l t).2)).1, (sortP l t).1)) HI6.out ho7 hu7 hw7)
            clear ho7 hu7 hw7
            cases hc : isF l [44] (identR l (wrongF 8 (sortP l t).2)).2 with
            | true =>
              have HC := Lib.hid (takes_calls w7 p l (identR l (wrongF 8 (sortP l t).2)).2 [44] HI7.out.rd hlen)
              rw [hc] at HC
              have hl := HL.out
              rw [hc] at hl
              simp only [if_true] at hl
              have HT : Hid ((takesF l [44] (identR l (wrongF 8 (sortP l t).2)).2).2 = stepF (identR l (wrongF 8 (sortP l t).2)).2) := Lib.hid (by unfold takesF; rw [if_pos hc])
              have HA := Lib.hid (Adv.step HF.out HI7.out.rd.inb (isF_ne hc))
              have HID := Lib.hid ((identR_adv HF.out HI4.out.rd.inb).2 (isF_er hc))
              have H7 : Hid (out.length ≤ 7) := Lib.hid (by
                have he0 := identR_er (isF_er hc)
                exact absurd he0.1 (wrongF_pos (by decide) _))
              have HLL := Lib.hid hl
              clear hc hl
              refine HC.out.mono ?_
              rintro e w8 ⟨rfl, hR8, hu8⟩
              rw [HT.out] at hR8
              have HI8 := Lib.hid (HI7.out.go hu8 hR8 HA.out)
              clear hR8 hu8
              go_wp2_with fail
              refine ⟨Lib.hid ⟨k, out ++ [((identR l (wrongF 8 (sortP l t).2)).1, (sortP l t).1)], stepF (identR l (wrongF 8 (sortP l t).2)).2, _, HLL.out, rfl, HI8.out, by have := H7.out; simp; omega⟩, ?_⟩
              have q1 := HI8.out.rd.nx
              have q2 := HNX.out
              have q3 := HID.out
              have q4 := HI8.out.rd.inb
              have q5 : (stepF (identR l (wrongF 8 (sortP l t).2)).2).nx = (identR l (wrongF 8 (sortP l t).2)).2.nx + 1 := rfl
              have q6 := HSA.out.le
              have q7 := wrongF_nx 8 (sortP l t).2
              rw [q1, q2]
              omega
            | false =>
              have HC := Lib.hid (takes_calls w7 p l (identR l (wrongF 8 (sortP l t).2)).2 [44] HI7.out.rd hlen)
              rw [hc] at HC
              have hl := HL.out
              rw [hc] at hl
              simp only [Bool.false_eq_true, if_false, Option.some.injEq, Prod.mk.injEq] at hl
              have HT : Hid ((takesF l [44] (identR l (wrongF 8 (sortP l t).2)).2).2 = (identR l (wrongF 8 (sortP l t).2)).2) := Lib.hid (by unfold takesF; rw [hc]; rfl)
              obtain ⟨rfl, rfl⟩ := hl
              clear hc
              refine HC.out.mono ?_
              rintro e w8 ⟨rfl, hR8, hu8⟩
              rw [HT.out] at hR8
              have HI8 := Lib.hid (HI7.out.go hu8 hR8 (Adv.refl HI7.out.rd.inb))
              clear hR8 hu8
              go_wp2_with fail
              refine (need_calls w8 p l _ [58] HI8.out.rd hlen).mono ?_
              rintro e w9 ⟨rfl, hR9, hu9⟩
              have HP := Lib.hid (HI8.out.go hu9 hR9 (needF_adv HF.out HI8.out.rd.inb)).post
              clear hR9 hu9
              go_wp2_with fail
              go_ret
              exact HP.out
          · have k2 : ((out.length : Int) == 8) = false := by rw [beq_eq_false_iff_ne]; omega
            rw [if_neg h2] at hl
            cases ha : (out.any fun o => decide (o.1 = tx)) with
            | true =>
              simp only [ha, if_true] at hl
              have HL := Lib.hid hl
              clear hl h0 h1
              go_wp2_with fail
              refine HS.out.mono ?_
              rintro e w2 ⟨rfl, hR2, hu2⟩
              have hI2 := HI.out.go hu2 hR2 (sortP_adv HF.out HI.out.rd.inb)
              have hua := (Upto.refl [] w2).alloc (.cells #[.string ⟨#[]⟩, .int .i64 (sortP l t).1] 92)
              have HI2 := Lib.hid (hI2.go (hua.mono (by simp)) (hR2.ext hua) (Adv.refl hI2.rd.inb))
              have HV2 : Hid ((w2.alloc (.cells #[.string ⟨#[]⟩, .int .i64 (sortP l t).1] 92)).heap[w2.heap.size]? = some (.cells #[.string ⟨#[]⟩, .int .i64 (sortP l t).1] 92 (0, 0))) := Lib.hid (new_at _ _)
              have HUW2 : Hid (w.heap.size ≤ w2.heap.size) := Lib.hid hI2.up.size
              have HPV : Hid (p < w2.heap.size) := Lib.hid (by have := hI2.up.size; have := hI2.ne; omega)
              have HOWN : Hid (∀ g, (Value.slice va out.length vc).ownBlock = some g → g ≠ w2.heap.size) := Lib.hid (fun g hg => by
                obtain ⟨cur, hh⟩ := ownsRow_block hI2.row hg
                have := lt_of_heap hh
                omega)
              have HSA := Lib.hid (sortP_adv HF.out HI.out.rd.inb)
              have HN := Lib.hid (next_calls (w2.alloc (.cells #[.string ⟨#[]⟩, .int .i64 (sortP l t).1] 92)) p l (sortP l t).2 HI2.out.rd)
              clear hR2 hu2 hI2 hua HS b2
              go_wp2_with fail
              refine HN.out.mono ?_
              rintro e w3 ⟨rfl, hu3⟩
              rw [HTK.out]
              unfold tkA
              have hub := (Upto.refl [] w3).alloc (.cells #[.int .i64 tk, .string ⟨tx.toArray⟩, .int .i64 tv, .int .i64 tl, .int .i64 tc] 36)
              have HI3 := Lib.hid ((HI2.out.go (hu3.mono (by simp)) (HI2.out.rd.ext hu3) (Adv.refl HI2.out.rd.inb)).go (hub.mono (by simp)) ((HI2.out.rd.ext hu3).ext hub) (Adv.refl HI2.out.rd.inb))
              have HT3 : Hid ((w3.alloc (.cells #[.int .i64 tk, .string ⟨tx.toArray⟩, .int .i64 tv, .int .i64 tl, .int .i64 tc] 36)).heap[w3.heap.size]? = some (.cells #[.int .i64 tk, .string ⟨tx.toArray⟩, .int .i64 tv, .int .i64 tl, .int .i64 tc] 36 (0, 0))) := Lib.hid (new_at _ _)
              have HV3 := Lib.hid (hub.at (hu3.at HV2.out (by simp)) (by simp))
              clear hu3 hub HN HV2
              have HCT := Lib.hid (contains_calls out tx tk tv tl tc w3.heap.size _ _ (by have := H8.out; omega) HI3.out.row HT3.out)
              rw [ha] at HCT
              clear ha
              go_wp2_with fail
              refine HCT.out.mono ?_
              rintro e w3' ⟨rfl, hu3'⟩
              have HI3' := Lib.hid (HI3.out.go (hu3'.mono (by simp)) (HI3.out.rd.ext hu3') (Adv.refl HI3.out.rd.inb))
              have HV3' := Lib.hid (hu3'.at HV3.out (by simp))
              clear hu3'
              go_wp2_with fail
              refine (wrong_calls _ p 7 l (sortP l t).2 HI3'.out.rd).mono ?_
              rintro e w4 ⟨rfl, hR4, hu4⟩
              have HI4 := Lib.hid (HI3'.out.go hu4 hR4 (Adv.wrong HI3'.out.rd.inb 7))
              have HV4 := Lib.hid (hu4.at HV3'.out (by have := HPV.out; simp; omega))
              clear hR4 hu4
              go_wp2_with fail
              refine (name_calls _ p l (wrongF 7 (sortP l t).2) HI4.out.rd hlen).mono ?_
              rintro e w5 ⟨rfl, hR5, hu5⟩
              have hI5 := HI4.out.go hu5 hR5 (identR_adv HF.out HI4.out.rd.inb).1
              have hv5 := hu5.at HV4.out (by have := HPV.out; simp; omega)
              have ca0 := cell_of hv5 0
              have ca1 := cell_of hv5 1
              have fa0 := free_of hv5 0
              have fa1 := free_of hv5 1
              simp only [List.getElem?_toArray, List.getElem?_cons_zero, List.getElem?_cons_succ] at ca0 ca1
              have hs6 := (Upto.refl [w2.heap.size] w5).setCell (p := ⟨w2.heap.size, 0, none⟩) (Or.inl (by simp)) (.string ⟨(identR l (wrongF 7 (sortP l t).2)).1.toArray⟩)
              have hv6 := set_same hv5 0 (.string ⟨(identR l (wrongF 7 (sortP l t).2)).1.toArray⟩)
              simp only [List.setIfInBounds_toArray, List.set_cons_zero, List.set_cons_succ] at hv6
              have cb0 := cell_of hv6 0
              have cb1 := cell_of hv6 1
              have fb0 := free_of hv6 0
              have fb1 := free_of hv6 1
              simp only [List.getElem?_toArray, List.getElem?_cons_zero, List.getElem?_cons_succ] at cb0 cb1
              have HI6 := Lib.hid (hI5.set hs6 (by have h1 := HPV.out; have h2 := hI5.ne; have h3 := HUW2.out; omega) HOWN.out)
              have hnx : ((w5.setCell ⟨w2.heap.size, 0, none⟩ (.string ⟨(identR l (wrongF 7 (sortP l t).2)).1.toArray⟩)).alloc (.cells #[.string ⟨(identR l (wrongF 7 (sortP l t).2)).1.toArray⟩, .int .i64 (sortP l t).1] 92)).heap[w5.heap.size]? = some (.cells #[.string ⟨(identR l (wrongF 7 (sortP l t).2)).1.toArray⟩, .int .i64 (sortP l t).1] 92 (0, 0)) := by
                have := new_at (w5.setCell ⟨w2.heap.size, 0, none⟩ (.string ⟨(identR l (wrongF 7 (sortP l t).2)).1.toArray⟩)) (.cells #[.string ⟨(identR l (wrongF 7 (sortP l t).2)).1.toArray⟩, .int .i64 (sortP l t).1] 92)
                simpa [World.setCell] using this
              have HNX6 := Lib.hid hnx
              have h8b := H8.out
              clear hR5 hu5 hI5 hv5 hs6 hv6 hnx
              go_wp2_with (at_builtin
                           refine wpList_app _ rfl (.tmp 37) (.tmp 39) 65 rfl 92 i0 (.agg #[.string ⟨#[]⟩, .int .i64 0]) 2 24 Tryd.underlying65 hi0 hz0 hz1 hz2 rfl (by decide) (.slice va out.length vc) out.length (out.flatMap varC) rfl (HI6.out.row.alloc _) ⟨w5.heap.size, 0, none⟩ 1 1 [.string ⟨(identR l (wrongF 7 (sortP l t).2)).1.toArray⟩, .int .i64 (sortP l t).1] rfl rfl (two_at HNX6.out) (by simp [Value.oneCell']) (by unfold maxLen; omega) (by omega) ?_
                           intro b7 c7 w7 ho7 hu7 hw7)
              have HI7 := Lib.hid (FrI.app (x := ((identR l (wrongF 7 (sortP l t).2)).1, (sortP l t).1)) HI6.out ho7 hu7 hw7)
              clear ho7 hu7 hw7
              cases hc : isF l [44] (identR l (wrongF 7 (sortP l t).2)).2 with
              | true =>
                have HC := Lib.hid (takes_calls w7 p l (identR l (wrongF 7 (sortP l t).2)).2 [44] HI7.out.rd hlen)
                rw [hc] at HC
                have hl := HL.out
                rw [hc] at hl
                simp only [if_true] at hl
                have HT : Hid ((takesF l [44] (identR l (wrongF 7 (sortP l t).2)).2).2 = stepF (identR l (wrongF 7 (sortP l t).2)).2) := Lib.hid (by unfold takesF; rw [if_pos hc])
                have HA := Lib.hid (Adv.step HF.out HI7.out.rd.inb (isF_ne hc))
                have HID := Lib.hid ((identR_adv HF.out HI4.out.rd.inb).2 (isF_er hc))
                have H7 : Hid (out.length ≤ 7) := Lib.hid (by
                  have he0 := identR_er (isF_er hc)
                  have := H8.out; omega)
                have HLL := Lib.hid hl
                clear hc hl
                refine HC.out.mono ?_
                rintro e w8 ⟨rfl, hR8, hu8⟩
                rw [HT.out] at hR8
                have HI8 := Lib.hid (HI7.out.go hu8 hR8 HA.out)
                clear hR8 hu8
                go_wp2_with fail
                refine ⟨Lib.hid ⟨k, out ++ [((identR l (wrongF 7 (sortP l t).2)).1, (sortP l t).1)], stepF (identR l (wrongF 7 (sortP l t).2)).2, _, HLL.out, rfl, HI8.out, by have := H7.out; simp; omega⟩, ?_⟩
                have q1 := HI8.out.rd.nx
                have q2 := HNX.out
                have q3 := HID.out
                have q4 := HI8.out.rd.inb
                have q5 : (stepF (identR l (wrongF 7 (sortP l t).2)).2).nx = (identR l (wrongF 7 (sortP l t).2)).2.nx + 1 := rfl
                have q6 := HSA.out.le
                have q7 := wrongF_nx 7 (sortP l t).2
                rw [q1, q2]
                omega
              | false =>
                have HC := Lib.hid (takes_calls w7 p l (identR l (wrongF 7 (sortP l t).2)).2 [44] HI7.out.rd hlen)
                rw [hc] at HC
                have hl := HL.out
                rw [hc] at hl
                simp only [Bool.false_eq_true, if_false, Option.some.injEq, Prod.mk.injEq] at hl
                have HT : Hid ((takesF l [44] (identR l (wrongF 7 (sortP l t).2)).2).2 = (identR l (wrongF 7 (sortP l t).2)).2) := Lib.hid (by unfold takesF; rw [hc]; rfl)
                obtain ⟨rfl, rfl⟩ := hl
                clear hc
                refine HC.out.mono ?_
                rintro e w8 ⟨rfl, hR8, hu8⟩
                rw [HT.out] at hR8
                have HI8 := Lib.hid (HI7.out.go hu8 hR8 (Adv.refl HI7.out.rd.inb))
                clear hR8 hu8
                go_wp2_with fail
                refine (need_calls w8 p l _ [58] HI8.out.rd hlen).mono ?_
                rintro e w9 ⟨rfl, hR9, hu9⟩
                have HP := Lib.hid (HI8.out.go hu9 hR9 (needF_adv HF.out HI8.out.rd.inb)).post
                clear hR9 hu9
                go_wp2_with fail
                go_ret
                exact HP.out
            | false =>
              simp only [ha, Bool.false_eq_true, if_false] at hl
              have HL := Lib.hid hl
              clear hl h0 h1
              go_wp2_with fail
              refine HS.out.mono ?_
              rintro e w2 ⟨rfl, hR2, hu2⟩
              have hI2 := HI.out.go hu2 hR2 (sortP_adv HF.out HI.out.rd.inb)
              have hua := (Upto.refl [] w2).alloc (.cells #[.string ⟨#[]⟩, .int .i64 (sortP l t).1] 92)
              have HI2 := Lib.hid (hI2.go (hua.mono (by simp)) (hR2.ext hua) (Adv.refl hI2.rd.inb))
              have HV2 : Hid ((w2.alloc (.cells #[.string ⟨#[]⟩, .int .i64 (sortP l t).1] 92)).heap[w2.heap.size]? = some (.cells #[.string ⟨#[]⟩, .int .i64 (sortP l t).1] 92 (0, 0))) := Lib.hid (new_at _ _)
              have HUW2 : Hid (w.heap.size ≤ w2.heap.size) := Lib.hid hI2.up.size
              have HPV : Hid (p < w2.heap.size) := Lib.hid (by have := hI2.up.size; have := hI2.ne; omega)
              have HOWN : Hid (∀ g, (Value.slice va out.length vc).ownBlock = some g → g ≠ w2.heap.size) := Lib.hid (fun g hg => by
                obtain ⟨cur, hh⟩ := ownsRow_block hI2.row hg
                have := lt_of_heap hh
                omega)
              have HSA := Lib.hid (sortP_adv HF.out HI.out.rd.inb)
              have HN := Lib.hid (next_calls (w2.alloc (.cells #[.string ⟨#[]⟩, .int .i64 (sortP l t).1] 92)) p l (sortP l t).2 HI2.out.rd)
              clear hR2 hu2 hI2 hua HS b2
              go_wp2_with fail
              refine HN.out.mono ?_
              rintro e w3 ⟨rfl, hu3⟩
              rw [HTK.out]
              unfold tkA
              have hub := (Upto.refl [] w3).alloc (.cells #[.int .i64 tk, .string ⟨tx.toArray⟩, .int .i64 tv, .int .i64 tl, .int .i64 tc] 36)
              have HI3 := Lib.hid ((HI2.out.go (hu3.mono (by simp)) (HI2.out.rd.ext hu3) (Adv.refl HI2.out.rd.inb)).go (hub.mono (by simp)) ((HI2.out.rd.ext hu3).ext hub) (Adv.refl HI2.out.rd.inb))
              have HT3 : Hid ((w3.alloc (.cells #[.int .i64 tk, .string ⟨tx.toArray⟩, .int .i64 tv, .int .i64 tl, .int .i64 tc] 36)).heap[w3.heap.size]? = some (.cells #[.int .i64 tk, .string ⟨tx.toArray⟩, .int .i64 tv, .int .i64 tl, .int .i64 tc] 36 (0, 0))) := Lib.hid (new_at _ _)
              have HV3 := Lib.hid (hub.at (hu3.at HV2.out (by simp)) (by simp))
              clear hu3 hub HN HV2
              have HCT := Lib.hid (contains_calls out tx tk tv tl tc w3.heap.size _ _ (by have := H8.out; omega) HI3.out.row HT3.out)
              rw [ha] at HCT
              clear ha
              go_wp2_with fail
              refine HCT.out.mono ?_
              rintro e w4 ⟨rfl, hu4⟩
              have HI4 := Lib.hid (HI3.out.go (hu4.mono (by simp)) (HI3.out.rd.ext hu4) (Adv.refl HI3.out.rd.inb))
              have HV4 := Lib.hid (hu4.at HV3.out (by simp))
              clear hu4
              go_wp2_with fail
              refine (name_calls _ p l (sortP l t).2 HI4.out.rd hlen).mono ?_
              rintro e w5 ⟨rfl, hR5, hu5⟩
              have hI5 := HI4.out.go hu5 hR5 (identR_adv HF.out HI4.out.rd.inb).1
              have hv5 := hu5.at HV4.out (by have := HPV.out; simp; omega)
              have ca0 := cell_of hv5 0
              have ca1 := cell_of hv5 1
              have fa0 := free_of hv5 0
              have fa1 := free_of hv5 1
              simp only [List.getElem?_toArray, List.getElem?_cons_zero, List.getElem?_cons_succ] at ca0 ca1
              have hs6 := (Upto.refl [w2.heap.size] w5).setCell (p := ⟨w2.heap.size, 0, none⟩) (Or.inl (by simp)) (.string ⟨(identR l (sortP l t).2).1.toArray⟩)
              have hv6 := set_same hv5 0 (.string ⟨(identR l (sortP l t).2).1.toArray⟩)
              simp only [List.setIfInBounds_toArray, List.set_cons_zero, List.set_cons_succ] at hv6
              have cb0 := cell_of hv6 0
              have cb1 := cell_of hv6 1
              have fb0 := free_of hv6 0
              have fb1 := free_of hv6 1
              simp only [List.getElem?_toArray, List.getElem?_cons_zero, List.getElem?_cons_succ] at cb0 cb1
              have HI6 := Lib.hid (hI5.set hs6 (by have h1 := HPV.out; have h2 := hI5.ne; have h3 := HUW2.out; omega) HOWN.out)
              have hnx : ((w5.setCell ⟨w2.heap.size, 0, none⟩ (.string ⟨(identR l (sortP l t).2).1.toArray⟩)).alloc (.cells #[.string ⟨(identR l (sortP l t).2).1.toArray⟩, .int .i64 (sortP l t).1] 92)).heap[w5.heap.size]? = some (.cells #[.string ⟨(identR l (sortP l t).2).1.toArray⟩, .int .i64 (sortP l t).1] 92 (0, 0)) := by
                have := new_at (w5.setCell ⟨w2.heap.size, 0, none⟩ (.string ⟨(identR l (sortP l t).2).1.toArray⟩)) (.cells #[.string ⟨(identR l (sortP l t).2).1.toArray⟩, .int .i64 (sortP l t).1] 92)
                simpa [World.setCell] using this
              have HNX6 := Lib.hid hnx
              have h8b := H8.out
              clear hR5 hu5 hI5 hv5 hs6 hv6 hnx
              go_wp2_with (at_builtin
                           refine wpList_app _ rfl (.tmp 37) (.tmp 39) 65 rfl 92 i0 (.agg #[.string ⟨#[]⟩, .int .i64 0]) 2 24 Tryd.underlying65 hi0 hz0 hz1 hz2 rfl (by decide) (.slice va out.length vc) out.length (out.flatMap varC) rfl (HI6.out.row.alloc _) ⟨w5.heap.size, 0, none⟩ 1 1 [.string ⟨(identR l (sortP l t).2).1.toArray⟩, .int .i64 (sortP l t).1] rfl rfl (two_at HNX6.out) (by simp [Value.oneCell']) (by unfold maxLen; omega) (by omega) ?_
                           intro b7 c7 w7 ho7 hu7 hw7)
              have HI7 := Lib.hid (FrI.app (x := ((identR l (sortP l t).2).1, (sortP l t).1)) HI6.out ho7 hu7 hw7)
              clear ho7 hu7 hw7
              cases hc : isF l [44] (identR l (sortP l t).2).2 with
              | true =>
                have HC := Lib.hid (takes_calls w7 p l (identR l (sortP l t).2).2 [44] HI7.out.rd hlen)
                rw [hc] at HC
                have hl := HL.out
                rw [hc] at hl
                simp only [if_true] at hl
                have HT : Hid ((takesF l [44] (identR l (sortP l t).2).2).2 = stepF (identR l (sortP l t).2).2) := Lib.hid (by unfold takesF; rw [if_pos hc])
                have HA := Lib.hid (Adv.step HF.out HI7.out.rd.inb (isF_ne hc))
                have HID := Lib.hid ((identR_adv HF.out HI4.out.rd.inb).2 (isF_er hc))
                have H7 : Hid (out.length ≤ 7) := Lib.hid (by
                  have he0 := identR_er (isF_er hc)
                  have := H8.out; omega)
                have HLL := Lib.hid hl
                clear hc hl
                refine HC.out.mono ?_
                rintro e w8 ⟨rfl, hR8, hu8⟩
                rw [HT.out] at hR8
                have HI8 := Lib.hid (HI7.out.go hu8 hR8 HA.out)
                clear hR8 hu8
                go_wp2_with fail
                refine ⟨Lib.hid ⟨k, out ++ [((identR l (sortP l t).2).1, (sortP l t).1)], stepF (identR l (sortP l t).2).2, _, HLL.out, rfl, HI8.out, by have := H7.out; simp; omega⟩, ?_⟩
                have q1 := HI8.out.rd.nx
                have q2 := HNX.out
                have q3 := HID.out
                have q4 := HI8.out.rd.inb
                have q5 : (stepF (identR l (sortP l t).2).2).nx = (identR l (sortP l t).2).2.nx + 1 := rfl
                have q6 := HSA.out.le
                have q7 := (rfl : (sortP l t).2.nx = (sortP l t).2.nx)
                rw [q1, q2]
                omega
              | false =>
                have HC := Lib.hid (takes_calls w7 p l (identR l (sortP l t).2).2 [44] HI7.out.rd hlen)
                rw [hc] at HC
                have hl := HL.out
                rw [hc] at hl
                simp only [Bool.false_eq_true, if_false, Option.some.injEq, Prod.mk.injEq] at hl
                have HT : Hid ((takesF l [44] (identR l (sortP l t).2).2).2 = (identR l (sortP l t).2).2) := Lib.hid (by unfold takesF; rw [hc]; rfl)
                obtain ⟨rfl, rfl⟩ := hl
                clear hc
                refine HC.out.mono ?_
                rintro e w8 ⟨rfl, hR8, hu8⟩
                rw [HT.out] at hR8
                have HI8 := Lib.hid (HI7.out.go hu8 hR8 (Adv.refl HI7.out.rd.inb))
                clear hR8 hu8
                go_wp2_with fail
                refine (need_calls w8 p l _ [58] HI8.out.rd hlen).mono ?_
                rintro e w9 ⟨rfl, hR9, hu9⟩
                have HP := Lib.hid (HI8.out.go hu9 hR9 (needF_adv HF.out HI8.out.rd.inb)).post
                clear hR9 hu9
                go_wp2_with fail
                go_ret
                exact HP.out
        · have k1 : ((tk : Int) == 1) = false := by rw [beq_eq_false_iff_ne]; omega
          rw [if_neg h1] at hl
          have HL := Lib.hid hl
          clear hl h0
          go_wp2_with fail
          refine HS.out.mono ?_
          rintro e w2 ⟨rfl, hR2, hu2⟩
          have hI2 := HI.out.go hu2 hR2 (sortP_adv HF.out HI.out.rd.inb)
          have hua := (Upto.refl [] w2).alloc (.cells #[.string ⟨#[]⟩, .int .i64 (sortP l t).1] 92)
          have HI2 := Lib.hid (hI2.go (hua.mono (by simp)) (hR2.ext hua) (Adv.refl hI2.rd.inb))
          have HV2 : Hid ((w2.alloc (.cells #[.string ⟨#[]⟩, .int .i64 (sortP l t).1] 92)).heap[w2.heap.size]? = some (.cells #[.string ⟨#[]⟩, .int .i64 (sortP l t).1] 92 (0, 0))) := Lib.hid (new_at _ _)
          have HUW2 : Hid (w.heap.size ≤ w2.heap.size) := Lib.hid hI2.up.size
          have HPV : Hid (p < w2.heap.size) := Lib.hid (by have := hI2.up.size; have := hI2.ne; omega)
          have HOWN : Hid (∀ g, (Value.slice va out.length vc).ownBlock = some g → g ≠ w2.heap.size) := Lib.hid (fun g hg => by
            obtain ⟨cur, hh⟩ := ownsRow_block hI2.row hg
            have := lt_of_heap hh
            omega)
          have HSA := Lib.hid (sortP_adv HF.out HI.out.rd.inb)
          have HN := Lib.hid (next_calls (w2.alloc (.cells #[.string ⟨#[]⟩, .int .i64 (sortP l t).1] 92)) p l (sortP l t).2 HI2.out.rd)
          clear hR2 hu2 hI2 hua HS b2
          go_wp2_with fail
          refine HN.out.mono ?_
          rintro e w3 ⟨rfl, hu3⟩
          rw [HTK.out]
          unfold tkA
          have hub := (Upto.refl [] w3).alloc (.cells #[.int .i64 tk, .string ⟨tx.toArray⟩, .int .i64 tv, .int .i64 tl, .int .i64 tc] 36)
          have HI3 := Lib.hid ((HI2.out.go (hu3.mono (by simp)) (HI2.out.rd.ext hu3) (Adv.refl HI2.out.rd.inb)).go (hub.mono (by simp)) ((HI2.out.rd.ext hu3).ext hub) (Adv.refl HI2.out.rd.inb))
          have HT3 : Hid ((w3.alloc (.cells #[.int .i64 tk, .string ⟨tx.toArray⟩, .int .i64 tv, .int .i64 tl, .int .i64 tc] 36)).heap[w3.heap.size]? = some (.cells #[.int .i64 tk, .string ⟨tx.toArray⟩, .int .i64 tv, .int .i64 tl, .int .i64 tc] 36 (0, 0))) := Lib.hid (new_at _ _)
          have HV3 := Lib.hid (hub.at (hu3.at HV2.out (by simp)) (by simp))
          clear hu3 hub HN HV2
          obtain ⟨w4, hw4⟩ : ∃ w4, w4 = w3.alloc (.cells #[.int .i64 tk, .string ⟨tx.toArray⟩, .int .i64 tv, .int .i64 tl, .int .i64 tc] 36) := ⟨_, rfl⟩
          have HI4 := HI3
          have HV4 := HV3
          rw [← hw4] at HI4 HV4
          have HW4 := Lib.hid hw4
          clear hw4
          go_wp2_with fail
          rw [← HW4.out]
          refine (name_calls _ p l (sortP l t).2 HI4.out.rd hlen).mono ?_
          rintro e w5 ⟨rfl, hR5, hu5⟩
          have hI5 := HI4.out.go hu5 hR5 (identR_adv HF.out HI4.out.rd.inb).1
          have hv5 := hu5.at HV4.out (by have := HPV.out; simp; omega)
          have ca0 := cell_of hv5 0
          have ca1 := cell_of hv5 1
          have fa0 := free_of hv5 0
          have fa1 := free_of hv5 1
          simp only [List.getElem?_toArray, List.getElem?_cons_zero, List.getElem?_cons_succ] at ca0 ca1
          have hs6 := (Upto.refl [w2.heap.size] w5).setCell (p := ⟨w2.heap.size, 0, none⟩) (Or.inl (by simp)) (.string ⟨(identR l (sortP l t).2).1.toArray⟩)
          have hv6 := set_same hv5 0 (.string ⟨(identR l (sortP l t).2).1.toArray⟩)
          simp only [List.setIfInBounds_toArray, List.set_cons_zero, List.set_cons_succ] at hv6
          have cb0 := cell_of hv6 0
          have cb1 := cell_of hv6 1
          have fb0 := free_of hv6 0
          have fb1 := free_of hv6 1
          simp only [List.getElem?_toArray, List.getElem?_cons_zero, List.getElem?_cons_succ] at cb0 cb1
          have HI6 := Lib.hid (hI5.set hs6 (by have h1 := HPV.out; have h2 := hI5.ne; have h3 := HUW2.out; omega) HOWN.out)
          have hnx : ((w5.setCell ⟨w2.heap.size, 0, none⟩ (.string ⟨(identR l (sortP l t).2).1.toArray⟩)).alloc (.cells #[.string ⟨(identR l (sortP l t).2).1.toArray⟩, .int .i64 (sortP l t).1] 92)).heap[w5.heap.size]? = some (.cells #[.string ⟨(identR l (sortP l t).2).1.toArray⟩, .int .i64 (sortP l t).1] 92 (0, 0)) := by
            have := new_at (w5.setCell ⟨w2.heap.size, 0, none⟩ (.string ⟨(identR l (sortP l t).2).1.toArray⟩)) (.cells #[.string ⟨(identR l (sortP l t).2).1.toArray⟩, .int .i64 (sortP l t).1] 92)
            simpa [World.setCell] using this
          have HNX6 := Lib.hid hnx
          have h8b := H8.out
          clear hR5 hu5 hI5 hv5 hs6 hv6 hnx
          go_wp2_with (at_builtin
                       refine wpList_app _ rfl (.tmp 37) (.tmp 39) 65 rfl 92 i0 (.agg #[.string ⟨#[]⟩, .int .i64 0]) 2 24 Tryd.underlying65 hi0 hz0 hz1 hz2 rfl (by decide) (.slice va out.length vc) out.length (out.flatMap varC) rfl (HI6.out.row.alloc _) ⟨w5.heap.size, 0, none⟩ 1 1 [.string ⟨(identR l (sortP l t).2).1.toArray⟩, .int .i64 (sortP l t).1] rfl rfl (two_at HNX6.out) (by simp [Value.oneCell']) (by unfold maxLen; omega) (by omega) ?_
                       intro b7 c7 w7 ho7 hu7 hw7)
          have HI7 := Lib.hid (FrI.app (x := ((identR l (sortP l t).2).1, (sortP l t).1)) HI6.out ho7 hu7 hw7)
          clear ho7 hu7 hw7
          cases hc : isF l [44] (identR l (sortP l t).2).2 with
          | true =>
            have HC := Lib.hid (takes_calls w7 p l (identR l (sortP l t).2).2 [44] HI7.out.rd hlen)
            rw [hc] at HC
            have hl := HL.out
            rw [hc] at hl
            simp only [if_true] at hl
            have HT : Hid ((takesF l [44] (identR l (sortP l t).2).2).2 = stepF (identR l (sortP l t).2).2) := Lib.hid (by unfold takesF; rw [if_pos hc])
            have HA := Lib.hid (Adv.step HF.out HI7.out.rd.inb (isF_ne hc))
            have HID := Lib.hid ((identR_adv HF.out HI4.out.rd.inb).2 (isF_er hc))
            have H7 : Hid (out.length ≤ 7) := Lib.hid (by
              have he0 := identR_er (isF_er hc)
              have := he0.2; rw [HTK.out] at this; exact absurd this h1)
            have HLL := Lib.hid hl
            clear hc hl
            refine HC.out.mono ?_
            rintro e w8 ⟨rfl, hR8, hu8⟩
            rw [HT.out] at hR8
            have HI8 := Lib.hid (HI7.out.go hu8 hR8 HA.out)
            clear hR8 hu8
            go_wp2_with fail
            refine ⟨Lib.hid ⟨k, out ++ [((identR l (sortP l t).2).1, (sortP l t).1)], stepF (identR l (sortP l t).2).2, _, HLL.out, rfl, HI8.out, by have := H7.out; simp; omega⟩, ?_⟩
            have q1 := HI8.out.rd.nx
            have q2 := HNX.out
            have q3 := HID.out
            have q4 := HI8.out.rd.inb
            have q5 : (stepF (identR l (sortP l t).2).2).nx = (identR l (sortP l t).2).2.nx + 1 := rfl
            have q6 := HSA.out.le
            have q7 := (rfl : (sortP l t).2.nx = (sortP l t).2.nx)
            rw [q1, q2]
            omega
          | false =>
            have HC := Lib.hid (takes_calls w7 p l (identR l (sortP l t).2).2 [44] HI7.out.rd hlen)
            rw [hc] at HC
            have hl := HL.out
            rw [hc] at hl
            simp only [Bool.false_eq_true, if_false, Option.some.injEq, Prod.mk.injEq] at hl
            have HT : Hid ((takesF l [44] (identR l (sortP l t).2).2).2 = (identR l (sortP l t).2).2) := Lib.hid (by unfold takesF; rw [hc]; rfl)
            obtain ⟨rfl, rfl⟩ := hl
            clear hc
            refine HC.out.mono ?_
            rintro e w8 ⟨rfl, hR8, hu8⟩
            rw [HT.out] at hR8
            have HI8 := Lib.hid (HI7.out.go hu8 hR8 (Adv.refl HI7.out.rd.inb))
            clear hR8 hu8
            go_wp2_with fail
            refine (need_calls w8 p l _ [58] HI8.out.rd hlen).mono ?_
            rintro e w9 ⟨rfl, hR9, hu9⟩
            have HP := Lib.hid (HI8.out.go hu9 hR9 (needF_adv HF.out HI8.out.rd.inb)).post
            clear hR9 hu9
            go_wp2_with fail
            go_ret
            exact HP.out
      · have k0 : ((t.er : Int) == 0) = false := by rw [beq_eq_false_iff_ne]; omega
        rw [if_neg h0] at hl
        simp only [Option.some.injEq, Prod.mk.injEq] at hl
        obtain ⟨rfl, rfl⟩ := hl
        have HP := Lib.hid hI.post
        clear hI h0
        go_wp2_with fail
        go_ret
        exact HP.out
end Go.Proofs.YtkhbpebpljdifaaDoor


namespace Go.Proofs.YtkhbpebpljdifaaDoor
open Go.RowKit Go.PL Go.Maps

theorem SlP.get {w : World} {P : Nat → Prop} {v : Value} {n : Nat} {xs : List Value} (h : SlP w P v n xs) : ∃ a c, v = .slice a n c ∧ ∀ i u, xs[i]? = some u → ∃ g o, a = some ⟨g, o, none⟩ ∧ w.cell? ⟨g, o + i, none⟩ = some u := by
  rcases h with ⟨rfl, rfl, a, c, rfl⟩ | ⟨g, o, c, rfl, -, hc⟩
  · exact ⟨a, c, rfl, fun i u h => by simp at h⟩
  · exact ⟨_, c, rfl, fun i u h => ⟨g, o, rfl, hc i u h⟩⟩

end Go.Proofs.YtkhbpebpljdifaaDoor


namespace Go.Proofs.YtkhbpebpljdifaaDoor
open Go.RowKit Go.PL Go.Maps

/-- v is the question q -/
def QnV (w : World) (P : Nat → Prop) (q : Qn) (v : Value) : Prop := ∃ vf a0 a1 a2 a3 a4 a5, v = .agg #[vf, a0, a1, a2, a3, a4, a5] ∧ VarsV w P vf q.free ∧ NdV w P q.body (.agg #[a0, a1, a2, a3, a4, a5])
theorem QnV.keep {w w' : World} {P Q : Nat → Prop} (hk : Keep w w' P Q) {q : Qn} {v : Value} (h : QnV w P q v) : QnV w' Q q v := by
  obtain ⟨vf, a0, a1, a2, a3, a4, a5, e, h1, h2⟩ := h
  exact ⟨vf, a0, a1, a2, a3, a4, a5, e, SlP.keep hk h1, NdV.keep hk _ _ h2⟩
theorem QnV.seven {w : World} {P : Nat → Prop} {q : Qn} {v : Value} (h : QnV w P q v) : ∃ (f1 : Option Addr) (f2 f3 : Nat) (op : Int) (a1 : Option Addr) (n1 c1 : Nat) (so n m : Int) (a2 : Option Addr) (n2 c2 : Nat), v = .agg #[.slice f1 f2 f3, .int .i64 op, .slice a1 n1 c1, .int .i64 so, .int .i64 n, .int .i64 m, .slice a2 n2 c2] := by
  obtain ⟨vf, a0, a1, a2, a3, a4, a5, rfl, h1, h2⟩ := h
  obtain ⟨fa, fc, rfl⟩ := h1.len
  obtain ⟨op, x1, x2, x3, so, n, m, y1, y2, y3, hs⟩ := h2.six
  simp only [Value.agg.injEq, Array.mk.injEq, List.cons.injEq, and_true] at hs
  obtain ⟨rfl, rfl, rfl, rfl, rfl, rfl⟩ := hs
  exact ⟨fa, _, fc, op, x1, x2, x3, so, n, m, y1, y2, y3, rfl⟩
def zeroQ : Value := .agg #[.slice none 0 0, .int .i64 0, .slice none 0 0, .int .i64 0, .int .i64 0, .int .i64 0, .slice none 0 0]
theorem QnV.zero (w : World) (P : Nat → Prop) : QnV w P .zero zeroQ := ⟨_, _, _, _, _, _, _, rfl, SlP.nil, NdV.zero w P⟩
def QPost (w : World) (p : Nat) (l : List Tok) (s : PS) (q : Qn) (s' : PS) (e : Ending) (w' : World) : Prop :=
  ∃ v, e = .returned v ∧ QnV w' (New w) q v ∧ RdAt w' p l s' ∧ Upto [p] w w' ∧ Adv l s s'
theorem q_store {w : World} {B : Nat} {x0 x1 x2 x3 x4 x5 x6 : Value} {T : TypeId} (h : w.heap[B]? = some (.cells #[x0, x1, x2, x3, x4, x5, x6] T (0, 0))) (a b c d e f g : Value) :
    (((((((w.setCell ⟨B, 0, none⟩ a).setCell ⟨B, 1, none⟩ b).setCell ⟨B, 2, none⟩ c).setCell ⟨B, 3, none⟩ d).setCell ⟨B, 4, none⟩ e).setCell ⟨B, 5, none⟩ f).setCell ⟨B, 6, none⟩ g).heap[B]? = some (.cells #[a, b, c, d, e, f, g] T (0, 0)) := by
  have := set_same (set_same (set_same (set_same (set_same (set_same (set_same h 0 a) 1 b) 2 c) 3 d) 4 e) 5 f) 6 g
  simpa using this
theorem q_up {S : List Nat} {v w : World} {B : Nat} (h : Upto S v w) (hB : B ∈ S ∨ v.heap.size ≤ B) (a b c d e f g : Value) : Upto S v (((((((w.setCell ⟨B, 0, none⟩ a).setCell ⟨B, 1, none⟩ b).setCell ⟨B, 2, none⟩ c).setCell ⟨B, 3, none⟩ d).setCell ⟨B, 4, none⟩ e).setCell ⟨B, 5, none⟩ f).setCell ⟨B, 6, none⟩ g) :=
  ((((((h.setCell hB _).setCell hB _).setCell hB _).setCell hB _).setCell hB _).setCell hB _).setCell hB _
theorem q_self (w : World) (B : Nat) (a b c d e f g : Value) : Upto [B] w (((((((w.setCell ⟨B, 0, none⟩ a).setCell ⟨B, 1, none⟩ b).setCell ⟨B, 2, none⟩ c).setCell ⟨B, 3, none⟩ d).setCell ⟨B, 4, none⟩ e).setCell ⟨B, 5, none⟩ f).setCell ⟨B, 6, none⟩ g) := q_up (Upto.refl _ _) (Or.inl (by simp)) ..
theorem qpost_fin {w w2 : World} {p B : Nat} {l : List Tok} {s s' : PS} {q : Qn} {P : Nat → Prop} (hB : w.heap.size ≤ B) (hp : p < B) (hu : Upto [p] w w2) (hR : RdAt w2 p l s') (ha : Adv l s s') {a b c d e f g : Value} (hf : VarsV w2 P a q.free) (hn : NdV w2 P q.body (.agg #[b, c, d, e, f, g])) (hP : ∀ b, P b → IsC w2 b → New w b ∧ b ≠ B) :
    QPost w p l s q s' (.returned (.agg #[a, b, c, d, e, f, g])) (((((((w2.setCell ⟨B, 0, none⟩ a).setCell ⟨B, 1, none⟩ b).setCell ⟨B, 2, none⟩ c).setCell ⟨B, 3, none⟩ d).setCell ⟨B, 4, none⟩ e).setCell ⟨B, 5, none⟩ f).setCell ⟨B, 6, none⟩ g) := by
  have hst := q_self w2 B a b c d e f g
  have hk : Keep w2 (((((((w2.setCell ⟨B, 0, none⟩ a).setCell ⟨B, 1, none⟩ b).setCell ⟨B, 2, none⟩ c).setCell ⟨B, 3, none⟩ d).setCell ⟨B, 4, none⟩ e).setCell ⟨B, 5, none⟩ f).setCell ⟨B, 6, none⟩ g) P (New w) := ⟨hst.size, fun x hx hl => ⟨(hP x hx hl).1, hst.block x hl.lt (by simpa using (hP x hx hl).2)⟩⟩
  exact ⟨_, rfl, ⟨_, _, _, _, _, _, _, rfl, SlP.keep hk hf, NdV.keep hk _ _ hn⟩, hR.above hst (fun k hk => by simp at hk; omega), q_up hu (Or.inr hB) .., ha⟩

set_option maxRecDepth 100000 in
set_option maxHeartbeats 6400000 in
theorem bare1_calls (w : World) (p : Nat) (l : List Tok) (htx : ∀ t ∈ l, t.text.length ≤ 65536) (s s' : PS) (q : Qn) (hx : Cx w p l) (h : RdAt w p l s) (hd : s.dp ≤ 256) (he : (wholeP l s).map (fun r => (⟨[], r.1⟩, r.2)) = some (q, s')) :
    Calls Tryd.prog 51 #[.pointer (some ⟨p, 0, none⟩)] w (QPost w p l s q s') := by
  have HF : Hid (Fin l) := Lib.hid h.fin
  have hin := h.inb
  have HpB : Hid (p < w.heap.size) := Lib.hid h.lt
  have hu0 : Upto [] w (w.alloc (.cells #[.slice none 0 0, .int .i64 0, .slice none 0 0, .int .i64 0, .int .i64 0, .int .i64 0, .slice none 0 0] 67)) := (Upto.refl [] w).alloc _
  have HR0 := Lib.hid (h.ext hu0)
  have HX0 := Lib.hid (hx.ext hu0)
  have HU0 : Hid (Upto [p] w (w.alloc (.cells #[.slice none 0 0, .int .i64 0, .slice none 0 0, .int .i64 0, .int .i64 0, .int .i64 0, .slice none 0 0] 67))) := Lib.hid (hu0.mono (by simp))
  have HNew : Hid ((w.alloc (.cells #[.slice none 0 0, .int .i64 0, .slice none 0 0, .int .i64 0, .int .i64 0, .int .i64 0, .slice none 0 0] 67)).heap[w.heap.size]? = some (.cells #[.slice none 0 0, .int .i64 0, .slice none 0 0, .int .i64 0, .int .i64 0, .int .i64 0, .slice none 0 0] 67 (0, 0))) := Lib.hid (new_at _ _)
  obtain ⟨m, hv, rfl⟩ : ∃ m, wholeP l s = some (m, s') ∧ q = ⟨[], m⟩ := by
    cases hq : wholeP l s with
    | none => rw [hq] at he; cases he
    | some r => obtain ⟨m, t⟩ := r; rw [hq] at he; simp at he; obtain ⟨rfl, rfl⟩ := he; exact ⟨m, rfl, rfl⟩
  clear hx h hu0 he
  go_enter Tryd.func51, Tryd.ntmps51
  go_wp2_with fail
  refine (whole_calls p l htx _ s m s' HX0.out HR0.out hd hv).mono ?_
  rintro e w2 ⟨vv, rfl, hn, hR2, hu2, ha⟩
  obtain ⟨oa, na1, na2, na3, sa, ma, qa, la1, la2, la3, rfl⟩ := hn.six
  have hz := hu2.at HNew.out (by have := HpB.out; simp; omega)
  have z0 := cell_of hz 0
  have z1 := cell_of hz 1
  have z2 := cell_of hz 2
  have z3 := cell_of hz 3
  have z4 := cell_of hz 4
  have z5 := cell_of hz 5
  have z6 := cell_of hz 6
  have y0 := free_of hz 0
  have y1 := free_of hz 1
  have y2 := free_of hz 2
  have y3 := free_of hz 3
  have y4 := free_of hz 4
  have y5 := free_of hz 5
  have y6 := free_of hz 6
  simp only [List.getElem?_toArray, List.getElem?_cons_zero, List.getElem?_cons_succ] at z0 z1 z2 z3 z4 z5 z6
  have HZ := Lib.hid hz
  have HN := Lib.hid hn
  have HR2 := Lib.hid hR2
  have HU2 := Lib.hid hu2
  have HA := Lib.hid ha
  clear hn hR2 hu2 ha hz
  go_wp2_with fail
  have hst := q_store HZ.out (.slice none 0 0) (.int .i64 oa) (.slice na1 na2 na3) (.int .i64 sa) (.int .i64 ma) (.int .i64 qa) (.slice la1 la2 la3)
  have q0 := cell_of hst 0
  have q1 := cell_of hst 1
  have q2 := cell_of hst 2
  have q3 := cell_of hst 3
  have q4 := cell_of hst 4
  have q5 := cell_of hst 5
  have q6 := cell_of hst 6
  simp only [List.getElem?_toArray, List.getElem?_cons_zero, List.getElem?_cons_succ] at q0 q1 q2 q3 q4 q5 q6
  exact bodyPost_ret (v := .agg #[.slice none 0 0, .int .i64 oa, .slice na1 na2 na3, .int .i64 sa, .int .i64 ma, .int .i64 qa, .slice la1 la2 la3]) (by simp [results, Tryd.results51, go_sem, q0, q1, q2, q3, q4, q5, q6]) rfl (qpost_fin (q := ⟨[], m⟩) (P := New (w.alloc (.cells #[.slice none 0 0, .int .i64 0, .slice none 0 0, .int .i64 0, .int .i64 0, .int .i64 0, .slice none 0 0] 67))) (Nat.le_refl _) HpB.out (HU0.out.trans_same HU2.out) HR2.out HA.out SlP.nil HN.out (fun b hb _ => by have h1 := HU0.out.size; have h2 := lt_of_heap HNew.out; unfold New at hb ⊢; omega))

set_option maxRecDepth 100000 in
set_option maxHeartbeats 6400000 in
theorem query1_calls (w : World) (p : Nat) (l : List Tok) (htx : ∀ t ∈ l, t.text.length ≤ 65536) (s s' : PS) (q : Qn) (hx : Cx w p l) (h : RdAt w p l s) (hd : s.dp ≤ 256) (he : ((freeP l s).bind fun r1 => (wholeP l r1.2).map fun r => ((⟨r1.1, r.1⟩ : Qn), r.2)) = some (q, s')) :
    Calls Tryd.prog 53 #[.pointer (some ⟨p, 0, none⟩)] w (QPost w p l s q s') := by
  have HF : Hid (Fin l) := Lib.hid h.fin
  have hin := h.inb
  have HpB : Hid (p < w.heap.size) := Lib.hid h.lt
  have hu0 : Upto [] w (w.alloc (.cells #[.slice none 0 0, .int .i64 0, .slice none 0 0, .int .i64 0, .int .i64 0, .int .i64 0, .slice none 0 0] 67)) := (Upto.refl [] w).alloc _
  have HR0 := Lib.hid (h.ext hu0)
  have HX0 := Lib.hid (hx.ext hu0)
  have HU0 : Hid (Upto [p] w (w.alloc (.cells #[.slice none 0 0, .int .i64 0, .slice none 0 0, .int .i64 0, .int .i64 0, .int .i64 0, .slice none 0 0] 67))) := Lib.hid (hu0.mono (by simp))
  have HNew : Hid ((w.alloc (.cells #[.slice none 0 0, .int .i64 0, .slice none 0 0, .int .i64 0, .int .i64 0, .int .i64 0, .slice none 0 0] 67)).heap[w.heap.size]? = some (.cells #[.slice none 0 0, .int .i64 0, .slice none 0 0, .int .i64 0, .int .i64 0, .int .i64 0, .slice none 0 0] 67 (0, 0))) := Lib.hid (new_at _ _)
  have hlen := hx.len
  obtain ⟨fr, t, m, hv1, hv2, rfl⟩ : ∃ fr t m, freeP l s = some (fr, t) ∧ wholeP l t = some (m, s') ∧ q = ⟨fr, m⟩ := by
    cases hq : freeP l s with
    | none => rw [hq] at he; cases he
    | some r =>
      obtain ⟨fr, t⟩ := r
      rw [hq] at he
      simp only [Option.bind_some] at he
      cases hq2 : wholeP l t with
      | none => rw [hq2] at he; cases he
      | some r2 => obtain ⟨m, t2⟩ := r2; rw [hq2] at he; simp at he; obtain ⟨rfl, rfl⟩ := he; exact ⟨fr, t, m, rfl, hq2, rfl⟩
  clear hx h hu0 he
  go_enter Tryd.func53, Tryd.ntmps53
  go_wp2_with fail
  refine (free_calls _ p l s t fr HX0.out HR0.out hv1).mono ?_
  rintro e w1 ⟨vf, rfl, hf, hR1, hu1, ha1⟩
  obtain ⟨f1, f3, rfl⟩ := hf.len
  have HFV := Lib.hid hf
  have HR1 := Lib.hid hR1
  have HU1 := Lib.hid hu1
  have HA1 := Lib.hid ha1
  clear hf hR1 hu1 ha1
  go_wp2_with fail
  refine (whole_calls p l htx w1 t m s' (HX0.out.upto HU1.out) HR1.out (by rw [HA1.out.dp]; exact hd) hv2).mono ?_
  rintro e w2 ⟨vv, rfl, hn, hR2, hu2, ha⟩
  obtain ⟨oa, na1, na2, na3, sa, ma, qa, la1, la2, la3, rfl⟩ := hn.six
  have hz := hu2.at (HU1.out.at HNew.out (by have := HpB.out; simp; omega)) (by have := HpB.out; simp; omega)
  have z0 := cell_of hz 0
  have z1 := cell_of hz 1
  have z2 := cell_of hz 2
  have z3 := cell_of hz 3
  have z4 := cell_of hz 4
  have z5 := cell_of hz 5
  have z6 := cell_of hz 6
  have y0 := free_of hz 0
  have y1 := free_of hz 1
  have y2 := free_of hz 2
  have y3 := free_of hz 3
  have y4 := free_of hz 4
  have y5 := free_of hz 5
  have y6 := free_of hz 6
  simp only [List.getElem?_toArray, List.getElem?_cons_zero, List.getElem?_cons_succ] at z0 z1 z2 z3 z4 z5 z6
  have HZ := Lib.hid hz
  have HN := Lib.hid hn
  have HR2 := Lib.hid hR2
  have HU2 := Lib.hid hu2
  have HA := Lib.hid ha
  have HS := Lib.hid (And.intro (lt_of_heap HNew.out) (And.intro HU1.out.size HU0.out.size))
  have HF2 : Hid (VarsV w2 (New (w.alloc (.cells #[.slice none 0 0, .int .i64 0, .slice none 0 0, .int .i64 0, .int .i64 0, .int .i64 0, .slice none 0 0] 67))) (.slice f1 fr.length f3) fr) := Lib.hid (SlP.upto HFV.out hu2 (fun b hb _ => by have h1 := HS.out; have h2 := HpB.out; unfold New at hb; simp; omega))
  clear hn hR2 hu2 ha hz
  go_wp2_with fail
  have hst := q_store HZ.out (.slice f1 fr.length f3) (.int .i64 oa) (.slice na1 na2 na3) (.int .i64 sa) (.int .i64 ma) (.int .i64 qa) (.slice la1 la2 la3)
  have q0 := cell_of hst 0
  have q1 := cell_of hst 1
  have q2 := cell_of hst 2
  have q3 := cell_of hst 3
  have q4 := cell_of hst 4
  have q5 := cell_of hst 5
  have q6 := cell_of hst 6
  simp only [List.getElem?_toArray, List.getElem?_cons_zero, List.getElem?_cons_succ] at q0 q1 q2 q3 q4 q5 q6
  exact bodyPost_ret (v := .agg #[.slice f1 fr.length f3, .int .i64 oa, .slice na1 na2 na3, .int .i64 sa, .int .i64 ma, .int .i64 qa, .slice la1 la2 la3]) (by simp [results, Tryd.results53, go_sem, q0, q1, q2, q3, q4, q5, q6]) rfl (qpost_fin (q := ⟨fr, m⟩) (P := New (w.alloc (.cells #[.slice none 0 0, .int .i64 0, .slice none 0 0, .int .i64 0, .int .i64 0, .int .i64 0, .slice none 0 0] 67))) (Nat.le_refl _) HpB.out ((HU0.out.trans_same HU1.out).trans_same HU2.out) HR2.out (HA1.out.trans HA.out) HF2.out (HN.out.mono (fun b hb _ => by have h1 := HS.out; unfold New at hb ⊢; omega)) (fun b hb _ => by have h1 := HS.out; unfold New at hb ⊢; omega))
end Go.Proofs.YtkhbpebpljdifaaDoor

