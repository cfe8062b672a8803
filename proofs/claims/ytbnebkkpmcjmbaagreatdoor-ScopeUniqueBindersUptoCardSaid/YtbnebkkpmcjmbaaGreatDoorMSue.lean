/- Texts merged, in build order: Wj, Wc, Seg4, Zq, We. -/
import Derived.Test.YtbnebkkpmcjmbaaGreatDoorMSud
import Derived.Test.YtbnebkkpmcjmbaaGreatDoorRows
import Derived.WalkKit
import Derived.WalkSpells
import Derived.WalkLawsBesides
import Derived.Maps.OwnSet
import Derived.Lib.Hide
import Derived.Laws.BytesArg
import Derived.Deep.QuietTactic
import Derived.BigQuiet
import Derived.Test.YtbnebkkpmcjmbaaGreatDoorProg
import Derived.Shelf.Small.Strs
import Derived.Shelf.LaysM
import Derived.Shelf.Strings.SplitShaped
import Derived.Deep.DeepCutAuto
import Derived.Deep.CutBlock
import Derived.Lib.Strings
import Derived.Lib.Walk
import Derived.Lib.ConvBytes
import Derived.Lib.ParseIntBMem
import Derived.Lib.AtoiErrMem
import Derived.Lib.BufferWrite
import Derived.Lib.UnsafeStr
import Derived.Lib.IfaceEq
import Derived.Laws.MakeOwn
import Derived.Laws.Strings3
import Derived.Laws.Closers25
import Derived.Laws.Closers25b
import Derived.RegionTactic
import Derived.Deep.RegionWith
import Derived.BigCall
import Derived.BigGuard
import Derived.Lib.AppendIntMem
import Derived.Carry
import Derived.OrdersHeld
import Derived.Deep.RegionHeld3
import Derived.Shelf.Strconv.Itoa3
import Derived.Shelf.Slices.Turned
import Derived.Shelf.Slices.Clone
import Derived.Deep.RegionLaw
import Derived.Lib.ItoaNum
import Derived.RangeFuncNested
import Derived.RangeFuncBound
import Derived.RangeFuncCalls
import Derived.RangeFuncLeaves
import Derived.RangeFuncBox
import Derived.Shelf.Abstract
import Derived.OwnWalkIn
import Derived.TacticsInMore
import Derived.LoopNIn
import Derived.LoopIn
import Derived.Laws.EntriesVeiled
import Derived.Laws.AppendOwn
import Derived.Shelf.SlMaps.Clone
namespace Go.Proofs.YtbnebkkpmcjmbaaGreatDoor
open Go.RowKit Go.PL Go.Maps
theorem info3' : ∃ i, Tryz.prog.info? 3 = some i ∧ i.zero = some (.int .i64 0) ∧ i.size = 1 ∧ i.bytes = 8 := by
  have h : (Tryz.prog.info? 3).map (fun i => (i.zero, i.size, i.bytes)) = some (some (.int .i64 0), 1, 8) := by kernel_rfl
  cases hi : Tryz.prog.info? 3 with
  | none => rw [hi] at h; cases h
  | some i =>
    rw [hi] at h
    simp only [Option.map_some, Option.some.injEq, Prod.mk.injEq] at h
    exact ⟨i, rfl, h.1, h.2.1, h.2.2⟩
theorem SlP.slc' {w : World} {P : Nat → Prop} {a : Option Addr} {c n : Nat} {xs : List Value} (h : SlP w P (.slice a n c) n xs) (hl : xs.length = n) : SlC w (.slice a n c) xs := by
  subst hl
  exact h.slc

def bindKs (B n : Nat) (a1 a2 a3 : Option Addr) (c1 c2 c3 : Nat) (fs ts ss : List Value) (X Y Z : Value) : List Knd := [.row 9 0 [], .fix (.pointer (some ⟨B, 0, none⟩)), .fix (.slice a1 n c1), .row 9 n fs, .fix X, .one 9 X, .row 9 (n + 1) (fs ++ [X]), .row 9 0 [], .fix (.pointer (some ⟨B, 1, none⟩)), .fix (.slice a2 n c2), .row 9 n ts, .fix Y, .one 9 Y, .row 9 (n + 1) (ts ++ [Y]), .row 3 0 [], .fix (.pointer (some ⟨B, 2, none⟩)), .fix (.slice a3 n c3), .row 3 n ss, .fix Z, .one 3 Z, .row 3 (n + 1) (ss ++ [Z])]

set_option maxRecDepth 100000 in
set_option maxHeartbeats 6400000 in
theorem bind_calls (fs ts ss : List Value) (x y : List UInt8) (z : Int) (a1 a2 a3 : Option Addr) (c1 c2 c3 n : Nat) (w : World) (P : Nat → Prop) (hn : n ≤ 8000) (hfl : fs.length = n) (htl : ts.length = n) (hsl : ss.length = n)
    (hfo : ∀ u ∈ fs, u.oneCell' = true) (hto : ∀ u ∈ ts, u.oneCell' = true) (hso : ∀ u ∈ ss, u.oneCell' = true)
    (h1 : SlP w P (.slice a1 n c1) n fs) (h2 : SlP w P (.slice a2 n c2) n ts) (h3 : SlP w P (.slice a3 n c3) n ss) :
    Calls Tryz.prog 87 #[.agg #[.slice a1 n c1, .slice a2 n c2, .slice a3 n c3], .string ⟨x.toArray⟩, .string ⟨y.toArray⟩, .int .i64 z] w fun e w' => ∃ b1 d1 b2 d2 b3 d3, e = .returned (.agg #[.slice b1 (n + 1) d1, .slice b2 (n + 1) d2, .slice b3 (n + 1) d3]) ∧
      SlP w' (New w) (.slice b1 (n + 1) d1) (n + 1) (fs ++ [sV x]) ∧ SlP w' (New w) (.slice b2 (n + 1) d2) (n + 1) (ts ++ [sV y]) ∧ SlP w' (New w) (.slice b3 (n + 1) d3) (n + 1) (ss ++ [.int .i64 z]) ∧ Upto [] w w' := by
  obtain ⟨i0, hi0, hz0, hz1, hz2⟩ := info9'
  obtain ⟨i3, hi3, hy0, hy1, hy2⟩ := info3'
  have HI := Lib.hid (And.intro hi0 (And.intro hz0 (And.intro hz1 hz2)))
  have HJ := Lib.hid (And.intro hi3 (And.intro hy0 (And.intro hy1 hy2)))
  have HS1 := Lib.hid h1
  have HS2 := Lib.hid h2
  have HS3 := Lib.hid h3
  have HL := Lib.hid (And.intro hfl (And.intro htl hsl))
  have HO := Lib.hid (And.intro hfo (And.intro hto hso))
  obtain ⟨X, hX⟩ : ∃ X, X = sV x := ⟨_, rfl⟩
  obtain ⟨Y, hY⟩ : ∃ Y, Y = sV y := ⟨_, rfl⟩
  have HXY := Lib.hid (And.intro hX hY)
  have hX1 : X.oneCell' = true := by rw [hX]; rfl
  have hY1 : Y.oneCell' = true := by rw [hY]; rfl
  have HX1 := Lib.hid (And.intro hX1 hY1)
  have hXe : Value.string ⟨x.toArray⟩ = X := hX.symm
  have hYe : Value.string ⟨y.toArray⟩ = Y := hY.symm
  rw [hXe, hYe, ← hX, ← hY]
  clear h1 h2 h3 hi0 hz0 hz1 hz2 hi3 hy0 hy1 hy2 hfl htl hsl hfo hto hso hX hY hXe hYe hX1 hY1
  obtain ⟨W, hW⟩ : ∃ W, W = (w.alloc (.cells #[.slice a1 n c1, .slice a2 n c2, .slice a3 n c3] 95)).alloc (.cells #[.slice none 0 0, .slice none 0 0, .slice none 0 0] 95) := ⟨_, rfl⟩
  have HU : Hid (Upto [] w W) := Lib.hid (by rw [hW]; exact ((Upto.refl [] w).alloc _).alloc _)
  have HB1 : Hid (W.heap[w.heap.size]? = some (.cells #[.slice a1 n c1, .slice a2 n c2, .slice a3 n c3] 95 (0, 0))) := Lib.hid (by rw [hW]; exact alloc_old (new_at w _) _)
  have HB2 : Hid (W.heap[w.heap.size + 1]? = some (.cells #[.slice none 0 0, .slice none 0 0, .slice none 0 0] 95 (0, 0))) := Lib.hid (by rw [hW]; exact new_at1 w _ _)
  go_enter Tryz.func87, Tryz.ntmps87
  go_wp2_with fail
  simp only [← hW]
  clear hW
  refine wp_region_hop (plan (bindKs w.heap.size n a1 a2 a3 c1 c2 c3 fs ts ss X Y (.int .i64 z)) [(3, 0), (6, 3), (10, 7), (13, 10), (17, 14), (20, 17)]) 21 (fun vals => Act.mk #[.agg #[.slice a1 n c1, .slice a2 n c2, .slice a3 n c3], X, Y, .int .i64 z, .pointer (some ⟨w.heap.size, 0, none⟩), undef, undef, undef, .pointer (some ⟨w.heap.size + 1, 0, none⟩), vals 0, vals 1, vals 2, vals 3, vals 4, vals 5, vals 6, vals 7, vals 8, vals 9, vals 10, vals 11, vals 12, vals 13, vals 14, vals 15, vals 16, vals 17, vals 18, vals 19, vals 20, undef] []) (by kernel_rfl) (by kernel_rfl) (fun vals => by kernel_rfl) (plan_stay _ _) ?_ ?_
  · refine all_lt_succ (all_lt_succ (all_lt_succ (all_lt_succ (all_lt_succ (all_lt_succ (all_lt_succ (all_lt_succ (all_lt_succ (all_lt_succ (all_lt_succ (all_lt_succ (all_lt_succ (all_lt_succ (all_lt_succ (all_lt_succ (all_lt_succ (all_lt_succ (all_lt_succ (all_lt_succ (all_lt_succ (fun j hj => absurd hj (Nat.not_lt_zero j)) ?h0) ?h1) ?h2) ?h3) ?h4) ?h5) ?h6) ?h7) ?h8) ?h9) ?h10) ?h11) ?h12) ?h13) ?h14) ?h15) ?h16) ?h17) ?h18) ?h19) ?h20

    case h0 =>
      refine hop_new (.row 9 0 []) rfl rfl (.cells #[] 9) (fun b => .slice (some ⟨b, 0, none⟩) 0 0) rfl ?_ (fun w => ownsRow_none w 9) (fun b => rfl)
      intro a w9 vals hL
      generalize a.eval = ρ at *
      simp [go_sem]
    case h1 =>
      refine hop_fix (.pointer (some ⟨w.heap.size, 0, none⟩)) rfl rfl rfl ?_
      intro a w9 vals hL
      have e4 : a.eval (.tmp 4) = .pointer (some ⟨w.heap.size, 0, none⟩) := hL.ev0 4 (by decide)
      generalize a.eval = ρ at *
      simp [go_sem, e4]
    case h2 =>
      refine hop_fix (.slice a1 n c1) rfl rfl rfl ?_
      intro a w9 vals hL
      have e1 := hL.ev 1 10 (by kernel_rfl) rfl
      have v1 := (hL.old 1 (by kernel_rfl) (by decide)).1
      rw [show vals 1 = .pointer (some ⟨w.heap.size, 0, none⟩) from v1] at e1
      have hu := hL.up.at HB1.out (by simp)
      have c0 := cell_of hu 0
      simp only [List.getElem?_toArray, List.getElem?_cons_zero] at c0
      generalize a.eval = ρ at *
      simp [go_sem, e1, c0]
    case h3 =>
      refine hop_app 0 9 0 n n [] fs rfl rfl rfl (by kernel_rfl) (by decide) (Nat.zero_add n).symm HL.out.1 (.tmp 9) (.tmp 11) 22 i0 _ 16 Tryz.underlying22 HI.out.1 HI.out.2.1 HI.out.2.2.1 HI.out.2.2.2 rfl 9 rfl rfl HO.out.1 (by unfold maxLen; omega) (by omega) rfl rfl ?_
      intro a w9 vals hL
      have e1 := hL.ev 2 11 (by kernel_rfl) rfl
      have v1 := (hL.old 2 (by kernel_rfl) (by decide)).1
      rw [e1, show vals 2 = .slice a1 n c1 from v1]
      exact (HS1.out.ext (HU.out.trans_ext hL.up)).slc' HL.out.1
    case h4 =>
      refine hop_fix X rfl rfl rfl ?_
      intro a w9 vals hL
      have e4 : a.eval (.tmp 1) = X := hL.ev0 1 (by decide)
      generalize a.eval = ρ at *
      simp [go_sem, e4]
    case h5 =>
      refine hop_new (.one 9 X) rfl rfl (.cells #[X] 9) (fun b => .slice (some ⟨b, 0, none⟩) 1 1) rfl ?_ (fun w => ⟨_, rfl, new_at w _⟩) (fun b => rfl)
      intro a w9 vals hL
      have e1 := hL.ev 4 13 (by kernel_rfl) rfl
      have v1 := (hL.old 4 (by kernel_rfl) (by decide)).1
      rw [show vals 4 = X from v1, HXY.out.1] at e1
      clear v1
      rw [HXY.out.1]
      generalize a.eval = ρ at *
      simp [go_sem, e1, sV]
    case h6 =>
      refine hop_app 3 9 n 1 (n + 1) fs [X] rfl rfl rfl (by kernel_rfl) (by decide) rfl rfl (.tmp 12) (.tmp 14) 22 i0 _ 16 Tryz.underlying22 HI.out.1 HI.out.2.1 HI.out.2.2.1 HI.out.2.2.2 rfl 12 rfl rfl (by simp [HX1.out.1]) (by unfold maxLen; omega) (by omega) rfl rfl ?_
      intro a w9 vals hL
      have e1 := hL.ev 5 14 (by kernel_rfl) rfl
      obtain ⟨b, v1, v2⟩ := (hL.old 5 (by kernel_rfl) (by decide)).1
      rw [e1, v1]
      exact Or.inr ⟨b, 0, 1, rfl, fun j u hj => (cell_of v2 (0 + j)).trans (by simpa using hj)⟩

    case h7 =>
      refine hop_new (.row 9 0 []) rfl rfl (.cells #[] 9) (fun b => .slice (some ⟨b, 0, none⟩) 0 0) rfl ?_ (fun w => ownsRow_none w 9) (fun b => rfl)
      intro a w9 vals hL
      generalize a.eval = ρ at *
      simp [go_sem]
    case h8 =>
      refine hop_fix (.pointer (some ⟨w.heap.size, 1, none⟩)) rfl rfl rfl ?_
      intro a w9 vals hL
      have e4 : a.eval (.tmp 4) = .pointer (some ⟨w.heap.size, 0, none⟩) := hL.ev0 4 (by decide)
      generalize a.eval = ρ at *
      simp [go_sem, e4]
    case h9 =>
      refine hop_fix (.slice a2 n c2) rfl rfl rfl ?_
      intro a w9 vals hL
      have e1 := hL.ev 8 17 (by kernel_rfl) rfl
      have v1 := (hL.old 8 (by kernel_rfl) (by decide)).1
      rw [show vals 8 = .pointer (some ⟨w.heap.size, 1, none⟩) from v1] at e1
      have hu := hL.up.at HB1.out (by simp)
      have c0 := cell_of hu 1
      simp only [List.getElem?_toArray, List.getElem?_cons_zero, List.getElem?_cons_succ] at c0
      generalize a.eval = ρ at *
      simp [go_sem, e1, c0]
    case h10 =>
      refine hop_app 7 9 0 n n [] ts rfl rfl rfl (by kernel_rfl) (by decide) (Nat.zero_add n).symm HL.out.2.1 (.tmp 16) (.tmp 18) 22 i0 _ 16 Tryz.underlying22 HI.out.1 HI.out.2.1 HI.out.2.2.1 HI.out.2.2.2 rfl 16 rfl rfl HO.out.2.1 (by unfold maxLen; omega) (by omega) rfl rfl ?_
      intro a w9 vals hL
      have e1 := hL.ev 9 18 (by kernel_rfl) rfl
      have v1 := (hL.old 9 (by kernel_rfl) (by decide)).1
      rw [e1, show vals 9 = .slice a2 n c2 from v1]
      exact (HS2.out.ext (HU.out.trans_ext hL.up)).slc' HL.out.2.1
    case h11 =>
      refine hop_fix Y rfl rfl rfl ?_
      intro a w9 vals hL
      have e4 : a.eval (.tmp 2) = Y := hL.ev0 2 (by decide)
      generalize a.eval = ρ at *
      simp [go_sem, e4]
    case h12 =>
      refine hop_new (.one 9 Y) rfl rfl (.cells #[Y] 9) (fun b => .slice (some ⟨b, 0, none⟩) 1 1) rfl ?_ (fun w => ⟨_, rfl, new_at w _⟩) (fun b => rfl)
      intro a w9 vals hL
      have e1 := hL.ev 11 20 (by kernel_rfl) rfl
      have v1 := (hL.old 11 (by kernel_rfl) (by decide)).1
      rw [show vals 11 = Y from v1, HXY.out.2] at e1
      clear v1
      rw [HXY.out.2]
      generalize a.eval = ρ at *
      simp [go_sem, e1, sV]
    case h13 =>
      refine hop_app 10 9 n 1 (n + 1) ts [Y] rfl rfl rfl (by kernel_rfl) (by decide) rfl rfl (.tmp 19) (.tmp 21) 22 i0 _ 16 Tryz.underlying22 HI.out.1 HI.out.2.1 HI.out.2.2.1 HI.out.2.2.2 rfl 19 rfl rfl (by simp [HX1.out.2]) (by unfold maxLen; omega) (by omega) rfl rfl ?_
      intro a w9 vals hL
      have e1 := hL.ev 12 21 (by kernel_rfl) rfl
      obtain ⟨b, v1, v2⟩ := (hL.old 12 (by kernel_rfl) (by decide)).1
      rw [e1, v1]
      exact Or.inr ⟨b, 0, 1, rfl, fun j u hj => (cell_of v2 (0 + j)).trans (by simpa using hj)⟩

    case h14 =>
      refine hop_new (.row 3 0 []) rfl rfl (.cells #[] 3) (fun b => .slice (some ⟨b, 0, none⟩) 0 0) rfl ?_ (fun w => ownsRow_none w 3) (fun b => rfl)
      intro a w9 vals hL
      generalize a.eval = ρ at *
      simp [go_sem]
    case h15 =>
      refine hop_fix (.pointer (some ⟨w.heap.size, 2, none⟩)) rfl rfl rfl ?_
      intro a w9 vals hL
      have e4 : a.eval (.tmp 4) = .pointer (some ⟨w.heap.size, 0, none⟩) := hL.ev0 4 (by decide)
      generalize a.eval = ρ at *
      simp [go_sem, e4]
    case h16 =>
      refine hop_fix (.slice a3 n c3) rfl rfl rfl ?_
      intro a w9 vals hL
      have e1 := hL.ev 15 24 (by kernel_rfl) rfl
      have v1 := (hL.old 15 (by kernel_rfl) (by decide)).1
      rw [show vals 15 = .pointer (some ⟨w.heap.size, 2, none⟩) from v1] at e1
      have hu := hL.up.at HB1.out (by simp)
      have c0 := cell_of hu 2
      simp only [List.getElem?_toArray, List.getElem?_cons_zero, List.getElem?_cons_succ] at c0
      generalize a.eval = ρ at *
      simp [go_sem, e1, c0]
    case h17 =>
      refine hop_app 14 3 0 n n [] ss rfl rfl rfl (by kernel_rfl) (by decide) (Nat.zero_add n).symm HL.out.2.2 (.tmp 23) (.tmp 25) 93 i3 _ 8 Tryz.underlying93 HJ.out.1 HJ.out.2.1 HJ.out.2.2.1 HJ.out.2.2.2 rfl 23 rfl rfl HO.out.2.2 (by unfold maxLen; omega) (by omega) rfl rfl ?_
      intro a w9 vals hL
      have e1 := hL.ev 16 25 (by kernel_rfl) rfl
      have v1 := (hL.old 16 (by kernel_rfl) (by decide)).1
      rw [e1, show vals 16 = .slice a3 n c3 from v1]
      exact (HS3.out.ext (HU.out.trans_ext hL.up)).slc' HL.out.2.2
    case h18 =>
      refine hop_fix (.int .i64 z) rfl rfl rfl ?_
      intro a w9 vals hL
      have e4 : a.eval (.tmp 3) = (.int .i64 z) := hL.ev0 3 (by decide)
      generalize a.eval = ρ at *
      simp [go_sem, e4]
    case h19 =>
      refine hop_new (.one 3 (.int .i64 z)) rfl rfl (.cells #[.int .i64 z] 3) (fun b => .slice (some ⟨b, 0, none⟩) 1 1) rfl ?_ (fun w => ⟨_, rfl, new_at w _⟩) (fun b => rfl)
      intro a w9 vals hL
      have e1 := hL.ev 18 27 (by kernel_rfl) rfl
      have v1 := (hL.old 18 (by kernel_rfl) (by decide)).1
      rw [show vals 18 = .int .i64 z from v1] at e1
      clear v1
      skip
      generalize a.eval = ρ at *
      simp [go_sem, e1]
    case h20 =>
      refine hop_app 17 3 n 1 (n + 1) ss [.int .i64 z] rfl rfl rfl (by kernel_rfl) (by decide) rfl rfl (.tmp 26) (.tmp 28) 93 i3 _ 8 Tryz.underlying93 HJ.out.1 HJ.out.2.1 HJ.out.2.2.1 HJ.out.2.2.2 rfl 26 rfl rfl (by simp [Value.oneCell']) (by unfold maxLen; omega) (by omega) rfl rfl ?_
      intro a w9 vals hL
      have e1 := hL.ev 19 28 (by kernel_rfl) rfl
      obtain ⟨b, v1, v2⟩ := (hL.old 19 (by kernel_rfl) (by decide)).1
      rw [e1, v1]
      exact Or.inr ⟨b, 0, 1, rfl, fun j u hj => (cell_of v2 (0 + j)).trans (by simpa using hj)⟩

  · intro vals w9 hu9 hf
    have r1 : w9.ownsRow 0 9 1 (vals 6) (n + 1) (fs ++ [X]) ∧ ∀ b ∈ (vals 6).ownBlock.toList, W.heap.size ≤ b ∧ b < w9.heap.size := hf 6 (by omega) (show ∀ k, k < 21 → List.lookup k [(3, 0), (6, 3), (10, 7), (13, 10), (17, 14), (20, 17)] ≠ some 6 by decide)
    have r2 : w9.ownsRow 0 9 1 (vals 13) (n + 1) (ts ++ [Y]) ∧ ∀ b ∈ (vals 13).ownBlock.toList, W.heap.size ≤ b ∧ b < w9.heap.size := hf 13 (by omega) (show ∀ k, k < 21 → List.lookup k [(3, 0), (6, 3), (10, 7), (13, 10), (17, 14), (20, 17)] ≠ some 13 by decide)
    have r3 : w9.ownsRow 0 3 1 (vals 20) (n + 1) (ss ++ [.int .i64 z]) ∧ ∀ b ∈ (vals 20).ownBlock.toList, W.heap.size ≤ b ∧ b < w9.heap.size := hf 20 (by omega) (show ∀ k, k < 21 → List.lookup k [(3, 0), (6, 3), (10, 7), (13, 10), (17, 14), (20, 17)] ≠ some 20 by decide)
    clear hf
    simp only [List.drop_succ_cons, List.drop_zero]
    obtain ⟨b1, d1, hv1, -⟩ := ownsRow_len r1.1
    obtain ⟨b2, d2, hv2, -⟩ := ownsRow_len r2.1
    obtain ⟨b3, d3, hv3, -⟩ := ownsRow_len r3.1
    rw [hv1] at r1
    rw [hv2] at r2
    rw [hv3] at r3
    have R1 := Lib.hid (And.intro r1 (And.intro r2 r3))
    show wpList _ _ _ _ (Act.mk _ _) w9
    rw [hv1, hv2, hv3]
    clear r1 r2 r3 hv1 hv2 hv3
    try generalize vals 0 = u0
    try generalize vals 1 = u1
    try generalize vals 2 = u2
    try generalize vals 3 = u3
    try generalize vals 4 = u4
    try generalize vals 5 = u5
    try generalize vals 7 = u7
    try generalize vals 8 = u8
    try generalize vals 9 = u9
    try generalize vals 10 = u10
    try generalize vals 11 = u11
    try generalize vals 12 = u12
    try generalize vals 14 = u14
    try generalize vals 15 = u15
    try generalize vals 16 = u16
    try generalize vals 17 = u17
    try generalize vals 18 = u18
    try generalize vals 19 = u19
    have HB9 := Lib.hid (hu9.at HB2.out (by simp))
    obtain ⟨y0, y1, y2⟩ := cells3 HB9.out
    obtain ⟨f0, f1, f2⟩ := frees3 HB9.out
    go_wp2_with fail
    have hst : ((((w9.setCell ⟨w.heap.size + 1, 0, none⟩ (.slice b1 (n + 1) d1)).setCell ⟨w.heap.size + 1, 1, none⟩ (.slice b2 (n + 1) d2)).setCell ⟨w.heap.size + 1, 2, none⟩ (.slice b3 (n + 1) d3))).heap[w.heap.size + 1]? = some (.cells #[.slice b1 (n + 1) d1, .slice b2 (n + 1) d2, .slice b3 (n + 1) d3] 95 (0, 0)) := set_same (set_same (set_same HB9.out 0 _) 1 _) 2 _
    have hself : Upto [w.heap.size + 1] w9 ((((w9.setCell ⟨w.heap.size + 1, 0, none⟩ (.slice b1 (n + 1) d1)).setCell ⟨w.heap.size + 1, 1, none⟩ (.slice b2 (n + 1) d2)).setCell ⟨w.heap.size + 1, 2, none⟩ (.slice b3 (n + 1) d3))) := (((Upto.refl _ w9).setCell (p := ⟨w.heap.size + 1, 0, none⟩) (Or.inl (by simp)) _).setCell (p := ⟨w.heap.size + 1, 1, none⟩) (Or.inl (by simp)) _).setCell (p := ⟨w.heap.size + 1, 2, none⟩) (Or.inl (by simp)) _
    have hWs : w.heap.size + 1 < W.heap.size := lt_of_heap HB2.out
    have row : ∀ {e : TypeId} {b : Option Addr} {d : Nat} {xs : List Value}, (w9.ownsRow 0 e 1 (.slice b (n + 1) d) (n + 1) xs ∧ ∀ g ∈ (Value.slice b (n + 1) d).ownBlock.toList, W.heap.size ≤ g ∧ g < w9.heap.size) → SlP ((((w9.setCell ⟨w.heap.size + 1, 0, none⟩ (.slice b1 (n + 1) d1)).setCell ⟨w.heap.size + 1, 1, none⟩ (.slice b2 (n + 1) d2)).setCell ⟨w.heap.size + 1, 2, none⟩ (.slice b3 (n + 1) d3))) (New w) (.slice b (n + 1) d) (n + 1) xs := fun {e b d xs} h => by
      have h5 := ownsRow_upto h.1 hself (fun g hg hm => by
        have := (h.2 g (Option.mem_toList.2 hg)).1
        simp at hm
        omega)
      exact SlP.of_row h5 (fun g hg => by
        have := (h.2 g (Option.mem_toList.2 hg)).1
        show w.heap.size ≤ g
        omega)
    obtain ⟨q0, q1, q2⟩ := cells3 hst
    exact bodyPost_ret (v := .agg #[.slice b1 (n + 1) d1, .slice b2 (n + 1) d2, .slice b3 (n + 1) d3]) (by simp [results, Tryz.results87, go_sem, q0, q1, q2]) rfl ⟨b1, d1, b2, d2, b3, d3, rfl, row R1.out.1, row R1.out.2.1, row R1.out.2.2, (HU.out.trans_ext hu9).trans hself (fun g hg => Or.inr (by simp at hg; omega))⟩
end Go.Proofs.YtbnebkkpmcjmbaaGreatDoor


namespace Go.Proofs.YtbnebkkpmcjmbaaGreatDoor
open Go.RowKit Go.PL Go.Maps Go.Shelf
set_option maxRecDepth 100000 in
set_option maxHeartbeats 2000000 in
theorem mcloneT_calls (b : Nat) (es : Array MapEntry) (clock : Nat) (w : World) (hb : w.heap[b]? = some (.map es clock)) :
    Calls Tryz.prog 86 #[.map (some b)] w fun e w' => e = .returned (.map (some w.heap.size)) ∧ w' = w.alloc (.map es clock) := by
  have hq := fun w => run_eql_map_nil_sl (P := Tryz.prog) w 88 _ _ (some b) Tryz.underlying88
  go_enter Tryz.func86, Tryz.ntmps86
  go_wp2
  rw [run_callFunc_extern Tryz.func98 (by kernel_rfl) (by kernel_rfl) (by kernel_rfl) (e := Extern.MapsClone.clone) (by kernel_rfl), run_maps_clone_sl w 88 hb]
  simp only [Result.andThen]
  rw [Oper.upon_value]
  go_wp2
  rw [run_typeAssert_map_sl _ 88 20 _ _ _ Tryz.underlying88]
  simp only [Result.andThen]
  rw [Oper.upon_value]
  go_wp2
  go_ret
  exact ⟨rfl, rfl⟩
end Go.Proofs.YtbnebkkpmcjmbaaGreatDoor


namespace Go.PL
open Go.RowKit
/-- what such an operation leaves does not hang on the world -/
def pureOp (o : Oper) : Bool := match o.op with | .extract .. => true | .move _ => true | .assign _ => true | _ => false
theorem pure_any {P : Program} {o : Oper} {ρ : Operand → Value} (hp : pureOp o = true) {w : World} {v : Value} (h : (execOp ρ o).run P w = .ok (.value v) w) (w' : World) : (execOp ρ o).run P w' = .ok (.value v) w' := by
  obtain ⟨dst, op, type, pos, after, guard⟩ := o
  cases op <;> simp only [pureOp, Bool.false_eq_true] at hp
  case move x =>
    simp only [execOp, Sem.run_pure] at h ⊢
    cases h
    rfl
  case assign x =>
    simp only [execOp, Sem.run_pure] at h ⊢
    cases h
    rfl
  case extract x i =>
    simp only [execOp] at h ⊢
    cases hx : ρ x
    case tuple vs =>
      cases hv : vs[i]? <;> simp [hx, hv, Instr.extract, stuck, Result.andThen] at h ⊢
      exact h
    all_goals simp [hx, Instr.extract, stuck, Result.andThen] at h
section
variable {P : Program} {ops : Array Oper} {W : World} {Cs As : List Nat} {K : List Fact → Act → Prop}
structure FitP (ops : Array Oper) (Cs As Ps : List Nat) (l : List Nat) (listed : Array Bool) : Prop where
  size : listed.size = ops.size
  closed : Closed ops listed
  un : ∀ i ∈ l, i < ops.size ∧ listed.getD i false = false
  deps : ∀ i ∈ l, ∀ o, ops[i]? = some o → ∀ e ∈ o.after, Region.binds .any e = true → listed.getD e.on false = true ∨ (e.on ∈ l ∧ e.on ≠ i)
  others : ∀ k, k < ops.size → listed.getD k false = false → k ∉ l → ∀ i ∈ l, i ∈ Ps ∨ reach ops k i = true
  pairs : l.Pairwise fun i j => before ops Cs As i j = true
theorem FitP.step {Ps l1 l2 : List Nat} {j : Nat} {oj : Oper} {listed : Array Bool} (h : FitP ops Cs As Ps (l1 ++ j :: l2) listed) (hj : ops[j]? = some oj) (hd : ∀ e ∈ oj.after, Region.binds .any e = true → listed.getD e.on false = true) : FitP ops Cs As Ps (l1 ++ l2) (listed.setIfInBounds j true) := by
  have hjm : j ∈ l1 ++ j :: l2 := by simp
  have hjl : j < listed.size := by rw [h.size]; exact (h.un j hjm).1
  have hsub : ∀ i ∈ l1 ++ l2, i ∈ l1 ++ j :: l2 := fun i hi => by rcases List.mem_append.1 hi with hi | hi <;> simp [hi]
  have hne : ∀ i ∈ l1 ++ l2, i ≠ j := by
    intro i hi he
    subst he
    have hp := h.pairs
    rw [List.pairwise_append] at hp
    rcases List.mem_append.1 hi with hi | hi
    · have := hp.2.2 i hi i (by simp)
      simp [before] at this
    · have := (List.pairwise_cons.1 hp.2.1).1 i hi
      simp [before] at this
  refine ⟨by simp [h.size], ?_, ?_, ?_, ?_, ?_⟩
  · intro i o ho hl e he hb
    rw [getD_set hjl] at hl ⊢
    rw [Bool.or_eq_true] at hl ⊢
    rcases hl with hl | hl
    · exact Or.inl (h.closed i o ho hl e he hb)
    · simp at hl
      subst hl
      rw [hj] at ho
      cases ho
      exact Or.inl (hd e he hb)
  · intro i hi
    refine ⟨(h.un i (hsub i hi)).1, ?_⟩
    rw [getD_set hjl, (h.un i (hsub i hi)).2]
    simp [hne i hi]
  · intro i hi o ho e he hb
    rw [getD_set hjl]
    rcases h.deps i (hsub i hi) o ho e he hb with h1 | ⟨h1, h2⟩
    · exact Or.inl (by rw [h1]; rfl)
    · by_cases hej : e.on = j
      · exact Or.inl (by simp [hej])
      · refine Or.inr ⟨?_, h2⟩
        rcases List.mem_append.1 h1 with h1 | h1
        · simp [h1]
        · rcases List.mem_cons.1 h1 with h1 | h1
          · exact absurd h1 hej
          · simp [h1]
  · intro k hk hun hkl i hi
    rw [getD_set hjl, Bool.or_eq_false_iff] at hun
    refine h.others k hk hun.1 (fun hm => ?_) i (hsub i hi)
    have hkj : k ≠ j := by simpa using hun.2
    rcases List.mem_append.1 hm with hm | hm
    · exact hkl (by simp [hm])
    · rcases List.mem_cons.1 hm with hm | hm
      · exact hkj hm
      · exact hkl (by simp [hm])
  · exact h.pairs.sublist (List.Sublist.append_left (List.sublist_cons_self _ _) _)
theorem FitP.head {Ps l' : List Nat} {i0 : Nat} {listed : Array Bool} (hF : FitP ops Cs As Ps (i0 :: l') listed) : i0 ∈ Region.ready .any ops listed := by
  have h0 := hF.un i0 (by simp)
  refine mem_ready.2 ⟨(listed_lt (by rw [hF.size]; exact h0.1)).2 (by rw [h0.2]; simp), ops[i0]'h0.1, Array.getElem?_eq_getElem h0.1, fun e he hb => ?_⟩
  rcases hF.deps i0 (by simp) _ (Array.getElem?_eq_getElem h0.1) e he hb with h1 | ⟨h1, h2⟩
  · exact h1
  · have hm : e.on ∈ l' := by
      rcases List.mem_cons.1 h1 with h1 | h1
      · exact absurd h1 h2
      · exact h1
    have hp := (List.pairwise_cons.1 hF.pairs).1 _ hm
    have hwt := waits_true (Array.getElem?_eq_getElem h0.1) he hb rfl
    simp [before, hwt] at hp
/-- nobody but those that i waits for, or that wait for i, has to do with i -/
def pfree (ops : Array Oper) (i : Nat) : Bool :=
  match ops[i]? with
  | none => false
  | some oi => (List.range ops.size).all fun j => j == i || reach ops i j || match ops[j]? with
      | some oj => oj.after.any (fun e => Region.binds .any e && e.on == i) || oi.apart ops oj
      | none => true
theorem pfree_free {i : Nat} {o : Oper} {listed : Array Bool} (hs : listed.size = ops.size) (hc : Closed ops listed) (ho : ops[i]? = some o) (hall : ∀ e ∈ o.after, Region.binds .any e = true → listed.getD e.on false = true) (h : pfree ops i = true) : Region.free .any ops listed i = true := by
  unfold pfree at h
  unfold Region.free
  split at h
  · cases h
  · rename_i oi hoi
    simp only [hoi]
    rw [List.all_eq_true] at h ⊢
    intro j hj
    have h1 := h j hj
    have hjl : j < ops.size := List.mem_range.1 hj
    cases hr : reach ops i j with
    | false =>
      rw [hr, Bool.or_false] at h1
      obtain ⟨oj, hoj⟩ : ∃ oj, ops[j]? = some oj := ⟨_, Array.getElem?_eq_getElem hjl⟩
      simp only [hoj] at h1 ⊢
      rw [Bool.or_assoc, Bool.or_left_comm, h1, Bool.or_true]
    | true =>
      have h2 := reach_listed hc (i + 1) i o (by omega) ho hall hr
      have h3 : listed.getD j true = true := by
        have := (listed_lt (listed := listed) (i := j) (by rw [hs]; exact hjl))
        cases h4 : listed.getD j true with
        | true => rfl
        | false => exact absurd h2 (this.1 h4)
      rw [h3, Bool.or_true, Bool.true_or]
/-- the operations that are left only hand values on: they are taken ahead of all others -/
theorem take_all {Q : Exit → Act → World → Prop} (hQ : ∀ c a d v w, Q (.panic c) (Act.put a d v) w → Q (.panic c) a w) (hsel : Region.noSelect ops = true) {Ps : List Nat} (hPs : ∀ i ∈ Ps, i ∉ Cs ∧ i ∉ As ∧ (∀ o, ops[i]? = some o → pureOp o = true) ∧ pfree ops i = true)
    {fuelT : Nat} {listedT : Array Bool} (hfin : ∀ Fs a w, K Fs a → Good W Fs w → wpAny P .any ops Q fuelT listedT a w) :
    ∀ (l : List Nat) (Fs : List Fact) (a : Act) (w : World) (listed : Array Bool), (∀ i ∈ l, i ∈ Ps) → FitP ops Cs As Ps l listed → l.foldl (fun x i => x.setIfInBounds i true) listed = listedT → Good W Fs w → Seg P ops W Cs As K l Fs a →
      wpAny P .any ops Q (l.length + fuelT) listed a w
  | [], Fs, a, w, listed, _, _, hT, hg, hs => by
    cases hT
    rw [List.length_nil, Nat.zero_add]
    exact hfin Fs a w hs hg
  | i :: l, Fs, a, w, listed, hl, hF, hT, hg, hs => by
    obtain ⟨o, ho, h⟩ := Seg_cons.1 hs
    obtain ⟨p1, p2, p3, p4⟩ := hPs i (hl i (by simp))
    have hr := hF.head
    obtain ⟨-, o', ho', hall⟩ := mem_ready.1 hr
    rw [ho] at ho'
    cases ho'
    have hF' := FitP.step (l1 := []) hF ho hall
    rw [List.length_cons, Nat.succ_add]
    unfold Head at h
    by_cases hw : Region.wanted o (yielded ops a.tmps) = true
    · rw [if_pos hw, if_neg p2, if_neg p1] at h
      obtain ⟨hp, C, hC, v, h1, h2⟩ := h
      have hv := plain_val hp (h1 w (hC w hg.up (DF_iff.2 fun f hf _ => AllHold_iff.1 hg.hold f hf)))
      exact wpAny_take ho hsel (pfree_free hF.size hF.closed ho hall p4) (by simpa using hr) (fun c a w h => hQ c a _ _ w h) (Or.inl ⟨hw, pure_any (p3 o ho) hv⟩) (take_all hQ hsel hPs hfin l Fs _ w _ (fun k hk => hl k (by simp [hk])) hF' hT hg h2)
    · rw [if_neg hw] at h
      exact wpAny_take ho hsel (pfree_free hF.size hF.closed ho hall p4) (by simpa using hr) (fun c a w h => hQ c a _ _ w h) (Or.inr ⟨by simpa using hw, rfl⟩) (take_all hQ hsel hPs hfin l Fs _ w _ (fun k hk => hl k (by simp [hk])) hF' hT hg h)
theorem seg_anyP {Q : Exit → Act → World → Prop} (hQ : ∀ c a d v w, Q (.panic c) (Act.put a d v) w → Q (.panic c) a w) (hsel : Region.noSelect ops = true) (hK : ∀ Fs Fs' a, Fs.Perm Fs' → K Fs a → K Fs' a) {Ps : List Nat} (hPs : ∀ i ∈ Ps, i ∉ Cs ∧ i ∉ As ∧ (∀ o, ops[i]? = some o → pureOp o = true) ∧ pfree ops i = true)
    {fuelT : Nat} {listedT : Array Bool} (hfin : ∀ Fs a w, K Fs a → Good W Fs w → wpAny P .any ops Q fuelT listedT a w) :
    ∀ (n : Nat) (l : List Nat) (Fs : List Fact) (a : Act) (w : World) (listed : Array Bool), l.length = n → FitP ops Cs As Ps l listed → l.foldl (fun x i => x.setIfInBounds i true) listed = listedT → Good W Fs w → Seg P ops W Cs As K l Fs a →
      wpAny P .any ops Q (n + fuelT) listed a w := by
  intro n
  induction n with
  | zero =>
    intro l Fs a w listed hl _ hT hg hs
    obtain rfl := List.length_eq_zero_iff.1 hl
    cases hT
    rw [Nat.zero_add]
    exact hfin Fs a w hs hg
  | succ n ih =>
    intro l Fs a w listed hl hF hT hg hs
    by_cases hallP : ∀ i ∈ l, i ∈ Ps
    · rw [← hl]
      exact take_all hQ hsel hPs hfin l Fs a w listed hallP hF hT hg hs
    obtain ⟨i9, hi9, hn9⟩ : ∃ i, i ∈ l ∧ i ∉ Ps := Classical.byContradiction fun hno => hallP fun i hi => Classical.byContradiction fun hn => hno ⟨i, hi, hn⟩
    obtain ⟨i0, l', rfl⟩ : ∃ i l', l = i :: l' := by cases l with | nil => simp at hl | cons i l' => exact ⟨i, l', rfl⟩
    have hr0 := hF.head
    rw [Nat.succ_add]
    refine ⟨(fun hn => by rw [hn] at hr0; cases hr0), fun j hj => ?_⟩
    obtain ⟨hjun, oj, hoj, hall⟩ := mem_ready.1 hj
    have hjlt : j < ops.size := (Array.getElem?_eq_some_iff.1 hoj).1
    have hjf : listed.getD j false = false := by
      have := (listed_lt (listed := listed) (by rw [hF.size]; exact hjlt)).1 hjun
      simpa using this
    have hreach : ∀ i, reach ops j i = true → listed.getD i false = true := fun i hr => reach_listed hF.closed (j + 1) j oj (by omega) hoj hall hr
    have hjl : j ∈ i0 :: l' := by
      by_cases hm : j ∈ i0 :: l'
      · exact hm
      · have := hreach i9 ((hF.others j hjlt hjf hm i9 hi9).resolve_left hn9)
        rw [(hF.un i9 hi9).2] at this
        cases this
    obtain ⟨l1, l2, hsplit⟩ := List.append_of_mem hjl
    rw [hsplit] at hF hT hs hl
    have hcond : ∀ i ∈ l1, before ops Cs As i j = true ∧ waits ops j i = false ∧ reach ops j i = false := by
      intro i hi
      have hun := (hF.un i (by simp [hi])).2
      refine ⟨(List.pairwise_append.1 hF.pairs).2.2 i hi j (by simp), ?_, ?_⟩
      · cases hwt : waits ops j i with
        | false => rfl
        | true =>
          unfold waits at hwt
          rw [hoj] at hwt
          obtain ⟨e, he, hb⟩ := Array.any_eq_true'.1 hwt
          simp only [Bool.and_eq_true, beq_iff_eq] at hb
          have := hall e he hb.1
          rw [hb.2, hun] at this
          cases this
      · cases hr : reach ops j i with
        | false => rfl
        | true =>
          have := hreach i hr
          rw [hun] at this
          cases this
    have hne : ∀ i ∈ l1, i ≠ j := fun i hi he => by
      have := (hcond i hi).1
      simp [before, he] at this
    have hdf : DF ops j Fs w := DF_iff.2 fun f hf _ => AllHold_iff.1 hg.hold f hf
    have hF' := hF.step hoj hall
    have hT' : (l1 ++ l2).foldl (fun x i => x.setIfInBounds i true) (listed.setIfInBounds j true) = listedT := by rw [foldl_move l2 j l1 listed hne]; exact hT
    have hl' : (l1 ++ l2).length = n := by
      simp at hl ⊢
      omega
    by_cases hjc : j ∈ Cs ∧ j ∉ As
    · refine wpOp_of_out hoj ((moveC hsel hoj hjc.1 hjc.2 hg.up l1 Fs a hcond hdf hs).mono ?_)
      rintro u w' ⟨nf, h1, h2⟩
      exact ih _ _ _ _ _ hl' hF' hT' (hg.step h1) h2
    · obtain ⟨u, w', nf, h1, h2, h3⟩ := moveN hsel hK hoj (fun hc => by
        refine Classical.byContradiction fun hn => hjc ⟨hc, hn⟩) hg.up l1 Fs a hcond hdf hs
      exact wpOp_of_res hoj h1 (ih _ _ _ _ _ hl' hF' hT' (hg.step h2.sc) h3)
def seg4B (ops : Array Oper) (Cs As Ps ord tail : List Nat) : Bool :=
  Region.noSelect ops && pairsB ops Cs As ord && (ord.length + tail.length == ops.size) &&
  ord.all (fun i => match ops[i]? with | some o => o.after.all fun e => !(Region.binds .any e) || (ord.contains e.on && e.on != i) | none => false) &&
  (List.range ops.size).all (fun k => ord.contains k || ord.all fun i => Ps.contains i || reach ops k i) &&
  tailB ops (ord.foldl (fun x i => x.setIfInBounds i true) (Array.replicate ops.size false)) tail &&
  Ps.all (fun i => !(Cs.contains i) && !(As.contains i) && (match ops[i]? with | some o => pureOp o | none => true) && pfree ops i)
/-- **A REGION THAT DRAWS ITS ORDER**, where the operations of Ps only hand values on and the last ones need not wait for them -/
theorem wp_region_seg4_at {id : Nat} {Q : Exit → Act → World → Prop} {a : Act} {w : World} {l : List Oper} (Cs As Ps ord tail : List Nat) (n : Nat) (hQ : ∀ c a d v w, Q (.panic c) (Act.put a d v) w → Q (.panic c) a w) (hm : P.follows .mixedOrders = true)
    (hB : seg4B l.toArray Cs As Ps ord tail = true) (ht : (tail == (List.range l.length).drop n) = true)
    (h : Seg P l.toArray w Cs As (fun Fs a' => ∀ w', Good w Fs w' → wpList P l.toArray Q (l.drop n) a' w') ord [] a) : (Code.region id l.toArray true).wp P Q a w := by
  have ht2 : tail.map (fun i => l.toArray[i]?) = (l.drop n).map some := by
    rw [beq_iff_eq] at ht
    subst ht
    apply List.ext_getElem?
    intro i
    by_cases hi : n + i < l.length
    · simp [List.getElem?_drop, hi]
    · simp [List.getElem?_drop, hi]
  simp only [seg4B, Bool.and_eq_true, List.all_eq_true, beq_iff_eq] at hB
  obtain ⟨⟨⟨⟨⟨⟨h1, h2⟩, h3⟩, h4⟩, h5⟩, h6⟩, h7⟩ := hB
  refine wp_region_any hm ?_
  have hrep : ∀ k, (Array.replicate l.toArray.size false).getD k false = false := by
    intro k
    simp [Array.getD]
  have hPs : ∀ i ∈ Ps, i ∉ Cs ∧ i ∉ As ∧ (∀ o, l.toArray[i]? = some o → pureOp o = true) ∧ pfree l.toArray i = true := fun i hi => by
    obtain ⟨⟨⟨g1, g2⟩, g3⟩, g4⟩ := h7 i hi
    refine ⟨by simpa using g1, by simpa using g2, fun o ho => ?_, g4⟩
    rw [ho] at g3
    exact g3
  have hs := seg_anyP (P := P) (ops := l.toArray) (W := w) (Cs := Cs) (As := As) (Q := Q) (K := fun Fs a' => ∀ w', Good w Fs w' → wpList P l.toArray Q (l.drop n) a' w') hQ h1 (fun Fs Fs' a hp hk w' hg => hk w' (hg.perm hp)) hPs (fuelT := tail.length)
    (listedT := ord.foldl (fun x i => x.setIfInBounds i true) (Array.replicate l.toArray.size false))
    (fun Fs a w' hk hg => wpAny_tail tail _ a w' h6 (by rw [wpOps_list tail _ ht2]; exact hk w' hg)) ord.length ord [] a { w with drawn := w.drawn + 1 } (Array.replicate l.toArray.size false) rfl ?_ rfl ⟨(Upto.refl [] w).drew, trivial, (by simp), (by simp), (by simp [ownAll])⟩ h
  · rw [h3] at hs
    exact hs
  · refine ⟨by simp, ?_, ?_, ?_, ?_, pairsB_spec _ h2⟩
    · intro i o _ hl
      rw [hrep] at hl
      cases hl
    · intro i hi
      refine ⟨?_, hrep i⟩
      have := h4 i hi
      split at this
      · rename_i o ho
        exact (Array.getElem?_eq_some_iff.1 ho).1
      · cases this
    · intro i hi o ho e he hb
      have := h4 i hi
      rw [ho] at this
      have := Array.all_eq_true_iff_forall_mem.1 this e he
      rw [hb] at this
      simp at this
      exact Or.inr this
    · intro k hk _ hn i hi
      have := h5 k (List.mem_range.2 hk)
      simp [hn] at this
      rcases this i hi with h8 | h8
      · exact Or.inl h8
      · exact Or.inr h8
end
end Go.PL


namespace Go.Proofs.YtbnebkkpmcjmbaaGreatDoor
open Go.RowKit Go.PL Go.Maps
theorem two_at {w : World} {g : Nat} {v0 v1 : Value} {t : TypeId} {z : Nat × Nat} (h : w.heap[g]? = some (.cells #[v0, v1] t z)) : ∀ (j : Nat) u, [v0, v1][j]? = some u → w.cell? ((⟨g, 0, none⟩ : Addr).add j) = some u := by
  intro j u hj
  rw [Addr.add_lit, Nat.zero_add, cell_of h]
  simpa using hj
theorem infoV (T : TypeId) (h : (Tryz.prog.info? T).map (fun i => (i.zero, i.size, i.bytes)) = some (some (.agg #[.string ⟨#[]⟩, .int .i64 0]), 2, 24)) : ∃ i, Tryz.prog.info? T = some i ∧ i.zero = some (.agg #[.string ⟨#[]⟩, .int .i64 0]) ∧ i.size = 2 ∧ i.bytes = 24 := by
  cases hi : Tryz.prog.info? T with
  | none => rw [hi] at h; cases h
  | some i =>
    rw [hi] at h
    simp only [Option.map_some, Option.some.injEq, Prod.mk.injEq] at h
    exact ⟨i, rfl, h.1, h.2.1, h.2.2⟩
theorem infoV86 : ∃ i, Tryz.prog.info? 86 = some i ∧ i.zero = some (.agg #[.string ⟨#[]⟩, .int .i64 0]) ∧ i.size = 2 ∧ i.bytes = 24 := infoV 86 (by kernel_rfl)
theorem infoV90 : ∃ i, Tryz.prog.info? 90 = some i ∧ i.zero = some (.agg #[.string ⟨#[]⟩, .int .i64 0]) ∧ i.size = 2 ∧ i.bytes = 24 := infoV 90 (by kernel_rfl)
/-- a question made anew -/
def QuPost (w : World) (q : Qn) (e : Ending) (w' : World) : Prop := ∃ v, e = .returned v ∧ QnV w' (New w) q v ∧ Upto [] w w'
/-- the question under way: its body is laid, so many variables are taken -/
structure QbI (w4 : World) (bn : Nat) (x1 x2 x3 x4 x5 x6 : Value) (T EL : TypeId) (f : List (List UInt8 × Int)) (j : Nat) (wr : World) : Prop where
  up : Upto [bn] w4 wr
  st : ∃ (va : Option Addr) (vn vc : Nat), wr.heap[bn]? = some (.cells #[.slice va vn vc, x1, x2, x3, x4, x5, x6] T (0, 0)) ∧ wr.ownsRow 0 EL 2 (.slice va vn vc) j ((f.take j).flatMap varC) ∧ ∀ g, (Value.slice va vn vc).ownBlock = some g → w4.heap.size ≤ g
theorem qb_step {w4 wr w10 w5 : World} {bn : Nat} {x1 x2 x3 x4 x5 x6 : Value} {T EL : TypeId} {f : List (List UInt8 × Int)} {j : Nat} {va : Option Addr} {vn vc : Nat} {x : List UInt8 × Int} {b5 : Option Addr} {c5 : Nat}
    (HU : Upto [bn] w4 wr) (hlt : bn < w4.heap.size) (hbk : wr.heap[bn]? = some (.cells #[.slice va vn vc, x1, x2, x3, x4, x5, x6] T (0, 0))) (hown : ∀ g, (Value.slice va vn vc).ownBlock = some g → w4.heap.size ≤ g)
    (hu : Upto [] wr w10) (htk : f.take (j + 1) = f.take j ++ [x]) (ho5 : w5.ownsRow 0 EL 2 (.slice b5 (j + 1) c5) (j + 1) ((f.take j).flatMap varC ++ [.string ⟨x.1.toArray⟩, .int .i64 x.2])) (hu5 : Upto (Value.slice va vn vc).ownBlock.toList w10 w5)
    (hw5 : ∀ g, (Value.slice b5 (j + 1) c5).ownBlock = some g → (Value.slice va vn vc).ownBlock = some g ∨ w10.heap.size ≤ g) :
    w5.heap[bn]? = some (.cells #[.slice va vn vc, x1, x2, x3, x4, x5, x6] T (0, 0)) ∧ QbI w4 bn x1 x2 x3 x4 x5 x6 T EL f (j + 1) (w5.setCell ⟨bn, 0, none⟩ (.slice b5 (j + 1) c5)) := by
  have hb5 := hu5.at (hu.at hbk (by simp)) (fun hm => by have := hown _ (Option.mem_toList.1 hm); omega)
  have hst : Upto [bn] w5 (w5.setCell ⟨bn, 0, none⟩ (.slice b5 (j + 1) c5)) := (Upto.refl [bn] w5).setCell (p := ⟨bn, 0, none⟩) (Or.inl (by simp)) _
  have h1 := HU.size
  have h2 := hu.size
  have hnew : ∀ g, (Value.slice b5 (j + 1) c5).ownBlock = some g → w4.heap.size ≤ g := fun g hg => by
    rcases hw5 g hg with h | h
    · exact hown g h
    · omega
  refine ⟨hb5, ?_, b5, j + 1, c5, ?_, ?_, hnew⟩
  · exact ((HU.trans_ext hu).trans hu5 (fun k hk => Or.inr (hown k (Option.mem_toList.1 hk)))).setCell (p := ⟨bn, 0, none⟩) (Or.inl (by simp)) _
  · simpa using set_same hb5 0 (.slice b5 (j + 1) c5)
  · rw [htk, List.flatMap_append]
    exact ownsRow_upto ho5 hst (fun g hg => by have := hnew g hg; simp; omega)
theorem set7_up {S : List Nat} {a w : World} {R : Nat} (h : Upto S a w) (hR : R ∈ S ∨ a.heap.size ≤ R) (v0 v1 v2 v3 v4 v5 v6 : Value) : Upto S a (((((((w.setCell ⟨R, 0, none⟩ v0).setCell ⟨R, 1, none⟩ v1).setCell ⟨R, 2, none⟩ v2).setCell ⟨R, 3, none⟩ v3).setCell ⟨R, 4, none⟩ v4).setCell ⟨R, 5, none⟩ v5).setCell ⟨R, 6, none⟩ v6) :=
  ((((((h.setCell (p := ⟨R, 0, none⟩) hR v0).setCell (p := ⟨R, 1, none⟩) hR v1).setCell (p := ⟨R, 2, none⟩) hR v2).setCell (p := ⟨R, 3, none⟩) hR v3).setCell (p := ⟨R, 4, none⟩) hR v4).setCell (p := ⟨R, 5, none⟩) hR v5).setCell (p := ⟨R, 6, none⟩) hR v6
theorem set7_at {w : World} {R : Nat} {a0 a1 a2 a3 a4 a5 a6 : Value} {T : TypeId} {z : Nat × Nat} (h : w.heap[R]? = some (.cells #[a0, a1, a2, a3, a4, a5, a6] T z)) (v0 v1 v2 v3 v4 v5 v6 : Value) : (((((((w.setCell ⟨R, 0, none⟩ v0).setCell ⟨R, 1, none⟩ v1).setCell ⟨R, 2, none⟩ v2).setCell ⟨R, 3, none⟩ v3).setCell ⟨R, 4, none⟩ v4).setCell ⟨R, 5, none⟩ v5).setCell ⟨R, 6, none⟩ v6).heap[R]? = some (.cells #[v0, v1, v2, v3, v4, v5, v6] T z) := by
  have := set_same (set_same (set_same (set_same (set_same (set_same (set_same h 0 v0) 1 v1) 2 v2) 3 v3) 4 v4) 5 v5) 6 v6
  simpa using this
theorem qb_end {w W2 w3 w4 wr : World} {bn R : Nat} {x1 x2 x3 x4 x5 x6 : Value} {EL : TypeId} {q : Qn} {va : Option Addr} {vn vc : Nat} (hW : Upto [] w W2) (hR : w.heap.size ≤ R ∧ R < W2.heap.size) (h3 : Upto [] W2 w3) (hb : bn = w3.heap.size) (h4 : Upto [] w3 w4) (HU : Upto [bn] w4 wr) (hlt : bn < w4.heap.size)
    (hn : NdV w3 (New W2) q.body (.agg #[x1, x2, x3, x4, x5, x6])) (hrow : wr.ownsRow 0 EL 2 (.slice va vn vc) q.free.length (q.free.flatMap varC)) (hown : ∀ g, (Value.slice va vn vc).ownBlock = some g → w4.heap.size ≤ g) :
    QuPost w q (.returned (.agg #[.slice va vn vc, x1, x2, x3, x4, x5, x6])) (((((((wr.setCell ⟨R, 0, none⟩ (.slice va vn vc)).setCell ⟨R, 1, none⟩ x1).setCell ⟨R, 2, none⟩ x2).setCell ⟨R, 3, none⟩ x3).setCell ⟨R, 4, none⟩ x4).setCell ⟨R, 5, none⟩ x5).setCell ⟨R, 6, none⟩ x6) := by
  have hst := set7_up (R := R) (Upto.refl [R] wr) (Or.inl (by simp)) (.slice va vn vc) x1 x2 x3 x4 x5 x6
  have s1 := hW.size
  have s2 := h3.size
  have s3 := h4.size
  have hold : Upto [] w wr := ((hW.trans_ext h3).trans_ext h4).trans HU (fun k hk => by simp at hk; subst hk; right; omega)
  refine ⟨_, rfl, ⟨_, _, _, _, _, _, _, rfl, ?_, ?_⟩, set7_up hold (Or.inr hR.1) ..⟩
  · exact SlP.upto (slP_rowN (P := fun g => w4.heap.size ≤ g) hrow hown) hst (fun b hb2 _ => by simp; omega) |>.mono (fun b hb2 _ => by unfold New; omega)
  · have k1 := hn.mono (Q := fun b => W2.heap.size ≤ b ∧ b < bn) (fun b hb2 hi => ⟨hb2, by have := hi.lt; omega⟩)
    have k2 := (k1.ext h4).upto HU (fun b hb2 _ => by have := hb2.2; simp; omega)
    exact (k2.upto hst (fun b hb2 _ => by have := hb2.1; simp; omega)).mono (fun b hb2 _ => by have := hb2.1; unfold New; omega)
set_option maxRecDepth 100000 in
set_option maxHeartbeats 6400000 in
theorem backq_calls (q : Qn) (v : Value) (w : World) (P : Nat → Prop) (h : QnV w P q v) (hk : sizeF q.body ≤ 10000000) (hb : bigN q.body) (hl : q.free.length ≤ 10000000) : Calls Tryz.prog 33 #[v] w (QuPost w q) := by
  obtain ⟨f1, f3, o1, a1, a2, a3, s1, n1, m1, l1, l2, l3, rfl, hv, hn⟩ := h.open
  have hu2 : Upto [] w ((w.alloc (.cells #[.slice f1 q.free.length f3, .int .i64 o1, .slice a1 a2 a3, .int .i64 s1, .int .i64 n1, .int .i64 m1, .slice l1 l2 l3] 53)).alloc (.cells #[.slice none 0 0, .int .i64 0, .slice none 0 0, .int .i64 0, .int .i64 0, .int .i64 0, .slice none 0 0] 50)) := ((Upto.refl [] w).alloc _).alloc _
  have HU2 := Lib.hid hu2
  have hb1 := alloc_old (new_at w (.cells #[.slice f1 q.free.length f3, .int .i64 o1, .slice a1 a2 a3, .int .i64 s1, .int .i64 n1, .int .i64 m1, .slice l1 l2 l3] 53)) (.cells #[.slice none 0 0, .int .i64 0, .slice none 0 0, .int .i64 0, .int .i64 0, .int .i64 0, .slice none 0 0] 50)
  have hb2 := new_at1 w (.cells #[.slice f1 q.free.length f3, .int .i64 o1, .slice a1 a2 a3, .int .i64 s1, .int .i64 n1, .int .i64 m1, .slice l1 l2 l3] 53) (.cells #[.slice none 0 0, .int .i64 0, .slice none 0 0, .int .i64 0, .int .i64 0, .int .i64 0, .slice none 0 0] 50)
  have HB1 := Lib.hid hb1
  have HB2 := Lib.hid hb2
  have HG := Lib.hid (vars_slice hv)
  have HC := Lib.hid (back_calls _ q.body (Nat.le_refl _) hk hb P _ _ (hn.ext hu2))
  obtain ⟨xa0, xa1, xa2, xa3, xa4, xa5, xa6⟩ := cells7 hb1
  obtain ⟨ya0, ya1, ya2, ya3, ya4, ya5, ya6⟩ := frees7 hb2
  have hL0 : (0 : Int) ≤ q.free.length := by omega
  have hL1 : (q.free.length : Int) ≤ 10000000 := by omega
  clear h hv hn hb hu2 hb1 hb2 hk
  go_enter Tryz.func33, Tryz.ntmps33
  go_wp2_with fail
  refine HC.out.mono ?_
  rintro e w3 ⟨v3, rfl, hn3, hu3⟩
  obtain ⟨ro, rn1, rn2, rn3, rs, rm, rq, rl1, rl2, rl3, rfl⟩ := hn3.six
  have HN3 := Lib.hid hn3
  have HU3 := Lib.hid hu3
  have hua : Upto [] w3 (w3.alloc (.cells #[.slice none 0 0, .int .i64 ro, .slice rn1 rn2 rn3, .int .i64 rs, .int .i64 rm, .int .i64 rq, .slice rl1 rl2 rl3] 50)) := (Upto.refl [] w3).alloc _
  have HUA := Lib.hid hua
  have hbn := new_at w3 (.cells #[.slice none 0 0, .int .i64 ro, .slice rn1 rn2 rn3, .int .i64 rs, .int .i64 rm, .int .i64 rq, .slice rl1 rl2 rl3] 50)
  have HI0 : Hid (QbI (w3.alloc (.cells #[.slice none 0 0, .int .i64 ro, .slice rn1 rn2 rn3, .int .i64 rs, .int .i64 rm, .int .i64 rq, .slice rl1 rl2 rl3] 50)) w3.heap.size (.int .i64 ro) (.slice rn1 rn2 rn3) (.int .i64 rs) (.int .i64 rm) (.int .i64 rq) (.slice rl1 rl2 rl3) 50 90 q.free 0 (w3.alloc (.cells #[.slice none 0 0, .int .i64 ro, .slice rn1 rn2 rn3, .int .i64 rs, .int .i64 rm, .int .i64 rq, .slice rl1 rl2 rl3] 50))) := Lib.hid ⟨Upto.refl _ _, none, 0, 0, hbn, by simpa using World.ownsRow_nil _ 0 90 2, by intro g hg; cases hg⟩
  have HLT : Hid (w3.heap.size < (w3.alloc (.cells #[.slice none 0 0, .int .i64 ro, .slice rn1 rn2 rn3, .int .i64 rs, .int .i64 rm, .int .i64 rq, .slice rl1 rl2 rl3] 50)).heap.size) := Lib.hid (by simp)
  have HQ4 := Lib.hid (hua.at (hu3.at HB1.out (by simp)) (by simp))
  have HR4 := Lib.hid (hua.at (hu3.at HB2.out (by simp)) (by simp))
  have HWS : Hid (w.heap.size + 1 < w3.heap.size) := Lib.hid (lt_of_heap (hu3.at HB2.out (by simp)))
  have HW4 := Lib.hid ((HU2.out.trans_ext hu3).trans_ext hua)
  clear hn3 hu3 hua hbn
  go_wp2_with fail
  generalize hw4 : w3.alloc (.cells #[.slice none 0 0, .int .i64 ro, .slice rn1 rn2 rn3, .int .i64 rs, .int .i64 rm, .int .i64 rq, .slice rl1 rl2 rl3] 50) = w4 at *
  obtain ⟨bn, hbn, HBN⟩ : ∃ bn, bn = w3.heap.size ∧ Hid (bn = w3.heap.size) := ⟨_, rfl, Lib.hid rfl⟩
  rw [← hbn] at HI0 HLT ⊢
  clear hw4 hbn
  go_loopw [4] (fun v wr => ∃ j : Nat, j ≤ q.free.length ∧ v = .int .i64 j ∧ Hid (QbI w4 bn (.int .i64 ro) (.slice rn1 rn2 rn3) (.int .i64 rs) (.int .i64 rm) (.int .i64 rq) (.slice rl1 rl2 rl3) 50 90 q.free j wr)) (fun v _ => q.free.length - (intOf v).toNat)
  case atStart => exact ⟨0, by omega, rfl, HI0⟩
  case round =>
    obtain ⟨j, hj, rfl, HI⟩ := hrel
    have hj0 : (0 : Int) ≤ j := by omega
    obtain ⟨va, vn, vc, hbk, hrow, hown⟩ := HI.out.st
    obtain ⟨va', vc', hve, -⟩ := ownsRow_len hrow
    simp only [Value.slice.injEq] at hve
    obtain rfl : vn = j := hve.2.1
    clear hve
    have hq := HI.out.up.at HQ4.out (by have h1 := HBN.out; have h2 := HWS.out; simp; omega)
    have HWR : Hid (Upto [] w wr) := Lib.hid (HW4.out.trans HI.out.up (fun k hk => by have h1 := HBN.out; have h2 := HWS.out; simp at hk; subst hk; right; omega))
    have z0 := cell_of hq 0
    have y0 := cell_of hbk 0
    have g0 := free_of hbk 0
    simp only [List.getElem?_toArray, List.getElem?_cons_zero] at z0 y0
    rcases Nat.lt_or_ge vn q.free.length with hlt | hge
    · have hltI : (vn : Int) < q.free.length := by omega
      obtain ⟨x, hx⟩ : ∃ x, q.free[vn]? = some x := ⟨_, List.getElem?_eq_getElem hlt⟩
      have HTK : Hid (q.free.take (vn + 1) = q.free.take vn ++ [x]) := Lib.hid (by rw [List.take_add_one, hx]; rfl)
      obtain ⟨g, o, rfl, c0, c1⟩ := HG.out vn x hx
      obtain ⟨x1, x2⟩ := x
      simp only at c0 c1
      replace c0 := up_cell HWR.out c0
      replace c1 := up_cell HWR.out c1
      have HROW := Lib.hid hrow
      have HBK := Lib.hid hbk
      have HOWN := Lib.hid hown
      clear hrow hbk hown hq hx
      go_wp2_with fail
      have e0 : ∀ u : Ext wr, u.w.cell? ⟨bn, 0, none⟩ = some (.slice va vn vc) := fun u => u.cell y0
      have e1 : ∀ u : Ext wr, u.w.cell? ⟨w.heap.size, 0, none⟩ = some _ := fun u => u.cell z0
      have k0 : ∀ u : Ext wr, u.w.cell? ⟨g, o + vn * 2, none⟩ = some _ := fun u => u.cell c0
      have k1 : ∀ u : Ext wr, u.w.cell? ⟨g, o + vn * 2 + 1, none⟩ = some _ := fun u => u.cell c1
      clear z0 y0 g0 c0 c1
      refine wp_region_seg_at [15] [] [0, 1, 2, 3, 4, 5, 6, 7, 8, 9, 10, 11, 12, 13, 14, 15] [16, 17, 18] 16 (by kernel_rfl) (by kernel_rfl) (by kernel_rfl) ?_
      iterate 15 (refine seg_plain rfl rfl rfl rfl rfl ?_; intro K' hK'; go_big_quiet_op; go_big_quiet_on)
      refine seg_opq (Y := Nat) (fun b => .slice (some ⟨b, 0, none⟩) 1 1) (fun b u => u.heap[b]? = some (.cells #[.string ⟨x1.toArray⟩, .int .i64 x2] 90 (0, 0))) (fun _ => []) rfl rfl rfl rfl (fun _ _ _ h hu => hu.at h (by simp)) (fun _ => List.nodup_nil) (fun w' post hu hd hp => (congrArg (opqUpon Tryz.prog post) (show _ = Result.ok (Next.value (.slice (some ⟨w'.heap.size, 0, none⟩) 1 1)) (w'.alloc (.cells #[.string ⟨x1.toArray⟩, .int .i64 x2] 90)) from by go_simp)).mpr (hp w'.heap.size _ ((Upto.refl [] w').alloc _) (new_at _ _) (fun b hb => by cases hb))) ?_
      intro b8
      simp only [Act.put, List.setIfInBounds_toArray, List.set_cons_zero, List.set_cons_succ]
      intro w10 hg
      have HU10 := Lib.hid hg.up
      have HB8 : Hid (w10.heap[b8]? = some (.cells #[.string ⟨x1.toArray⟩, .int .i64 x2] 90 (0, 0))) := Lib.hid hg.hold.1
      simp only [List.drop_succ_cons, List.drop_zero]
      clear hg e0 e1 k0 k1
      have HRR := Lib.hid (ownsRow_upto HROW.out HU10.out (by simp))
      obtain ⟨i1, hi1, hy0, hy1, hy2⟩ := infoV90
      have HA := Lib.hid (fun b5 c5 w5 (ho5 : w5.ownsRow 0 90 2 (.slice b5 (vn + 1) c5) (vn + 1) ((q.free.take vn).flatMap varC ++ [.string ⟨x1.toArray⟩, .int .i64 x2])) (hu5 : Upto (Value.slice va vn vc).ownBlock.toList w10 w5) (hw5 : ∀ g, (Value.slice b5 (vn + 1) c5).ownBlock = some g → (Value.slice va vn vc).ownBlock = some g ∨ w10.heap.size ≤ g) => qb_step (x := (x1, x2)) HI.out.up HLT.out HBK.out HOWN.out HU10.out HTK.out ho5 hu5 hw5)
      go_wp2_with (at_builtin
                   refine wpList_app _ rfl (.tmp 17) (.tmp 31) 48 rfl 90 i1 (.agg #[.string ⟨#[]⟩, .int .i64 0]) 2 24 Tryz.underlying48 hi1 hy0 hy1 hy2 rfl (by decide) (.slice va vn vc) vn ((q.free.take vn).flatMap varC) rfl HRR.out ⟨b8, 0, none⟩ 1 1 [.string ⟨x1.toArray⟩, .int .i64 x2] rfl rfl (two_at HB8.out) (by simp [Value.oneCell']) (by unfold maxLen; omega) (by omega) ?_
                   intro b5 c5 w5 ho5 hu5 hw5
                   obtain ⟨hbk5, hI5⟩ := HA.out b5 c5 w5 ho5 hu5 hw5
                   have y5 := cell_of hbk5 0
                   have g5 := free_of hbk5 0
                   simp only [List.getElem?_toArray, List.getElem?_cons_zero] at y5
                   have HI5 := Lib.hid hI5
                   clear ho5 hu5 hw5 hbk5 hI5)
      go_roundw
      case rel => exact ⟨vn + 1, by omega, by go_num, HI5⟩
      case measure => simp [intOf]; omega
    · have hgeI : ¬ (vn : Int) < q.free.length := by omega
      have HROW := Lib.hid hrow
      have HOWN := Lib.hid hown
      have hr := HI.out.up.at HR4.out (by have h1 := HBN.out; have h2 := HWS.out; simp; omega)
      obtain ⟨pa0, pa1, pa2, pa3, pa4, pa5, pa6⟩ := cells7 hbk
      obtain ⟨pf0, pf1, pf2, pf3, pf4, pf5, pf6⟩ := frees7 hbk
      obtain ⟨ra0, ra1, ra2, ra3, ra4, ra5, ra6⟩ := cells7 hr
      obtain ⟨rf0, rf1, rf2, rf3, rf4, rf5, rf6⟩ := frees7 hr
      have HEND := Lib.hid (qb_end (q := q) (R := w.heap.size + 1) HU2.out ⟨by omega, by simp⟩ HU3.out HBN.out HUA.out HI.out.up HLT.out HN3.out (by have := HROW.out; rw [List.take_of_length_le (by omega)] at this; rwa [show vn = q.free.length by omega] at this ⊢) HOWN.out)
      have HR := Lib.hid hr
      clear hrow hown hbk hq hr
      go_wp2_with fail
      have hst := set7_at HR.out (.slice va vn vc) (.int .i64 ro) (.slice rn1 rn2 rn3) (.int .i64 rs) (.int .i64 rm) (.int .i64 rq) (.slice rl1 rl2 rl3)
      obtain ⟨q0, q1, q2, q3, q4, q5, q6⟩ := cells7 hst
      exact bodyPost_ret (v := .agg #[.slice va vn vc, .int .i64 ro, .slice rn1 rn2 rn3, .int .i64 rs, .int .i64 rm, .int .i64 rq, .slice rl1 rl2 rl3]) (by simp [results, Tryz.results33, go_sem, q0, q1, q2, q3, q4, q5, q6]) rfl HEND.out
set_option maxRecDepth 100000 in
set_option maxHeartbeats 6400000 in
theorem ofq_calls (q : Qn) (v : Value) (w : World) (P : Nat → Prop) (h : QnV w P q v) (hk : sizeF q.body ≤ 10000000) (hb : bigN q.body) (hl : q.free.length ≤ 10000000) : Calls Tryz.prog 30 #[v] w (QuPost w q) := by
  obtain ⟨f1, f3, o1, a1, a2, a3, s1, n1, m1, l1, l2, l3, rfl, hv, hn⟩ := h.open
  have hu2 : Upto [] w ((w.alloc (.cells #[.slice f1 q.free.length f3, .int .i64 o1, .slice a1 a2 a3, .int .i64 s1, .int .i64 n1, .int .i64 m1, .slice l1 l2 l3] 50)).alloc (.cells #[.slice none 0 0, .int .i64 0, .slice none 0 0, .int .i64 0, .int .i64 0, .int .i64 0, .slice none 0 0] 53)) := ((Upto.refl [] w).alloc _).alloc _
  have HU2 := Lib.hid hu2
  have hb1 := alloc_old (new_at w (.cells #[.slice f1 q.free.length f3, .int .i64 o1, .slice a1 a2 a3, .int .i64 s1, .int .i64 n1, .int .i64 m1, .slice l1 l2 l3] 50)) (.cells #[.slice none 0 0, .int .i64 0, .slice none 0 0, .int .i64 0, .int .i64 0, .int .i64 0, .slice none 0 0] 53)
  have hb2 := new_at1 w (.cells #[.slice f1 q.free.length f3, .int .i64 o1, .slice a1 a2 a3, .int .i64 s1, .int .i64 n1, .int .i64 m1, .slice l1 l2 l3] 50) (.cells #[.slice none 0 0, .int .i64 0, .slice none 0 0, .int .i64 0, .int .i64 0, .int .i64 0, .slice none 0 0] 53)
  have HB1 := Lib.hid hb1
  have HB2 := Lib.hid hb2
  have HG := Lib.hid (vars_slice hv)
  have HC := Lib.hid (of_calls _ q.body (Nat.le_refl _) hk hb P _ _ (hn.ext hu2))
  obtain ⟨xa0, xa1, xa2, xa3, xa4, xa5, xa6⟩ := cells7 hb1
  obtain ⟨ya0, ya1, ya2, ya3, ya4, ya5, ya6⟩ := frees7 hb2
  have hL0 : (0 : Int) ≤ q.free.length := by omega
  have hL1 : (q.free.length : Int) ≤ 10000000 := by omega
  clear h hv hn hb hu2 hb1 hb2 hk
  go_enter Tryz.func30, Tryz.ntmps30
  go_wp2_with fail
  refine HC.out.mono ?_
  rintro e w3 ⟨v3, rfl, hn3, hu3⟩
  obtain ⟨ro, rn1, rn2, rn3, rs, rm, rq, rl1, rl2, rl3, rfl⟩ := hn3.six
  have HN3 := Lib.hid hn3
  have HU3 := Lib.hid hu3
  have hua : Upto [] w3 (w3.alloc (.cells #[.slice none 0 0, .int .i64 ro, .slice rn1 rn2 rn3, .int .i64 rs, .int .i64 rm, .int .i64 rq, .slice rl1 rl2 rl3] 53)) := (Upto.refl [] w3).alloc _
  have HUA := Lib.hid hua
  have hbn := new_at w3 (.cells #[.slice none 0 0, .int .i64 ro, .slice rn1 rn2 rn3, .int .i64 rs, .int .i64 rm, .int .i64 rq, .slice rl1 rl2 rl3] 53)
  have HI0 : Hid (QbI (w3.alloc (.cells #[.slice none 0 0, .int .i64 ro, .slice rn1 rn2 rn3, .int .i64 rs, .int .i64 rm, .int .i64 rq, .slice rl1 rl2 rl3] 53)) w3.heap.size (.int .i64 ro) (.slice rn1 rn2 rn3) (.int .i64 rs) (.int .i64 rm) (.int .i64 rq) (.slice rl1 rl2 rl3) 53 86 q.free 0 (w3.alloc (.cells #[.slice none 0 0, .int .i64 ro, .slice rn1 rn2 rn3, .int .i64 rs, .int .i64 rm, .int .i64 rq, .slice rl1 rl2 rl3] 53))) := Lib.hid ⟨Upto.refl _ _, none, 0, 0, hbn, by simpa using World.ownsRow_nil _ 0 86 2, by intro g hg; cases hg⟩
  have HLT : Hid (w3.heap.size < (w3.alloc (.cells #[.slice none 0 0, .int .i64 ro, .slice rn1 rn2 rn3, .int .i64 rs, .int .i64 rm, .int .i64 rq, .slice rl1 rl2 rl3] 53)).heap.size) := Lib.hid (by simp)
  have HQ4 := Lib.hid (hua.at (hu3.at HB1.out (by simp)) (by simp))
  have HR4 := Lib.hid (hua.at (hu3.at HB2.out (by simp)) (by simp))
  have HWS : Hid (w.heap.size + 1 < w3.heap.size) := Lib.hid (lt_of_heap (hu3.at HB2.out (by simp)))
  have HW4 := Lib.hid ((HU2.out.trans_ext hu3).trans_ext hua)
  clear hn3 hu3 hua hbn
  go_wp2_with fail
  generalize hw4 : w3.alloc (.cells #[.slice none 0 0, .int .i64 ro, .slice rn1 rn2 rn3, .int .i64 rs, .int .i64 rm, .int .i64 rq, .slice rl1 rl2 rl3] 53) = w4 at *
  obtain ⟨bn, hbn, HBN⟩ : ∃ bn, bn = w3.heap.size ∧ Hid (bn = w3.heap.size) := ⟨_, rfl, Lib.hid rfl⟩
  rw [← hbn] at HI0 HLT ⊢
  clear hw4 hbn
  go_loopw [4] (fun v wr => ∃ j : Nat, j ≤ q.free.length ∧ v = .int .i64 j ∧ Hid (QbI w4 bn (.int .i64 ro) (.slice rn1 rn2 rn3) (.int .i64 rs) (.int .i64 rm) (.int .i64 rq) (.slice rl1 rl2 rl3) 53 86 q.free j wr)) (fun v _ => q.free.length - (intOf v).toNat)
  case atStart => exact ⟨0, by omega, rfl, HI0⟩
  case round =>
    obtain ⟨j, hj, rfl, HI⟩ := hrel
    have hj0 : (0 : Int) ≤ j := by omega
    obtain ⟨va, vn, vc, hbk, hrow, hown⟩ := HI.out.st
    obtain ⟨va', vc', hve, -⟩ := ownsRow_len hrow
    simp only [Value.slice.injEq] at hve
    obtain rfl : vn = j := hve.2.1
    clear hve
    have hq := HI.out.up.at HQ4.out (by have h1 := HBN.out; have h2 := HWS.out; simp; omega)
    have HWR : Hid (Upto [] w wr) := Lib.hid (HW4.out.trans HI.out.up (fun k hk => by have h1 := HBN.out; have h2 := HWS.out; simp at hk; subst hk; right; omega))
    have z0 := cell_of hq 0
    have y0 := cell_of hbk 0
    have g0 := free_of hbk 0
    simp only [List.getElem?_toArray, List.getElem?_cons_zero] at z0 y0
    rcases Nat.lt_or_ge vn q.free.length with hlt | hge
    · have hltI : (vn : Int) < q.free.length := by omega
      obtain ⟨x, hx⟩ : ∃ x, q.free[vn]? = some x := ⟨_, List.getElem?_eq_getElem hlt⟩
      have HTK : Hid (q.free.take (vn + 1) = q.free.take vn ++ [x]) := Lib.hid (by rw [List.take_add_one, hx]; rfl)
      obtain ⟨g, o, rfl, c0, c1⟩ := HG.out vn x hx
      obtain ⟨x1, x2⟩ := x
      simp only at c0 c1
      replace c0 := up_cell HWR.out c0
      replace c1 := up_cell HWR.out c1
      have HROW := Lib.hid hrow
      have HBK := Lib.hid hbk
      have HOWN := Lib.hid hown
      clear hrow hbk hown hq hx
      go_wp2_with fail
      have e0 : ∀ u : Ext wr, u.w.cell? ⟨bn, 0, none⟩ = some (.slice va vn vc) := fun u => u.cell y0
      have e1 : ∀ u : Ext wr, u.w.cell? ⟨w.heap.size, 0, none⟩ = some _ := fun u => u.cell z0
      have k0 : ∀ u : Ext wr, u.w.cell? ⟨g, o + vn * 2, none⟩ = some _ := fun u => u.cell c0
      have k1 : ∀ u : Ext wr, u.w.cell? ⟨g, o + vn * 2 + 1, none⟩ = some _ := fun u => u.cell c1
      clear z0 y0 g0 c0 c1
      refine wp_region_seg_at [15] [] [0, 1, 2, 3, 4, 5, 6, 7, 8, 9, 10, 11, 12, 13, 14, 15] [16, 17, 18] 16 (by kernel_rfl) (by kernel_rfl) (by kernel_rfl) ?_
      iterate 15 (refine seg_plain rfl rfl rfl rfl rfl ?_; intro K' hK'; go_big_quiet_op; go_big_quiet_on)
      refine seg_opq (Y := Nat) (fun b => .slice (some ⟨b, 0, none⟩) 1 1) (fun b u => u.heap[b]? = some (.cells #[.string ⟨x1.toArray⟩, .int .i64 x2] 86 (0, 0))) (fun _ => []) rfl rfl rfl rfl (fun _ _ _ h hu => hu.at h (by simp)) (fun _ => List.nodup_nil) (fun w' post hu hd hp => (congrArg (opqUpon Tryz.prog post) (show _ = Result.ok (Next.value (.slice (some ⟨w'.heap.size, 0, none⟩) 1 1)) (w'.alloc (.cells #[.string ⟨x1.toArray⟩, .int .i64 x2] 86)) from by go_simp)).mpr (hp w'.heap.size _ ((Upto.refl [] w').alloc _) (new_at _ _) (fun b hb => by cases hb))) ?_
      intro b8
      simp only [Act.put, List.setIfInBounds_toArray, List.set_cons_zero, List.set_cons_succ]
      intro w10 hg
      have HU10 := Lib.hid hg.up
      have HB8 : Hid (w10.heap[b8]? = some (.cells #[.string ⟨x1.toArray⟩, .int .i64 x2] 86 (0, 0))) := Lib.hid hg.hold.1
      simp only [List.drop_succ_cons, List.drop_zero]
      clear hg e0 e1 k0 k1
      have HRR := Lib.hid (ownsRow_upto HROW.out HU10.out (by simp))
      obtain ⟨i1, hi1, hy0, hy1, hy2⟩ := infoV86
      have HA := Lib.hid (fun b5 c5 w5 (ho5 : w5.ownsRow 0 86 2 (.slice b5 (vn + 1) c5) (vn + 1) ((q.free.take vn).flatMap varC ++ [.string ⟨x1.toArray⟩, .int .i64 x2])) (hu5 : Upto (Value.slice va vn vc).ownBlock.toList w10 w5) (hw5 : ∀ g, (Value.slice b5 (vn + 1) c5).ownBlock = some g → (Value.slice va vn vc).ownBlock = some g ∨ w10.heap.size ≤ g) => qb_step (x := (x1, x2)) HI.out.up HLT.out HBK.out HOWN.out HU10.out HTK.out ho5 hu5 hw5)
      go_wp2_with (at_builtin
                   refine wpList_app _ rfl (.tmp 17) (.tmp 31) 51 rfl 86 i1 (.agg #[.string ⟨#[]⟩, .int .i64 0]) 2 24 Tryz.underlying51 hi1 hy0 hy1 hy2 rfl (by decide) (.slice va vn vc) vn ((q.free.take vn).flatMap varC) rfl HRR.out ⟨b8, 0, none⟩ 1 1 [.string ⟨x1.toArray⟩, .int .i64 x2] rfl rfl (two_at HB8.out) (by simp [Value.oneCell']) (by unfold maxLen; omega) (by omega) ?_
                   intro b5 c5 w5 ho5 hu5 hw5
                   obtain ⟨hbk5, hI5⟩ := HA.out b5 c5 w5 ho5 hu5 hw5
                   have y5 := cell_of hbk5 0
                   have g5 := free_of hbk5 0
                   simp only [List.getElem?_toArray, List.getElem?_cons_zero] at y5
                   have HI5 := Lib.hid hI5
                   clear ho5 hu5 hw5 hbk5 hI5)
      go_roundw
      case rel => exact ⟨vn + 1, by omega, by go_num, HI5⟩
      case measure => simp [intOf]; omega
    · have hgeI : ¬ (vn : Int) < q.free.length := by omega
      have HROW := Lib.hid hrow
      have HOWN := Lib.hid hown
      have hr := HI.out.up.at HR4.out (by have h1 := HBN.out; have h2 := HWS.out; simp; omega)
      obtain ⟨pa0, pa1, pa2, pa3, pa4, pa5, pa6⟩ := cells7 hbk
      obtain ⟨pf0, pf1, pf2, pf3, pf4, pf5, pf6⟩ := frees7 hbk
      obtain ⟨ra0, ra1, ra2, ra3, ra4, ra5, ra6⟩ := cells7 hr
      obtain ⟨rf0, rf1, rf2, rf3, rf4, rf5, rf6⟩ := frees7 hr
      have HEND := Lib.hid (qb_end (q := q) (R := w.heap.size + 1) HU2.out ⟨by omega, by simp⟩ HU3.out HBN.out HUA.out HI.out.up HLT.out HN3.out (by have := HROW.out; rw [List.take_of_length_le (by omega)] at this; rwa [show vn = q.free.length by omega] at this ⊢) HOWN.out)
      have HR := Lib.hid hr
      clear hrow hown hbk hq hr
      go_wp2_with fail
      have hst := set7_at HR.out (.slice va vn vc) (.int .i64 ro) (.slice rn1 rn2 rn3) (.int .i64 rs) (.int .i64 rm) (.int .i64 rq) (.slice rl1 rl2 rl3)
      obtain ⟨q0, q1, q2, q3, q4, q5, q6⟩ := cells7 hst
      exact bodyPost_ret (v := .agg #[.slice va vn vc, .int .i64 ro, .slice rn1 rn2 rn3, .int .i64 rs, .int .i64 rm, .int .i64 rq, .slice rl1 rl2 rl3]) (by simp [results, Tryz.results30, go_sem, q0, q1, q2, q3, q4, q5, q6]) rfl HEND.out
end Go.Proofs.YtbnebkkpmcjmbaaGreatDoor


namespace Go.Proofs.YtbnebkkpmcjmbaaGreatDoor
open Go.RowKit Go.PL Go.Maps
set_option maxRecDepth 100000 in
set_option maxHeartbeats 3200000 in
theorem vclone0_calls (xs : List Value) (a : Option Addr) (n c : Nat) (w : World) (P : Nat → Prop) (hn : xs.length = n * 2) (hN : n ≤ 10000000) (hx : ∀ u ∈ xs, u.oneCell' = true) (h : SlP w P (.slice a n c) n xs) : Calls Tryz.prog 63 #[.slice a n c] w fun e w' => ∃ a' c', e = .returned (.slice a' n c') ∧ SlP w' (Nu w w') (.slice a' n c') n xs ∧ Upto [] w w' := by
  have q22 : ∀ (w : World) (a : Option Addr) (n c n' c' : Nat), (binOp .eql 51 (.slice a n c) (.slice none n' c')).run Tryz.prog w = .ok (.bool a.isNone) w := fun w a n c n' c' => Lib.run_eql_slice_nil w _ _ a n c n' c' Tryz.underlying51
  cases a with
  | none =>
    have hn0 : n = 0 := by
      rcases h with ⟨h0, -⟩ | ⟨g, o, c, h0, -⟩
      · exact h0
      · cases h0
    subst hn0
    have hx0 : xs = [] := List.eq_nil_of_length_eq_zero hn
    subst hx0
    clear h hx
    go_enter Tryz.func63, Tryz.ntmps63
    go_wp2
    go_ret
    exact ⟨none, 0, rfl, Or.inl ⟨rfl, rfl, none, 0, rfl⟩, Upto.refl _ _⟩
  | some ad =>
    obtain ⟨i0, hi, hz0, hz1, hz2⟩ := infoV86
    have A : Aside (∀ j u, xs[j]? = some u → w.cell? (ad.add j) = some u) := by
      intro j u hj
      rcases h with ⟨-, h0, -⟩ | ⟨g, o, c, h0, -, hc⟩
      · subst h0; cases hj
      · simp only [Value.slice.injEq, Option.some.injEq] at h0
        obtain ⟨h0, -, -⟩ := h0
        subst h0
        rw [Addr.add_lit]
        exact hc j u hj
    have HX := Lib.hid hx
    have HN := Lib.hid hn
    clear h hx hn
    go_enter Tryz.func63, Tryz.ntmps63
    go_wp2_with (at_builtin; refine wpList_append_own _ rfl _ _ 51 rfl w.heap.size 86 i0 (.agg #[.string ⟨#[]⟩, .int .i64 0]) 2 24 Tryz.underlying51 hi hz0 hz1 hz2 rfl (by decide) _ _ _ rfl (World.ownsRow_made w #[] 0 (Nat.le_refl _) (Nat.zero_le _) rfl) ad n c xs rfl ?qc1 ?qc2 ?qc3 ?qc4 ?qc5 ?qc6 ?_)
    case qc1 => have := HN.out; omega
    case qc2 =>
      intro j u hj
      exact Lib.cell?_alloc_some _ (A.out j u hj)
    case qc3 => exact HX.out
    case qc4 => unfold maxLen; omega
    case qc5 => omega
    case qc6 => simp
    intro v' w1 hown hgrow _
    obtain ⟨a', c', rfl, -⟩ := ownsRow_len hown
    have hup : Upto [] w w1 := ((Upto.refl [] w).alloc _).grown hgrow (by intro k hk; simp [Value.ownBlock] at hk; omega)
    have hsl : SlP w1 (Nu w w1) (.slice a' n c') n xs := by
      have hown2 : w1.ownsRow w.heap.size 86 2 (.slice a' n c') n xs := by simpa using hown
      have hnu : ∀ g, (Value.slice a' n c').ownBlock = some g → Nu w w1 g := fun g hg => by
        rcases hown2.2 with ⟨e, -⟩ | ⟨g', cap, cur, e, hge, hh, -⟩
        · rw [e] at hg; cases hg
        · rw [e] at hg
          simp [Value.ownBlock] at hg
          subst hg
          exact ⟨hge, _, _, hh⟩
      exact slP_rowN (e := 86) ⟨hown2.1, hown2.2.imp id (fun ⟨g, cap, cur, h1, h2, h3⟩ => ⟨g, cap, cur, h1, Nat.zero_le _, h3⟩)⟩ hnu
    clear hown hgrow
    have HF := Lib.hid (And.intro hsl hup)
    clear hsl hup
    go_wp2
    go_ret
    exact ⟨a', c', by simp, HF.out.1, HF.out.2⟩
theorem vclone_calls (out : List (List UInt8 × Int)) (v : Value) (w : World) (P : Nat → Prop) (hN : out.length ≤ 10000000) (h : VarsV w P v out) : Calls Tryz.prog 63 #[v] w fun e w' => ∃ v', e = .returned v' ∧ VarsV w' (Nu w w') v' out ∧ Upto [] w w' := by
  have h0 := h
  unfold VarsV at h0
  obtain ⟨a, c, rfl⟩ := h0.len
  have hlen : ∀ l : List (List UInt8 × Int), (l.flatMap varC).length = l.length * 2 := fun l => by
    induction l with
    | nil => rfl
    | cons x r ih => rw [List.flatMap_cons, List.length_append, ih, List.length_cons]; show 2 + _ = _; omega
  refine (vclone0_calls (out.flatMap varC) a out.length c w P (hlen out) hN (fun u hu => ?_) h0).mono (fun e w' ⟨a', c', h1, h2, h3⟩ => ⟨_, h1, h2, h3⟩)
  obtain ⟨x, -, hx⟩ := List.mem_flatMap.1 hu
  unfold varC at hx
  simp only [List.mem_cons, List.not_mem_nil, or_false] at hx
  rcases hx with rfl | rfl <;> rfl
end Go.Proofs.YtbnebkkpmcjmbaaGreatDoor

