/- Texts merged, in build order: Gc, Ka, Kb, Kc, Kd, Gd, Ge, Gf, Gg, Gh, Gi, Gj. -/
import Derived.Test.YtbnebkkpmcjmbaaGreatDoorMSnb
import Derived.Test.YtbnebkkpmcjmbaaGreatDoorRows
import Derived.WalkKit
import Derived.WalkSpells
import Derived.WalkLawsBesides
import Derived.Maps.OwnSet
import Derived.Lib.Hide
import Derived.Laws.BytesArg
import Derived.Deep.QuietTactic
import Derived.BigQuiet
import Derived.Test.YtbnebkkpmcjmbaaGreatDoorProg
import Derived.Shelf.Small.Strs
import Derived.Shelf.LaysM
import Derived.Shelf.Strings.SplitShaped
import Derived.Deep.DeepCutAuto
import Derived.Deep.CutBlock
import Derived.Lib.Strings
import Derived.Lib.Walk
import Derived.Lib.ConvBytes
import Derived.Lib.ParseIntBMem
import Derived.Lib.AtoiErrMem
import Derived.Lib.BufferWrite
import Derived.Lib.UnsafeStr
import Derived.Lib.IfaceEq
import Derived.Laws.MakeOwn
import Derived.Laws.Strings3
import Derived.Laws.Closers25
import Derived.Laws.Closers25b
import Derived.RegionTactic
import Derived.Deep.RegionWith
import Derived.BigCall
import Derived.BigGuard
import Derived.Lib.AppendIntMem
import Derived.Carry
import Derived.OrdersHeld
import Derived.Deep.RegionHeld3
import Derived.Shelf.Strconv.Itoa3
import Derived.Shelf.Slices.Turned
import Derived.Shelf.Slices.Clone
import Derived.Deep.RegionLaw
import Derived.RangeFuncNested
import Derived.RangeFuncBound
import Derived.RangeFuncCalls
import Derived.RangeFuncLeaves
import Derived.RangeFuncBox
import Derived.Shelf.Abstract
import Derived.OwnWalkIn
import Derived.TacticsInMore
import Derived.LoopNIn
import Derived.LoopIn
import Derived.Laws.EntriesVeiled
import Derived.Laws.AppendOwn
namespace Go.Proofs.YtbnebkkpmcjmbaaGreatDoor
open Go.RowKit Go.PL Go.Maps
theorem cntsF_take (sets : Bool) (l : List Nd) (i : Nat) (x : Nd) (h : l[i]? = some x) : cntsF sets (l.take (i + 1)) = cntsF sets (l.take i) + cntF sets x := by
  obtain ⟨hi, rfl⟩ := List.getElem?_eq_some_iff.1 h
  have e : l.take (i + 1) = l.take i ++ [l[i]] := List.take_succ_eq_append_getElem hi
  have app : ∀ a b : List Nd, cntsF sets (a ++ b) = cntsF sets a + cntsF sets b := by
    intro a b
    induction a with
    | nil => simp [cntsF]
    | cons x xs ih => simp only [List.cons_append, cntsF, ih]; omega
  rw [e, app]
  simp [cntsF]
set_option maxRecDepth 100000 in
set_option maxHeartbeats 12800000 in
theorem quantR_calls (sets : Bool) : ∀ (k : Nat) (nd : Nd), sizeF nd ≤ k → k ≤ 10000000 → goodN nd → ∀ (v : Value) (w : World) (P : Nat → Prop), NdV w P nd v → Calls Tryz.prog 24 #[v, .bool sets] w fun e w' => e = .returned (.int .i64 (cntF sets nd)) ∧ Upto [] w w'
  | 0, nd, hk, _, _, _, _, _, _ => by have := sizeF_pos nd; omega
  | k + 1, .mk op nms so nn mm l, hk, hk7, hgd, v, w, P, h => by
    obtain ⟨a1, c1, a2, c2, rfl, -, hg⟩ := h.open
    unfold goodN at hgd
    have HGD := Lib.hid hgd
    have HG := Lib.hid hg
    have hsz : sizesF l ≤ k := by simp only [sizeF] at hk; omega
    have HSZ := Lib.hid hsz
    have HE : Hid (cntF sets (.mk op nms so nn mm l) = (if cntB sets op nms.length so = true then 1 else 0) + cntsF sets l) := Lib.hid (by simp only [cntF])
    unfold cntB at HE
    have HLEN : Hid (l.length ≤ 10000000) := Lib.hid (by have := sizes_len l; omega)
    have hlen := HLEN.out
    have HBI := Lib.hid (fun u => bindsR_calls op a1 nms.length c1 so nn mm a2 l.length c2 u (fun h => hgd.1 (by omega)))
    obtain ⟨W, hW⟩ : ∃ W, W = w.alloc (.cells #[.int .i64 op, .slice a1 nms.length c1, .int .i64 so, .int .i64 nn, .int .i64 mm, .slice a2 l.length c2] 25) := ⟨_, rfl⟩
    have HU1 : Hid (Upto [] w W) := Lib.hid (by rw [hW]; exact (Upto.refl [] w).alloc _)
    have HB1 : Hid (W.heap[w.heap.size]? = some (.cells #[.int .i64 op, .slice a1 nms.length c1, .int .i64 so, .int .i64 nn, .int .i64 mm, .slice a2 l.length c2] 25 (0, 0))) := Lib.hid (by rw [hW]; exact new_at w _)
    generalize hbb : bindsF op nms.length = bb at *
    generalize hll : l.length = ll at *
    have HLL := Lib.hid hll
    have hL0 : (0 : Int) ≤ ll := by omega
    have hL1 : (ll : Int) ≤ 10000000 := by omega
    have HIH := Lib.hid (fun (x : Nd) (hx : x ∈ l) (hs : sizeF x ≤ k) => quantR_calls sets k x hs (by omega) (goodsN_mem HGD.out.2 x hx))
    clear h hg hsz hll hlen hk hgd hbb
    obtain ⟨x0, x1, x2, x3, x4, x5⟩ := cells6 HB1.out
    go_enter Tryz.func24, Tryz.ntmps24
    go_wp2_with fail
    simp only [← hW]
    clear hW
    go_wp2_with fail
    refine (HBI.out _).mono ?_
    rintro e w2 ⟨rfl, hu2⟩
    have HU2 := Lib.hid (HU1.out.trans_ext hu2)
    have HB2 := Lib.hid (hu2.at HB1.out (by simp))
    clear hu2 x0 x1 x2 x3 x4 x5
    cases bb with
    | false =>
      have HC0 : Hid ((if (false && (!sets || decide (2 ≤ so))) = true then 1 else 0) = 0) := Lib.hid (by simp <;> omega)
      have x2 := cell_of HB2.out 2
      simp only [List.getElem?_toArray, List.getElem?_cons_zero, List.getElem?_cons_succ] at x2
      go_wp2_with fail
      clear x2
      go_loopw [5, 6] (fun s i wr => ∃ j : Nat, j ≤ ll ∧ i = .int .i64 j ∧ s = .int .i64 ((0 + cntsF sets (l.take j) : Nat) : Int) ∧ Hid (Upto [] w2 wr)) (fun _ i _ => ll - (intOf i).toNat)
      case atStart => exact ⟨0, by omega, rfl, by simp [cntsF], Lib.hid (Upto.refl _ _)⟩
      case round =>
        obtain ⟨j, hj, rfl, rfl, HU⟩ := hrel
        have HBB := Lib.hid (HU.out.at HB2.out (by simp))
        have x5 := cell_of HBB.out 5
        simp only [List.getElem?_toArray, List.getElem?_cons_zero, List.getElem?_cons_succ] at x5
        rcases Nat.lt_or_ge j ll with hlt | hge
        · obtain ⟨x, hx⟩ : ∃ x, l[j]? = some x := ⟨_, List.getElem?_eq_getElem (by have := HLL.out; omega)⟩
          obtain ⟨g, o, xo, xn1, xn2, xn3, xs, xm, xq, xl1, xl2, xl3, rfl, d0, d1, d2, d3, d4, d5, hnx⟩ := HG.out j x hx
          have hw := HU2.out.trans_ext HU.out
          replace d0 := up_cell hw d0
          replace d1 := up_cell hw d1
          replace d2 := up_cell hw d2
          replace d3 := up_cell hw d3
          replace d4 := up_cell hw d4
          replace d5 := up_cell hw d5
          have HC := Lib.hid (HIH.out x (List.mem_of_getElem? hx) (by have := HSZ.out; have := sizesF_take l j x hx; omega) _ wr P (hnx.ext hw))
          have hltI : (j : Int) < ll := by omega
          have hj0 : (0 : Int) ≤ j := by omega
          have hb0 := sizesF_take l j x hx
          have hb1 := HSZ.out
          have hb2 := sizeF_pos x
          have hb3 := cnt_le sets x
          have hb4 := cnts_le sets (l.take j)
          have hb5 := cntsF_take sets l j x hx
          generalize hA : cntsF sets (l.take j) = A at *
          generalize hB : cntF sets x = B at *
          generalize hCA : 0 + A = CA at *
          have hA0 : (0 : Int) ≤ CA := by omega
          have hA1 : (CA : Int) ≤ 10000001 := by omega
          have hB0 : (0 : Int) ≤ B := by omega
          have hB1 : (B : Int) ≤ 10000000 := by omega
          have HMX : Hid (0 + cntsF sets (l.take (j + 1)) = CA + B) := Lib.hid (by omega)
          clear hnx hx hb0 hb1 hb2 hb3 hb4 hb5 hA hB hw hCA
          go_wp2_with fail
          refine HC.out.mono ?_
          rintro e w5 ⟨rfl, hu5⟩
          have HU5 := Lib.hid (HU.out.trans_ext hu5)
          clear hu5
          go_wp2_with fail
          go_roundw
          case rel => exact ⟨j + 1, by omega, by go_num, by rw [HMX.out]; first | rfl | (congr 1; omega), HU5⟩
          case measure => simp [intOf]; omega
        · obtain rfl : j = ll := by omega
          have hgeI : ¬ (j : Int) < j := by omega
          have HT : Hid (l.take j = l) := Lib.hid (by rw [← HLL.out, List.take_length])
          rw [HT.out]
          have HUF := Lib.hid (HU2.out.trans_ext HU.out)
          go_wp2_with fail
          go_ret
          exact ⟨by rw [HE.out, HC0.out]; exact ret_int (by omega), HUF.out⟩
    | true =>
      cases sets with
      | false =>
        have HC0 : Hid ((if (true && (!false || decide (2 ≤ so))) = true then 1 else 0) = 1) := Lib.hid (by simp <;> omega)
        have x2 := cell_of HB2.out 2
        simp only [List.getElem?_toArray, List.getElem?_cons_zero, List.getElem?_cons_succ] at x2
        go_wp2_with fail
        clear x2
        go_loopw [5, 6] (fun s i wr => ∃ j : Nat, j ≤ ll ∧ i = .int .i64 j ∧ s = .int .i64 ((1 + cntsF false (l.take j) : Nat) : Int) ∧ Hid (Upto [] w2 wr)) (fun _ i _ => ll - (intOf i).toNat)
        case atStart => exact ⟨0, by omega, rfl, by simp [cntsF], Lib.hid (Upto.refl _ _)⟩
        case round =>
          obtain ⟨j, hj, rfl, rfl, HU⟩ := hrel
          have HBB := Lib.hid (HU.out.at HB2.out (by simp))
          have x5 := cell_of HBB.out 5
          simp only [List.getElem?_toArray, List.getElem?_cons_zero, List.getElem?_cons_succ] at x5
          rcases Nat.lt_or_ge j ll with hlt | hge
          · obtain ⟨x, hx⟩ : ∃ x, l[j]? = some x := ⟨_, List.getElem?_eq_getElem (by have := HLL.out; omega)⟩
            obtain ⟨g, o, xo, xn1, xn2, xn3, xs, xm, xq, xl1, xl2, xl3, rfl, d0, d1, d2, d3, d4, d5, hnx⟩ := HG.out j x hx
            have hw := HU2.out.trans_ext HU.out
            replace d0 := up_cell hw d0
            replace d1 := up_cell hw d1
            replace d2 := up_cell hw d2
            replace d3 := up_cell hw d3
            replace d4 := up_cell hw d4
            replace d5 := up_cell hw d5
            have HC := Lib.hid (HIH.out x (List.mem_of_getElem? hx) (by have := HSZ.out; have := sizesF_take l j x hx; omega) _ wr P (hnx.ext hw))
            have hltI : (j : Int) < ll := by omega
            have hj0 : (0 : Int) ≤ j := by omega
            have hb0 := sizesF_take l j x hx
            have hb1 := HSZ.out
            have hb2 := sizeF_pos x
            have hb3 := cnt_le false x
            have hb4 := cnts_le false (l.take j)
            have hb5 := cntsF_take false l j x hx
            generalize hA : cntsF false (l.take j) = A at *
            generalize hB : cntF false x = B at *
            generalize hCA : 1 + A = CA at *
            have hA0 : (0 : Int) ≤ CA := by omega
            have hA1 : (CA : Int) ≤ 10000001 := by omega
            have hB0 : (0 : Int) ≤ B := by omega
            have hB1 : (B : Int) ≤ 10000000 := by omega
            have HMX : Hid (1 + cntsF false (l.take (j + 1)) = CA + B) := Lib.hid (by omega)
            clear hnx hx hb0 hb1 hb2 hb3 hb4 hb5 hA hB hw hCA
            go_wp2_with fail
            refine HC.out.mono ?_
            rintro e w5 ⟨rfl, hu5⟩
            have HU5 := Lib.hid (HU.out.trans_ext hu5)
            clear hu5
            go_wp2_with fail
            go_roundw
            case rel => exact ⟨j + 1, by omega, by go_num, by rw [HMX.out]; first | rfl | (congr 1; omega), HU5⟩
            case measure => simp [intOf]; omega
          · obtain rfl : j = ll := by omega
            have hgeI : ¬ (j : Int) < j := by omega
            have HT : Hid (l.take j = l) := Lib.hid (by rw [← HLL.out, List.take_length])
            rw [HT.out]
            have HUF := Lib.hid (HU2.out.trans_ext HU.out)
            go_wp2_with fail
            go_ret
            exact ⟨by rw [HE.out, HC0.out]; exact ret_int (by omega), HUF.out⟩
      | true =>
        by_cases h2 : 2 ≤ so
        · have HC0 : Hid ((if (true && (!true || decide (2 ≤ so))) = true then 1 else 0) = 1) := Lib.hid (by simp <;> omega)
          have x2 := cell_of HB2.out 2
          simp only [List.getElem?_toArray, List.getElem?_cons_zero, List.getElem?_cons_succ] at x2
          go_wp2_with fail
          clear x2
          go_loopw [5, 6] (fun s i wr => ∃ j : Nat, j ≤ ll ∧ i = .int .i64 j ∧ s = .int .i64 ((1 + cntsF true (l.take j) : Nat) : Int) ∧ Hid (Upto [] w2 wr)) (fun _ i _ => ll - (intOf i).toNat)
          case atStart => exact ⟨0, by omega, rfl, by simp [cntsF], Lib.hid (Upto.refl _ _)⟩
          case round =>
            obtain ⟨j, hj, rfl, rfl, HU⟩ := hrel
            have HBB := Lib.hid (HU.out.at HB2.out (by simp))
            have x5 := cell_of HBB.out 5
            simp only [List.getElem?_toArray, List.getElem?_cons_zero, List.getElem?_cons_succ] at x5
            rcases Nat.lt_or_ge j ll with hlt | hge
            · obtain ⟨x, hx⟩ : ∃ x, l[j]? = some x := ⟨_, List.getElem?_eq_getElem (by have := HLL.out; omega)⟩
              obtain ⟨g, o, xo, xn1, xn2, xn3, xs, xm, xq, xl1, xl2, xl3, rfl, d0, d1, d2, d3, d4, d5, hnx⟩ := HG.out j x hx
              have hw := HU2.out.trans_ext HU.out
              replace d0 := up_cell hw d0
              replace d1 := up_cell hw d1
              replace d2 := up_cell hw d2
              replace d3 := up_cell hw d3
              replace d4 := up_cell hw d4
              replace d5 := up_cell hw d5
              have HC := Lib.hid (HIH.out x (List.mem_of_getElem? hx) (by have := HSZ.out; have := sizesF_take l j x hx; omega) _ wr P (hnx.ext hw))
              have hltI : (j : Int) < ll := by omega
              have hj0 : (0 : Int) ≤ j := by omega
              have hb0 := sizesF_take l j x hx
              have hb1 := HSZ.out
              have hb2 := sizeF_pos x
              have hb3 := cnt_le true x
              have hb4 := cnts_le true (l.take j)
              have hb5 := cntsF_take true l j x hx
              generalize hA : cntsF true (l.take j) = A at *
              generalize hB : cntF true x = B at *
              generalize hCA : 1 + A = CA at *
              have hA0 : (0 : Int) ≤ CA := by omega
              have hA1 : (CA : Int) ≤ 10000001 := by omega
              have hB0 : (0 : Int) ≤ B := by omega
              have hB1 : (B : Int) ≤ 10000000 := by omega
              have HMX : Hid (1 + cntsF true (l.take (j + 1)) = CA + B) := Lib.hid (by omega)
              clear hnx hx hb0 hb1 hb2 hb3 hb4 hb5 hA hB hw hCA
              go_wp2_with fail
              refine HC.out.mono ?_
              rintro e w5 ⟨rfl, hu5⟩
              have HU5 := Lib.hid (HU.out.trans_ext hu5)
              clear hu5
              go_wp2_with fail
              go_roundw
              case rel => exact ⟨j + 1, by omega, by go_num, by rw [HMX.out]; first | rfl | (congr 1; omega), HU5⟩
              case measure => simp [intOf]; omega
            · obtain rfl : j = ll := by omega
              have hgeI : ¬ (j : Int) < j := by omega
              have HT : Hid (l.take j = l) := Lib.hid (by rw [← HLL.out, List.take_length])
              rw [HT.out]
              have HUF := Lib.hid (HU2.out.trans_ext HU.out)
              go_wp2_with fail
              go_ret
              exact ⟨by rw [HE.out, HC0.out]; exact ret_int (by omega), HUF.out⟩
        · have HC0 : Hid ((if (true && (!true || decide (2 ≤ so))) = true then 1 else 0) = 0) := Lib.hid (by simp <;> omega)
          have x2 := cell_of HB2.out 2
          simp only [List.getElem?_toArray, List.getElem?_cons_zero, List.getElem?_cons_succ] at x2
          go_wp2_with fail
          clear x2
          go_loopw [5, 6] (fun s i wr => ∃ j : Nat, j ≤ ll ∧ i = .int .i64 j ∧ s = .int .i64 ((0 + cntsF true (l.take j) : Nat) : Int) ∧ Hid (Upto [] w2 wr)) (fun _ i _ => ll - (intOf i).toNat)
          case atStart => exact ⟨0, by omega, rfl, by simp [cntsF], Lib.hid (Upto.refl _ _)⟩
          case round =>
            obtain ⟨j, hj, rfl, rfl, HU⟩ := hrel
            have HBB := Lib.hid (HU.out.at HB2.out (by simp))
            have x5 := cell_of HBB.out 5
            simp only [List.getElem?_toArray, List.getElem?_cons_zero, List.getElem?_cons_succ] at x5
            rcases Nat.lt_or_ge j ll with hlt | hge
            · obtain ⟨x, hx⟩ : ∃ x, l[j]? = some x := ⟨_, List.getElem?_eq_getElem (by have := HLL.out; omega)⟩
              obtain ⟨g, o, xo, xn1, xn2, xn3, xs, xm, xq, xl1, xl2, xl3, rfl, d0, d1, d2, d3, d4, d5, hnx⟩ := HG.out j x hx
              have hw := HU2.out.trans_ext HU.out
              replace d0 := up_cell hw d0
              replace d1 := up_cell hw d1
              replace d2 := up_cell hw d2
              replace d3 := up_cell hw d3
              replace d4 := up_cell hw d4
              replace d5 := up_cell hw d5
              have HC := Lib.hid (HIH.out x (List.mem_of_getElem? hx) (by have := HSZ.out; have := sizesF_take l j x hx; omega) _ wr P (hnx.ext hw))
              have hltI : (j : Int) < ll := by omega
              have hj0 : (0 : Int) ≤ j := by omega
              have hb0 := sizesF_take l j x hx
              have hb1 := HSZ.out
              have hb2 := sizeF_pos x
              have hb3 := cnt_le true x
              have hb4 := cnts_le true (l.take j)
              have hb5 := cntsF_take true l j x hx
              generalize hA : cntsF true (l.take j) = A at *
              generalize hB : cntF true x = B at *
              generalize hCA : 0 + A = CA at *
              have hA0 : (0 : Int) ≤ CA := by omega
              have hA1 : (CA : Int) ≤ 10000001 := by omega
              have hB0 : (0 : Int) ≤ B := by omega
              have hB1 : (B : Int) ≤ 10000000 := by omega
              have HMX : Hid (0 + cntsF true (l.take (j + 1)) = CA + B) := Lib.hid (by omega)
              clear hnx hx hb0 hb1 hb2 hb3 hb4 hb5 hA hB hw hCA
              go_wp2_with fail
              refine HC.out.mono ?_
              rintro e w5 ⟨rfl, hu5⟩
              have HU5 := Lib.hid (HU.out.trans_ext hu5)
              clear hu5
              go_wp2_with fail
              go_roundw
              case rel => exact ⟨j + 1, by omega, by go_num, by rw [HMX.out]; first | rfl | (congr 1; omega), HU5⟩
              case measure => simp [intOf]; omega
            · obtain rfl : j = ll := by omega
              have hgeI : ¬ (j : Int) < j := by omega
              have HT : Hid (l.take j = l) := Lib.hid (by rw [← HLL.out, List.take_length])
              rw [HT.out]
              have HUF := Lib.hid (HU2.out.trans_ext HU.out)
              go_wp2_with fail
              go_ret
              exact ⟨by rw [HE.out, HC0.out]; exact ret_int (by omega), HUF.out⟩
end Go.Proofs.YtbnebkkpmcjmbaaGreatDoor


namespace Go.Proofs.YtbnebkkpmcjmbaaGreatDoor
open Go.RowKit Go.PL Go.Maps
set_option maxRecDepth 100000 in
set_option maxHeartbeats 1600000 in
theorem binds16_calls (a1 : Option Addr) (n1 c1 : Nat) (so nn mm : Int) (a2 : Option Addr) (n2 c2 : Nat) (h1 : 1 ≤ n1) (w : World) : Calls Tryz.prog 57 #[.agg #[.int .i64 16, .slice a1 n1 c1, .int .i64 so, .int .i64 nn, .int .i64 mm, .slice a2 n2 c2]] w fun e w' => e = .returned (.bool true) ∧ Upto [] w w' := by
  have HU := Lib.hid ((Upto.refl [] w).alloc (.cells #[.int .i64 16, .slice a1 n1 c1, .int .i64 so, .int .i64 nn, .int .i64 mm, .slice a2 n2 c2] 30))
  have hn : (0 : Int) < n1 := by omega
  go_enter Tryz.func57, Tryz.ntmps57
  go_wp2_with fail
  go_ret
  exact ⟨ret_bool (decide_eq_true (by omega)), HU.out⟩
set_option maxRecDepth 100000 in
set_option maxHeartbeats 1600000 in
theorem binds5_calls (a1 : Option Addr) (n1 c1 : Nat) (so nn mm : Int) (a2 : Option Addr) (n2 c2 : Nat) (w : World) : Calls Tryz.prog 57 #[.agg #[.int .i64 5, .slice a1 n1 c1, .int .i64 so, .int .i64 nn, .int .i64 mm, .slice a2 n2 c2]] w fun e w' => e = .returned (.bool false) ∧ Upto [] w w' := by
  have HU := Lib.hid ((Upto.refl [] w).alloc (.cells #[.int .i64 5, .slice a1 n1 c1, .int .i64 so, .int .i64 nn, .int .i64 mm, .slice a2 n2 c2] 30))
  go_enter Tryz.func57, Tryz.ntmps57
  go_wp2_with fail
  go_ret
  exact ⟨rfl, HU.out⟩
set_option maxRecDepth 100000 in
set_option maxHeartbeats 1600000 in
theorem uses16_calls (a1 : Option Addr) (n1 c1 : Nat) (so nn mm : Int) (a2 : Option Addr) (n2 c2 : Nat) (w : World) : Calls Tryz.prog 74 #[.agg #[.int .i64 16, .slice a1 n1 c1, .int .i64 so, .int .i64 nn, .int .i64 mm, .slice a2 n2 c2]] w fun e w' => e = .returned (.slice none 0 0) ∧ Upto [] w w' := by
  have HU := Lib.hid ((Upto.refl [] w).alloc (.cells #[.int .i64 16, .slice a1 n1 c1, .int .i64 so, .int .i64 nn, .int .i64 mm, .slice a2 n2 c2] 30))
  go_enter Tryz.func74, Tryz.ntmps74
  go_wp2_with fail
  go_ret
  exact ⟨rfl, HU.out⟩
set_option maxRecDepth 100000 in
set_option maxHeartbeats 1600000 in
theorem uses5_calls (a1 : Option Addr) (n1 c1 : Nat) (so nn mm : Int) (a2 : Option Addr) (n2 c2 : Nat) (w : World) : Calls Tryz.prog 74 #[.agg #[.int .i64 5, .slice a1 n1 c1, .int .i64 so, .int .i64 nn, .int .i64 mm, .slice a2 n2 c2]] w fun e w' => e = .returned (.slice a1 n1 c1) ∧ Upto [] w w' := by
  have HU := Lib.hid ((Upto.refl [] w).alloc (.cells #[.int .i64 5, .slice a1 n1 c1, .int .i64 so, .int .i64 nn, .int .i64 mm, .slice a2 n2 c2] 30))
  go_enter Tryz.func74, Tryz.ntmps74
  go_wp2_with fail
  go_ret
  exact ⟨rfl, HU.out⟩
set_option maxRecDepth 100000 in
set_option maxHeartbeats 3200000 in
/-- the free names of an atom over different names -/
theorem free5_calls (ns : List (List UInt8)) (hnd : ns.Nodup) (hl : ns.length ≤ 100) (P : Nat → Prop) (a1 : Option Addr) (c1 : Nat) (so nn mm : Int) (a2 : Option Addr) (c2 : Nat) (w : World) (h : SlP w P (.slice a1 ns.length c1) ns.length (ns.map sV)) : Calls Tryz.prog 54 #[.agg #[.int .i64 5, .slice a1 ns.length c1, .int .i64 so, .int .i64 nn, .int .i64 mm, .slice a2 0 c2], .slice none 0 0, .slice none 0 0] w fun e w' => ∃ vo, e = .returned vo ∧ TxI w ns vo w' := by
  have hu1 : Upto [] w (w.alloc (.cells #[.int .i64 5, .slice a1 ns.length c1, .int .i64 so, .int .i64 nn, .int .i64 mm, .slice a2 0 c2] 30)) := (Upto.refl [] w).alloc _
  have hb1 := new_at w (.cells #[.int .i64 5, .slice a1 ns.length c1, .int .i64 so, .int .i64 nn, .int .i64 mm, .slice a2 0 c2] 30)
  obtain ⟨W, hW⟩ : ∃ W, W = w.alloc (.cells #[.int .i64 5, .slice a1 ns.length c1, .int .i64 so, .int .i64 nn, .int .i64 mm, .slice a2 0 c2] 30) := ⟨_, rfl⟩
  rw [← hW] at hu1 hb1
  have HU1 := Lib.hid hu1
  have HB1 := Lib.hid hb1
  have HUS := Lib.hid (fun u => uses5_calls a1 ns.length c1 so nn mm a2 0 c2 u)
  have HBI := Lib.hid (fun u => binds5_calls a1 ns.length c1 so nn mm a2 0 c2 u)
  have HC : Hid (∀ j, j < ns.length → ∃ g o, a1 = some ⟨g, o, none⟩ ∧ ∀ u, Upto [] W u → u.cell? ⟨g, o + j, none⟩ = some (.string ⟨(ns.getD j []).toArray⟩)) := Lib.hid (fun j hj => by
    rcases h with ⟨h0, -⟩ | ⟨g, o, c', e, -, hc⟩
    · omega
    · simp only [Value.slice.injEq] at e
      refine ⟨g, o, e.1, fun u hu => ?_⟩
      have h1 := hc j (sV ns[j]) (by simp [hj])
      rw [((HU1.out.trans_ext hu).cell (World.block_lt_of_cell? w _ h1) (by simp)).trans h1]
      simp [sV, List.getD, hj])
  have HNC : Hid (∀ j, j < ns.length → (ns.take j).contains (ns.getD j []) = false ∧ ns.take (j + 1) = ns.take j ++ [ns.getD j []]) := Lib.hid (fun j hj => by
    have e : ns.getD j [] = ns[j] := by simp [List.getD, hj]
    refine ⟨?_, by rw [e]; exact List.take_succ_eq_append_getElem hj⟩
    cases hc : (ns.take j).contains (ns.getD j []) with
    | false => rfl
    | true =>
      rw [e] at hc
      have hm : ns[j] ∈ ns.take j := by simpa using hc
      obtain ⟨i, hi, e2⟩ := List.mem_iff_getElem.1 hm
      have hij : i < j := by rw [List.length_take] at hi; omega
      rw [List.getElem_take] at e2
      exact absurd e2 ((List.pairwise_iff_getElem.1 hnd) i j (by omega) hj hij))
  have HCN := Lib.hid (fun (x : List UInt8) (u : World) => containsS_calls [] x (.slice none 0 0) u (fun _ => True) SlP.nil (by simp))
  have HCO := Lib.hid (fun (ls : List (List UInt8)) (x : List UInt8) (l : Value) (u : World) (ht : TxI W ls l u) (hn : ls.length ≤ 100) => containsS_calls ls x l u _ ht.slp (by omega))
  obtain ⟨i0, hi0, hz0, hz1, hz2⟩ := info9'
  have HI0 := Lib.hid hi0
  have HZ0 := Lib.hid hz0
  have HZ1 := Lib.hid hz1
  have HZ2 := Lib.hid hz2
  obtain ⟨x0, x1, x2, x3, x4, x5⟩ := cells6 hb1
  have HTK : Hid (ns.take ns.length = ns) := Lib.hid (List.take_of_length_le (Nat.le_refl _))
  have HTL : Hid (∀ j, j ≤ ns.length → (ns.take j).length = j) := Lib.hid (fun j hj => by rw [List.length_take]; omega)
  generalize hln : ns.length = n at *
  have hn0 : (0 : Int) ≤ n := by omega
  have hn1 : (n : Int) ≤ 100 := by omega
  clear h hi0 hz0 hz1 hz2 hu1 hb1 hnd
  go_enter Tryz.func54, Tryz.ntmps54
  go_wp2_with fail
  simp only [← hW]
  clear hW
  go_wp2_with fail
  refine (HUS.out _).mono ?_
  rintro e w1 ⟨rfl, hu1⟩
  have HU2 := Lib.hid (hu1)
  have HB2 := Lib.hid (hu1.at HB1.out (by simp))
  clear hu1 x0 x1 x2 x3 x4 x5
  go_wp2_with fail
  go_loopw [2, 14] (fun vl vi wr => ∃ (j : Nat) (va : Option Addr) (vc : Nat), vi = .int .i64 j ∧ vl = .slice va j vc ∧ j ≤ n ∧ Hid (TxI W (ns.take j) (.slice va j vc) wr)) (fun _ vi _ => n - (intOf vi).toNat)
  case atStart => exact ⟨0, none, 0, rfl, rfl, by omega, Lib.hid (by rw [List.take_zero]; exact TxI.nil W w1 HU2.out)⟩
  case round =>
    obtain ⟨j, va, vc, rfl, rfl, hj, HI⟩ := hrel
    have hj0 : (0 : Int) ≤ j := by omega
    rcases Nat.lt_or_ge j n with hlt | hge
    · obtain ⟨g, o, rfl, hcell⟩ := HC.out j hlt
      have hc := hcell wr HI.out.up
      have hltI : (j : Int) < n := by omega
      obtain ⟨hnc, htk⟩ := HNC.out j hlt
      have HTL2 := Lib.hid (HTL.out j (by omega))
      generalize ns.getD j [] = y at *
      have HNC2 := Lib.hid hnc
      have HTK2 := Lib.hid htk
      clear hcell hnc htk
      go_wp2_with fail
      refine (HCN.out y wr).mono ?_
      rintro e w2 ⟨rfl, rfl⟩
      rw [show ([] : List (List UInt8)).contains y = false from rfl]
      go_wp2_with fail
      refine (HCO.out _ y _ w2 HI.out (by rw [HTL2.out]; omega)).mono ?_
      rintro e w3 ⟨rfl, rfl⟩
      rw [HNC2.out]
      have HT := Lib.hid (HI.out.ext ((Upto.refl [] _).alloc (.cells #[.string ⟨y.toArray⟩] 9)))
      have hrow := HT.out.row
      rw [HTL2.out] at hrow
      have hsrc := cells_at (l := [sV y]) (new_at w3 (.cells #[.string ⟨y.toArray⟩] 9))
      go_wp2_with (at_builtin; refine wpList_app _ rfl (.tmp 28) (.tmp 30) 22 rfl 9 i0 (.string ⟨#[]⟩) 1 16 Tryz.underlying22 HI0.out HZ0.out HZ1.out HZ2.out rfl (by decide) (.slice va j vc) j _ rfl hrow ⟨w3.heap.size, 0, none⟩ 1 1 [sV y] rfl rfl hsrc (by simp [Value.oneCell', sV]) (by unfold maxLen; omega) (by omega) ?_; intro vb vd w4 ho4 hu4 hw4; have HM5 := Lib.hid (HT.out.app HTL2.out ho4 hu4 hw4); clear hrow hsrc ho4 hu4 hw4)
      rw [show (j : Int) + 1 = ((j + 1 : Nat) : Int) from rfl]
      exact ⟨⟨j + 1, vb, vd, rfl, rfl, by omega, Lib.hid (by rw [HTK2.out]; exact HM5.out)⟩, meas_up (by omega) rfl⟩
    · obtain rfl : j = n := by omega
      have hgeI : ¬ ((j : Int) < j) := by omega
      have HB3 := Lib.hid (HI.out.up.at HB1.out (by simp))
      obtain ⟨y0, y1, y2, y3, y4, y5⟩ := cells6 HB3.out
      go_wp2_with fail
      refine (HBI.out wr).mono ?_
      rintro e w2 ⟨rfl, hu2⟩
      have HB4 := Lib.hid (hu2.at HB3.out (by simp))
      have HE := Lib.hid (HI.out.ext hu2)
      rw [HTK.out] at HE
      clear y0 y1 y2 y3 y4 y5 hu2
      have z5 := cell_of HB4.out 5
      simp only [List.getElem?_toArray, List.getElem?_cons_zero, List.getElem?_cons_succ] at z5
      go_wp2_with fail
      clear z5
      go_loopw [2, 46] (fun vl vi wr => vl = .slice va j vc ∧ vi = .int .i64 0 ∧ wr = w2) (fun _ _ _ => 0)
      case atStart => exact ⟨rfl, rfl, rfl⟩
      case round =>
        obtain ⟨rfl, rfl, rfl⟩ := hrel
        go_wp2_with fail
        go_ret
        exact ⟨_, rfl, HE.out.row, fun g hg => Nat.le_trans HU1.out.size (HE.out.own g hg), HU1.out.trans_ext HE.out.up⟩
end Go.Proofs.YtbnebkkpmcjmbaaGreatDoor


namespace Go.Proofs.YtbnebkkpmcjmbaaGreatDoor
open Go.RowKit Go.PL Go.Maps
set_option maxRecDepth 100000 in
set_option maxHeartbeats 1600000 in
theorem bound1_calls (a1 : Option Addr) (n1 c1 : Nat) (so nn mm : Int) (a2 : Option Addr) (n2 c2 : Nat) (p : Value) (w : World) : Calls Tryz.prog 56 #[.agg #[.int .i64 5, .slice a1 n1 c1, .int .i64 so, .int .i64 nn, .int .i64 mm, .slice a2 n2 c2], p] w fun e w' => e = .returned (.tuple #[]) ∧ Upto [] w w' := by
  have HU := Lib.hid ((Upto.refl [] w).alloc (.cells #[.int .i64 5, .slice a1 n1 c1, .int .i64 so, .int .i64 nn, .int .i64 mm, .slice a2 n2 c2] 30))
  have HBI := Lib.hid (fun u => binds5_calls a1 n1 c1 so nn mm a2 n2 c2 u)
  have hb := new_at w (.cells #[.int .i64 5, .slice a1 n1 c1, .int .i64 so, .int .i64 nn, .int .i64 mm, .slice a2 n2 c2] 30)
  obtain ⟨W, hW⟩ : ∃ W, W = w.alloc (.cells #[.int .i64 5, .slice a1 n1 c1, .int .i64 so, .int .i64 nn, .int .i64 mm, .slice a2 n2 c2] 30) := ⟨_, rfl⟩
  rw [← hW] at hb HU
  have e0 : ∀ u : Ext W, u.w.cell? ⟨w.heap.size, 0, none⟩ = some (.int .i64 5) := fun u => u.cell (cell_of hb 0)
  have e1 : ∀ u : Ext W, u.w.cell? ⟨w.heap.size, 1, none⟩ = some (.slice a1 n1 c1) := fun u => u.cell (cell_of hb 1)
  have e2 : ∀ u : Ext W, u.w.cell? ⟨w.heap.size, 2, none⟩ = some (.int .i64 so) := fun u => u.cell (cell_of hb 2)
  have e3 : ∀ u : Ext W, u.w.cell? ⟨w.heap.size, 3, none⟩ = some (.int .i64 nn) := fun u => u.cell (cell_of hb 3)
  have e4 : ∀ u : Ext W, u.w.cell? ⟨w.heap.size, 4, none⟩ = some (.int .i64 mm) := fun u => u.cell (cell_of hb 4)
  have e5 : ∀ u : Ext W, u.w.cell? ⟨w.heap.size, 5, none⟩ = some (.slice a2 n2 c2) := fun u => u.cell (cell_of hb 5)
  clear hb
  go_enter Tryz.func56, Tryz.ntmps56
  go_wp2_with fail
  simp only [← hW]
  clear hW
  refine wp_region_seg_all [1, 8] [] [0, 1, 2, 3, 4, 5, 6, 7, 8, 9, 10] (by kernel_rfl) (by kernel_rfl) ?_
  (refine seg_plain rfl rfl rfl rfl rfl ?_; intro K' hK'; go_big_quiet_op; go_big_quiet_on)
  refine seg_call rfl rfl rfl rfl (fun w => by go_simp) (fun w hu hd => HBI.out w) ?_
  simp only [Act.put, List.setIfInBounds_toArray, List.set_cons_zero, List.set_cons_succ]
  (refine seg_plain rfl rfl rfl rfl rfl ?_; intro K' hK'; go_big_quiet_op; go_big_quiet_on)
  refine seg_skip rfl rfl ?_
  simp only [Act.put, List.setIfInBounds_toArray, List.set_cons_zero, List.set_cons_succ]
  refine seg_skip rfl rfl ?_
  simp only [Act.put, List.setIfInBounds_toArray, List.set_cons_zero, List.set_cons_succ]
  refine seg_skip rfl rfl ?_
  simp only [Act.put, List.setIfInBounds_toArray, List.set_cons_zero, List.set_cons_succ]
  refine seg_skip rfl rfl ?_
  simp only [Act.put, List.setIfInBounds_toArray, List.set_cons_zero, List.set_cons_succ]
  refine seg_skip rfl rfl ?_
  simp only [Act.put, List.setIfInBounds_toArray, List.set_cons_zero, List.set_cons_succ]
  refine seg_skip rfl rfl ?_
  simp only [Act.put, List.setIfInBounds_toArray, List.set_cons_zero, List.set_cons_succ]
  refine seg_skip rfl rfl ?_
  simp only [Act.put, List.setIfInBounds_toArray, List.set_cons_zero, List.set_cons_succ]
  (refine seg_plain rfl rfl rfl rfl rfl ?_; intro K' hK'; go_big_quiet_op; go_big_quiet_on)
  intro w9 hg
  have HU9 := Lib.hid (HU.out.trans_ext hg.up)
  clear hg e0 e1 e2 e3 e4 e5
  go_wp2_with fail
  exact bodyPost_end (v := .tuple #[]) (by simp [results, Tryz.results56, go_sem]) rfl ⟨rfl, HU9.out⟩
set_option maxRecDepth 100000 in
set_option maxHeartbeats 1600000 in
theorem walk5_calls (a1 : Option Addr) (n1 c1 : Nat) (so nn mm : Int) (a2 : Option Addr) (c2 : Nat) (p : Value) (w : World) : Calls Tryz.prog 55 #[.agg #[.int .i64 5, .slice a1 n1 c1, .int .i64 so, .int .i64 nn, .int .i64 mm, .slice a2 0 c2], .func (.func 56) #[] #[p]] w fun e w' => e = .returned (.tuple #[]) ∧ Upto [] w w' := by
  have HU := Lib.hid ((Upto.refl [] w).alloc (.cells #[.int .i64 5, .slice a1 n1 c1, .int .i64 so, .int .i64 nn, .int .i64 mm, .slice a2 0 c2] 30))
  have HB := Lib.hid (new_at w (.cells #[.int .i64 5, .slice a1 n1 c1, .int .i64 so, .int .i64 nn, .int .i64 mm, .slice a2 0 c2] 30))
  have HBO := Lib.hid (fun u => bound1_calls a1 n1 c1 so nn mm a2 0 c2 p u)
  go_enter Tryz.func55, Tryz.ntmps55
  go_wp2_with fail
  refine (HBO.out _).mono ?_
  rintro e w1 ⟨rfl, hu1⟩
  have HU1 := Lib.hid (HU.out.trans_ext hu1)
  have HB1 := Lib.hid (hu1.at HB.out (by simp))
  clear hu1
  have z5 := cell_of HB1.out 5
  simp only [List.getElem?_toArray, List.getElem?_cons_zero, List.getElem?_cons_succ] at z5
  go_wp2_with fail
  clear z5
  go_loopw [12] (fun vi wr => vi = .int .i64 0 ∧ wr = w1) (fun _ _ => 0)
  case atStart => exact ⟨rfl, rfl⟩
  case round =>
    obtain ⟨rfl, rfl⟩ := hrel
    go_wp2_with fail
    exact bodyPost_end (v := .tuple #[]) (by simp [results, Tryz.results55, go_sem]) rfl ⟨rfl, HU1.out⟩
set_option maxRecDepth 100000 in
set_option maxHeartbeats 1600000 in
theorem bound5_calls (a1 : Option Addr) (n1 c1 : Nat) (so nn mm : Int) (a2 : Option Addr) (c2 : Nat) (w : World) : Calls Tryz.prog 20 #[.agg #[.int .i64 5, .slice a1 n1 c1, .int .i64 so, .int .i64 nn, .int .i64 mm, .slice a2 0 c2]] w fun e w' => e = .returned (.slice none 0 0) ∧ Upto [] w w' := by
  have HWA := Lib.hid (fun p u => walk5_calls a1 n1 c1 so nn mm a2 c2 p u)
  go_enter Tryz.func20, Tryz.ntmps20
  go_wp2_with fail
  refine (HWA.out _ _).mono ?_
  rintro e w1 ⟨rfl, hu1⟩
  have HU1 := Lib.hid ((((Upto.refl [] w).alloc _).alloc _).trans_ext hu1)
  have hb := hu1.at (new_at1 w (.cells #[.int .i64 5, .slice a1 n1 c1, .int .i64 so, .int .i64 nn, .int .i64 mm, .slice a2 0 c2] 30) (.cells #[.slice none 0 0] 22)) (by simp)
  have z0 := cell_of hb 0
  simp only [List.getElem?_toArray, List.getElem?_cons_zero] at z0
  clear hu1 hb
  go_wp2_with fail
  go_ret
  exact ⟨rfl, HU1.out⟩
end Go.Proofs.YtbnebkkpmcjmbaaGreatDoor


namespace Go.Proofs.YtbnebkkpmcjmbaaGreatDoor
open Go.RowKit Go.PL Go.Maps
def rpF (a b z : List UInt8) : List UInt8 := if z = a then b else z
/-- block g holds, from o on, the texts x and y; beside them what cs holds -/
structure NmB (w : World) (g o : Nat) (t : TypeId) (cs : Array Value) (x y : List UInt8) : Prop where
  st : ∃ cs', w.heap[g]? = some (.cells cs' t (0, 0)) ∧ cs'[o]? = some (sV x) ∧ cs'[o + 1]? = some (sV y) ∧ ∀ i, i ≠ o → i ≠ o + 1 → cs'[i]? = cs[i]?
theorem NmB.ext {w w' : World} {g o : Nat} {t : TypeId} {cs : Array Value} {x y : List UInt8} (h : NmB w g o t cs x y) (hu : Upto [] w w') : NmB w' g o t cs x y := by
  obtain ⟨cs', h1, h2⟩ := h.st
  exact ⟨cs', hu.at h1 (by simp), h2⟩
theorem NmB.upto {S : List Nat} {w w' : World} {g o : Nat} {t : TypeId} {cs : Array Value} {x y : List UInt8} (h : NmB w g o t cs x y) (hu : Upto S w w') (hs : g ∉ S) : NmB w' g o t cs x y := by
  obtain ⟨cs', h1, h2⟩ := h.st
  exact ⟨cs', hu.at h1 hs, h2⟩
theorem NmB.cells {w : World} {g o : Nat} {t : TypeId} {cs : Array Value} {x y : List UInt8} (h : NmB w g o t cs x y) : w.cell? ⟨g, o, none⟩ = some (sV x) ∧ w.cell? ⟨g, o + 1, none⟩ = some (sV y) ∧ w.frozen? ⟨g, o, none⟩ = false ∧ w.frozen? ⟨g, o + 1, none⟩ = false := by
  obtain ⟨cs', h1, h2, h3, -⟩ := h.st
  exact ⟨by rw [cell_of h1]; exact h2, by rw [cell_of h1]; exact h3, free_of h1 _, free_of h1 _⟩
theorem NmB.set0 {w : World} {g o : Nat} {t : TypeId} {cs : Array Value} {x y : List UInt8} (h : NmB w g o t cs x y) (z : List UInt8) : NmB (w.setCell ⟨g, o, none⟩ (sV z)) g o t cs z y := by
  obtain ⟨cs', h1, h2, h3, h4⟩ := h.st
  have hlt := (Array.getElem?_eq_some_iff.1 h2).1
  refine ⟨_, set_same h1 o (sV z), by rw [Array.getElem?_setIfInBounds_self_of_lt hlt], by rw [Array.getElem?_setIfInBounds_ne (by omega)]; exact h3, fun i i0 i1 => ?_⟩
  rw [Array.getElem?_setIfInBounds_ne (by omega)]
  exact h4 i i0 i1
theorem NmB.set1 {w : World} {g o : Nat} {t : TypeId} {cs : Array Value} {x y : List UInt8} (h : NmB w g o t cs x y) (z : List UInt8) : NmB (w.setCell ⟨g, o + 1, none⟩ (sV z)) g o t cs x z := by
  obtain ⟨cs', h1, h2, h3, h4⟩ := h.st
  have hlt := (Array.getElem?_eq_some_iff.1 h3).1
  refine ⟨_, set_same h1 (o + 1) (sV z), by rw [Array.getElem?_setIfInBounds_ne (by omega)]; exact h2, by rw [Array.getElem?_setIfInBounds_self_of_lt hlt], fun i i0 i1 => ?_⟩
  rw [Array.getElem?_setIfInBounds_ne (by omega)]
  exact h4 i i0 i1
set_option maxRecDepth 100000 in
set_option maxHeartbeats 3200000 in
theorem rename5_calls (g o c1 : Nat) (t : TypeId) (cs : Array Value) (x y a b : List UInt8) (so nn mm : Int) (a2 : Option Addr) (c2 : Nat) (w : World) (h : NmB w g o t cs x y) : Calls Tryz.prog 43 #[.agg #[.int .i64 5, .slice (some ⟨g, o, none⟩) 2 c1, .int .i64 so, .int .i64 nn, .int .i64 mm, .slice a2 0 c2], .string ⟨a.toArray⟩, .string ⟨b.toArray⟩] w fun e w' => e = .returned (.agg #[.int .i64 5, .slice (some ⟨g, o, none⟩) 2 c1, .int .i64 so, .int .i64 nn, .int .i64 mm, .slice a2 0 c2]) ∧ NmB w' g o t cs (rpF a b x) (rpF a b y) ∧ Upto [g] w w' := by
  have hgl : g < w.heap.size := by
    obtain ⟨cs', h1, -⟩ := h.st
    exact lt_of_heap h1
  obtain ⟨W, hW⟩ : ∃ W, W = (w.alloc (.cells #[.int .i64 5, .slice (some ⟨g, o, none⟩) 2 c1, .int .i64 so, .int .i64 nn, .int .i64 mm, .slice a2 0 c2] 30)).alloc (.cells #[.int .i64 0, .slice none 0 0, .int .i64 0, .int .i64 0, .int .i64 0, .slice none 0 0] 30) := ⟨_, rfl⟩
  have HU : Hid (Upto [] w W) := Lib.hid (by rw [hW]; exact ((Upto.refl [] w).alloc _).alloc _)
  have HB1 : Hid (W.heap[w.heap.size]? = some (.cells #[.int .i64 5, .slice (some ⟨g, o, none⟩) 2 c1, .int .i64 so, .int .i64 nn, .int .i64 mm, .slice a2 0 c2] 30 (0, 0))) := Lib.hid (by rw [hW]; exact alloc_old (new_at w _) _)
  have HB2 : Hid (W.heap[w.heap.size + 1]? = some (.cells #[.int .i64 0, .slice none 0 0, .int .i64 0, .int .i64 0, .int .i64 0, .slice none 0 0] 30 (0, 0))) := Lib.hid (by rw [hW]; exact new_at1 w _ _)
  have HBI := Lib.hid (fun u => binds5_calls (some ⟨g, o, none⟩) 2 c1 so nn mm a2 0 c2 u)
  have HUS := Lib.hid (fun u => uses5_calls (some ⟨g, o, none⟩) 2 c1 so nn mm a2 0 c2 u)
  have HN := Lib.hid (h.ext HU.out)
  have HGL := Lib.hid hgl
  obtain ⟨x0, x1, x2, x3, x4, x5⟩ := cells6 HB1.out
  clear h hgl
  go_enter Tryz.func43, Tryz.ntmps43
  go_wp2_with fail
  simp only [← hW]
  clear hW
  go_wp2_with fail
  refine (HBI.out _).mono ?_
  rintro e w1 ⟨rfl, hu1⟩
  have HU1 := Lib.hid hu1
  have HC1 := Lib.hid (hu1.at HB1.out (by simp))
  clear hu1 x0 x1 x2 x3 x4 x5
  obtain ⟨x0, x1, x2, x3, x4, x5⟩ := cells6 HC1.out
  go_wp2_with fail
  refine (HBI.out _).mono ?_
  rintro e w2 ⟨rfl, hu2⟩
  have HU2 := Lib.hid (HU1.out.trans_ext hu2)
  have HC2 := Lib.hid (HU2.out.at HB1.out (by simp))
  clear hu2 x0 x1 x2 x3 x4 x5
  obtain ⟨x0, x1, x2, x3, x4, x5⟩ := cells6 HC2.out
  go_wp2_with fail
  refine (HUS.out _).mono ?_
  rintro e w3 ⟨rfl, hu3⟩
  have HU3 := Lib.hid (HU2.out.trans_ext hu3)
  have HN3 := Lib.hid (HN.out.ext HU3.out)
  have HW3 := Lib.hid (lt_of_heap (HU3.out.at HB2.out (by simp)))
  clear hu3 x0 x1 x2 x3 x4 x5
  go_wp2_with fail
  go_loopw [80] (fun v wr => ∃ j : Nat, j ≤ 2 ∧ v = .int .i64 j ∧ Hid (NmB wr g o t cs (if 1 ≤ j then rpF a b x else x) (if 2 ≤ j then rpF a b y else y) ∧ Upto [g] w3 wr)) (fun v _ => 2 - (intOf v).toNat)
  case atStart => exact ⟨0, by omega, rfl, Lib.hid ⟨by simpa using HN3.out, Upto.refl _ _⟩⟩
  case round =>
    obtain ⟨j, hj, rfl, HI⟩ := hrel
    obtain rfl | rfl | rfl : j = 0 ∨ j = 1 ∨ j = 2 := by omega
    · replace HI : Hid (NmB wr g o t cs x y ∧ Upto [g] w3 wr) := Lib.hid (by simpa using HI.out)
      have hc := HI.out.1.cells
      by_cases hz : x = a
      · have hzz : (x == a) = true := by rw [hz]; exact beq_self_eq_true a
        have HR : Hid (rpF a b x = b) := Lib.hid (by unfold rpF; rw [if_pos hz])
        obtain ⟨q0, q1, f0, f1⟩ := hc
        have HI2 := Lib.hid (And.intro (HI.out.1.set0 b) (HI.out.2.setCell (p := ⟨g, o, none⟩) (Or.inl (by simp)) (sV b)))
        clear hz
        unfold sV at q0 q1
        go_wp2_with fail
        exact ⟨⟨1, by omega, rfl, Lib.hid (by simpa [HR.out, sV] using HI2.out)⟩, by simp [intOf]⟩
      · have hzz : (x == a) = false := by rw [beq_eq_false_iff_ne]; exact hz
        have HR : Hid (rpF a b x = x) := Lib.hid (by unfold rpF; rw [if_neg hz])
        obtain ⟨q0, q1, f0, f1⟩ := hc
        clear hz
        unfold sV at q0 q1
        go_wp2_with fail
        exact ⟨⟨1, by omega, rfl, Lib.hid (by simpa [HR.out] using HI.out)⟩, by simp [intOf]⟩
    · replace HI : Hid (NmB wr g o t cs (rpF a b x) y ∧ Upto [g] w3 wr) := Lib.hid (by simpa using HI.out)
      have hc := HI.out.1.cells
      by_cases hz : y = a
      · have hzz : (y == a) = true := by rw [hz]; exact beq_self_eq_true a
        have HR : Hid (rpF a b y = b) := Lib.hid (by unfold rpF; rw [if_pos hz])
        obtain ⟨q0, q1, f0, f1⟩ := hc
        have HI2 := Lib.hid (And.intro (HI.out.1.set1 b) (HI.out.2.setCell (p := ⟨g, o + 1, none⟩) (Or.inl (by simp)) (sV b)))
        clear hz
        unfold sV at q0 q1
        go_wp2_with fail
        exact ⟨⟨2, by omega, rfl, Lib.hid (by simpa [HR.out, sV] using HI2.out)⟩, by simp [intOf]⟩
      · have hzz : (y == a) = false := by rw [beq_eq_false_iff_ne]; exact hz
        have HR : Hid (rpF a b y = y) := Lib.hid (by unfold rpF; rw [if_neg hz])
        obtain ⟨q0, q1, f0, f1⟩ := hc
        clear hz
        unfold sV at q0 q1
        go_wp2_with fail
        exact ⟨⟨2, by omega, rfl, Lib.hid (by simpa [HR.out] using HI.out)⟩, by simp [intOf]⟩
    · replace HI : Hid (NmB wr g o t cs (rpF a b x) (rpF a b y) ∧ Upto [g] w3 wr) := Lib.hid (by simpa using HI.out)
      have HU9 := Lib.hid ((HU3.out.mono (by simp)).trans_same HI.out.2)
      have HG9 : Hid (w.heap.size ∉ [g] ∧ w.heap.size + 1 ∉ [g]) := Lib.hid ⟨by have := HGL.out; simp; omega, by have := HGL.out; simp; omega⟩
      have HC9 := Lib.hid (HU9.out.at HB1.out HG9.out.1)
      have HD9 := Lib.hid (HU9.out.at HB2.out HG9.out.2)
      obtain ⟨x0, x1, x2, x3, x4, x5⟩ := cells6 HC9.out
      go_wp2_with fail
      clear x0 x1 x2 x3 x4 x5
      rename World => w8
      go_loopw [96] (fun v wr => v = .int .i64 0 ∧ wr = w8) (fun _ _ => 0)
      case atStart => exact ⟨rfl, rfl⟩
      case round =>
        obtain ⟨rfl, rfl⟩ := hrel
        have x0 := cell_of HC9.out 0
        have x1 := cell_of HC9.out 1
        have x2 := cell_of HC9.out 2
        have x3 := cell_of HC9.out 3
        have x4 := cell_of HC9.out 4
        have x5 := cell_of HC9.out 5
        have y0 := cell_of HD9.out 0
        have y1 := cell_of HD9.out 1
        have y2 := cell_of HD9.out 2
        have y3 := cell_of HD9.out 3
        have y4 := cell_of HD9.out 4
        have y5 := cell_of HD9.out 5
        obtain ⟨f0, f1, f2, f3, f4, f5⟩ := frees6 HD9.out
        simp only [List.getElem?_toArray, List.getElem?_cons_zero, List.getElem?_cons_succ] at x0 x1 x2 x3 x4 x5 y0 y1 y2 y3 y4 y5
        go_wp2_with fail
        clear x0 x1 x2 x3 x4 x5 y0 y1 y2 y3 y4 y5 f0 f1 f2 f3 f4 f5
        have hst := nd_store HD9.out (.int .i64 5) (.slice (some ⟨g, o, none⟩) 2 c1) (.int .i64 so) (.int .i64 nn) (.int .i64 mm) (.slice a2 0 c2)
        have hself := nd_self wr (w.heap.size + 1) (.int .i64 5) (.slice (some ⟨g, o, none⟩) 2 c1) (.int .i64 so) (.int .i64 nn) (.int .i64 mm) (.slice a2 0 c2)
        have hup := nd_up ((HU.out.mono (by simp)).trans_same HU9.out) (B := w.heap.size + 1) (Or.inr (by omega)) (.int .i64 5) (.slice (some ⟨g, o, none⟩) 2 c1) (.int .i64 so) (.int .i64 nn) (.int .i64 mm) (.slice a2 0 c2)
        have hnm := HI.out.1.upto hself (by have := HGL.out; simp; omega)
        obtain ⟨q0, q1, q2, q3, q4, q5⟩ := cells6 hst
        exact bodyPost_ret (v := .agg #[.int .i64 5, .slice (some ⟨g, o, none⟩) 2 c1, .int .i64 so, .int .i64 nn, .int .i64 mm, .slice a2 0 c2]) (by simp [results, Tryz.results43, go_sem, q0, q1, q2, q3, q4, q5]) rfl ⟨rfl, hnm, hup⟩
end Go.Proofs.YtbnebkkpmcjmbaaGreatDoor


namespace Go.Proofs.YtbnebkkpmcjmbaaGreatDoor
open Go.RowKit Go.PL Go.Maps
theorem fresh_y : freshF [121] [[120], [121], [120], [121]] = [121, 50] := by kernel_rfl
theorem set_zero {w : World} {b : Nat} {cs : Array Value} {t : TypeId} {z : Nat × Nat} (h : w.heap[b]? = some (.cells cs t z)) (i : Nat) (v : Value) (hv : cs[i]? = some v) : w.setCell ⟨b, i, none⟩ v = w := by
  have hc : cs.setIfInBounds i v = cs := by
    apply Array.ext_getElem?
    intro j
    rw [Array.getElem?_setIfInBounds]
    split
    · rename_i hij
      subst hij
      rw [hv]
      split
      · rfl
      · rename_i hn
        exact absurd (Array.getElem?_eq_some_iff.1 hv).1 hn
    · rfl
  have hh : (w.setCell ⟨b, i, none⟩ v).heap = w.heap := by
    apply Array.ext_getElem?
    intro j
    simp only [World.setCell]
    rw [Array.getElem?_modify]
    split
    · rename_i hj
      subst hj
      rw [h]
      simp [hc]
    · rfl
  simp only [World.setCell] at hh ⊢
  rw [hh]
set_option maxRecDepth 100000 in
set_option maxHeartbeats 1600000 in
theorem freeT_calls (g o c2 : Nat) (t : TypeId) (cs : Array Value) (x y : List UInt8) (hxy : x ≠ y) (hc : 2 ≤ c2) (so nn mm : Int) (a3 : Option Addr) (c3 : Nat) (w : World) (h : NmB w g o t cs x y) : Calls Tryz.prog 19 #[.agg #[.int .i64 5, .slice (some ⟨g, o, none⟩) 2 c2, .int .i64 so, .int .i64 nn, .int .i64 mm, .slice a3 0 c3]] w fun e w' => ∃ vo, e = .returned vo ∧ TxI w [x, y] vo w' := by
  obtain ⟨cs', h6, h7, h8, -⟩ := h.st
  have hsl : SlP (w.alloc (.cells #[.int .i64 5, .slice (some ⟨g, o, none⟩) 2 c2, .int .i64 so, .int .i64 nn, .int .i64 mm, .slice a3 0 c3] 30)) (fun _ => True) (.slice (some ⟨g, o, none⟩) 2 c2) 2 ([x, y].map sV) := by
    have h6' := alloc_old h6 (.cells #[.int .i64 5, .slice (some ⟨g, o, none⟩) 2 c2, .int .i64 so, .int .i64 nn, .int .i64 mm, .slice a3 0 c3] 30)
    refine Or.inr ⟨g, o, c2, rfl, ⟨trivial, ⟨_, _, _, h6'⟩, hc⟩, fun j u hj => ?_⟩
    rw [cell_of h6']
    match j, hj with
    | 0, hj => simp at hj; rw [← hj]; exact h7
    | 1, hj => simp at hj; rw [← hj]; exact h8
    | j + 2, hj => simp at hj
  have HF := Lib.hid (free5_calls [x, y] (by simpa using hxy) (by simp) (fun _ => True) (some ⟨g, o, none⟩) c2 so nn mm a3 c3 _ hsl)
  have HU := Lib.hid ((Upto.refl [] w).alloc (.cells #[.int .i64 5, .slice (some ⟨g, o, none⟩) 2 c2, .int .i64 so, .int .i64 nn, .int .i64 mm, .slice a3 0 c3] 30))
  clear h h6 h7 h8 hsl
  go_enter Tryz.func19, Tryz.ntmps19
  go_wp2_with fail
  refine HF.out.mono ?_
  rintro e w1 ⟨vo, rfl, ht⟩
  have HT := Lib.hid (show TxI w [x, y] vo w1 from ⟨ht.row, fun g hg => Nat.le_trans HU.out.size (ht.own g hg), HU.out.trans_ext ht.up⟩)
  obtain ⟨va, vc, rfl, -⟩ := ownsRow_len ht.row
  clear ht
  go_wp2_with fail
  go_ret
  exact ⟨_, rfl, HT.out⟩
theorem TxI.apps {w wr wr' : World} {ls ys : List (List UInt8)} {l : Value} {n m : Nat} {b' : Option Addr} {c' : Nat} (h : TxI w ls l wr) (hn : ls.length = n) (hm : ys.length = m) (ho : wr'.ownsRow 0 9 1 (.slice b' (n + m) c') (n + m) (ls.map sV ++ ys.map sV)) (hu : Upto l.ownBlock.toList wr wr') (hw : ∀ g, (Value.slice b' (n + m) c').ownBlock = some g → l.ownBlock = some g ∨ wr.heap.size ≤ g) :
    TxI w (ls ++ ys) (.slice b' (n + m) c') wr' := by
  subst hn hm
  refine ⟨?_, fun g hg => (hw g hg).elim (h.own g) (fun h2 => Nat.le_trans h.up.size h2), h.up.trans hu (fun k hk => Or.inr (h.own k (Option.mem_toList.1 hk)))⟩
  rw [List.map_append, List.length_append]
  exact ho
/-- the quantifier's node: its name, its one operand, the operand's names, in three blocks -/
structure QnB (w : World) (g1 o1 gl ol g o : Nat) (c2 c3 : Nat) (so nn mm : Int) (a3 : Option Addr) (x0 x y : List UInt8) : Prop where
  n1 : ∃ cs t, w.heap[g1]? = some (.cells cs t (0, 0)) ∧ cs[o1]? = some (sV x0)
  l : ∃ cs t, w.heap[gl]? = some (.cells cs t (0, 0)) ∧ cs[ol]? = some (.int .i64 5) ∧ cs[ol + 1]? = some (.slice (some ⟨g, o, none⟩) 2 c2) ∧ cs[ol + 2]? = some (.int .i64 so) ∧ cs[ol + 3]? = some (.int .i64 nn) ∧ cs[ol + 4]? = some (.int .i64 mm) ∧ cs[ol + 5]? = some (.slice a3 0 c3)
  nm : ∃ t cs, NmB w g o t cs x y
  cap : 2 ≤ c2
theorem QnB.ext {w w' : World} {g1 o1 gl ol g o : Nat} {c2 c3 : Nat} {so nn mm : Int} {a3 : Option Addr} {x0 x y : List UInt8} (h : QnB w g1 o1 gl ol g o c2 c3 so nn mm a3 x0 x y) (hu : Upto [] w w') : QnB w' g1 o1 gl ol g o c2 c3 so nn mm a3 x0 x y := by
  obtain ⟨cs, t, h1, h2⟩ := h.n1
  obtain ⟨ds, u, h3, h4⟩ := h.l
  obtain ⟨t2, cs2, h5⟩ := h.nm
  exact ⟨⟨cs, t, hu.at h1 (by simp), h2⟩, ⟨ds, u, hu.at h3 (by simp), h4⟩, ⟨t2, cs2, h5.ext hu⟩, h.cap⟩
theorem QnB.cells {w : World} {g1 o1 gl ol g o : Nat} {c2 c3 : Nat} {so nn mm : Int} {a3 : Option Addr} {x0 x y : List UInt8} (h : QnB w g1 o1 gl ol g o c2 c3 so nn mm a3 x0 x y) : w.cell? ⟨g1, o1, none⟩ = some (sV x0) ∧ w.frozen? ⟨g1, o1, none⟩ = false ∧ w.cell? ⟨gl, ol, none⟩ = some (.int .i64 5) ∧ w.cell? ⟨gl, ol + 1, none⟩ = some (.slice (some ⟨g, o, none⟩) 2 c2) ∧ w.cell? ⟨gl, ol + 2, none⟩ = some (.int .i64 so) ∧ w.cell? ⟨gl, ol + 3, none⟩ = some (.int .i64 nn) ∧ w.cell? ⟨gl, ol + 4, none⟩ = some (.int .i64 mm) ∧ w.cell? ⟨gl, ol + 5, none⟩ = some (.slice a3 0 c3) := by
  obtain ⟨cs, t, h1, h2⟩ := h.n1
  obtain ⟨ds, u, h3, k0, k1, k2, k3, k4, k5⟩ := h.l
  exact ⟨by rw [cell_of h1]; exact h2, free_of h1 _, by rw [cell_of h3]; exact k0, by rw [cell_of h3]; exact k1, by rw [cell_of h3]; exact k2, by rw [cell_of h3]; exact k3, by rw [cell_of h3]; exact k4, by rw [cell_of h3]; exact k5⟩
theorem QnB.frozen {w : World} {g1 o1 gl ol g o : Nat} {c2 c3 : Nat} {so nn mm : Int} {a3 : Option Addr} {x0 x y : List UInt8} (h : QnB w g1 o1 gl ol g o c2 c3 so nn mm a3 x0 x y) (i : Nat) : w.frozen? ⟨gl, i, none⟩ = false := by
  obtain ⟨ds, u, h3, -⟩ := h.l
  exact free_of h3 _
theorem QnB.same {w : World} {g1 o1 gl ol g o : Nat} {c2 c3 : Nat} {so nn mm : Int} {a3 : Option Addr} {x0 x y : List UInt8} (h : QnB w g1 o1 gl ol g o c2 c3 so nn mm a3 x0 x y) : (((((w.setCell ⟨gl, ol, none⟩ (.int .i64 5)).setCell ⟨gl, ol + 1, none⟩ (.slice (some ⟨g, o, none⟩) 2 c2)).setCell ⟨gl, ol + 2, none⟩ (.int .i64 so)).setCell ⟨gl, ol + 3, none⟩ (.int .i64 nn)).setCell ⟨gl, ol + 4, none⟩ (.int .i64 mm)).setCell ⟨gl, ol + 5, none⟩ (.slice a3 0 c3) = w := by
  obtain ⟨ds, u, h3, k0, k1, k2, k3, k4, k5⟩ := h.l
  rw [set_zero h3 _ _ k0, set_zero h3 _ _ k1, set_zero h3 _ _ k2, set_zero h3 _ _ k3, set_zero h3 _ _ k4, set_zero h3 _ _ k5]
theorem QnB.setn {w : World} {g1 o1 gl ol g o : Nat} {c2 c3 : Nat} {so nn mm : Int} {a3 : Option Addr} {x0 x y : List UInt8} (h : QnB w g1 o1 gl ol g o c2 c3 so nn mm a3 x0 x y) (hd : g1 ≠ gl ∧ g1 ≠ g ∧ gl ≠ g) (z : List UInt8) : QnB (w.setCell ⟨g1, o1, none⟩ (sV z)) g1 o1 gl ol g o c2 c3 so nn mm a3 z x y := by
  obtain ⟨cs, t, h1, h2⟩ := h.n1
  obtain ⟨ds, u, h3, h4⟩ := h.l
  obtain ⟨t2, cs2, h5⟩ := h.nm
  have hlt := (Array.getElem?_eq_some_iff.1 h2).1
  have hup : Upto [g1] w (w.setCell ⟨g1, o1, none⟩ (sV z)) := (Upto.refl [g1] w).setCell (p := ⟨g1, o1, none⟩) (Or.inl (by simp)) _
  exact ⟨⟨_, t, set_same h1 o1 (sV z), by rw [Array.getElem?_setIfInBounds_self_of_lt hlt]⟩, ⟨ds, u, hup.at h3 (by simp; omega), h4⟩, ⟨t2, cs2, h5.upto hup (by simp; omega)⟩, h.cap⟩
theorem QnB.away {w w' : World} {S : List Nat} {g1 o1 gl ol g o : Nat} {c2 c3 : Nat} {so nn mm : Int} {a3 : Option Addr} {x0 x y : List UInt8} (h : QnB w g1 o1 gl ol g o c2 c3 so nn mm a3 x0 x y) (hu : Upto S w w') (hs : g1 ∉ S ∧ gl ∉ S ∧ g ∉ S) : QnB w' g1 o1 gl ol g o c2 c3 so nn mm a3 x0 x y := by
  obtain ⟨cs, t, h1, h2⟩ := h.n1
  obtain ⟨ds, u, h3, h4⟩ := h.l
  obtain ⟨t2, cs2, h5⟩ := h.nm
  exact ⟨⟨cs, t, hu.at h1 hs.1, h2⟩, ⟨ds, u, hu.at h3 hs.2.1, h4⟩, ⟨t2, cs2, h5.upto hu hs.2.2⟩, h.cap⟩
theorem QnB.leaf {w w' : World} {g1 o1 gl ol g o : Nat} {c2 c3 : Nat} {so nn mm : Int} {a3 : Option Addr} {x0 x y x' y' : List UInt8} (h : QnB w g1 o1 gl ol g o c2 c3 so nn mm a3 x0 x y) (hd : g1 ≠ gl ∧ g1 ≠ g ∧ gl ≠ g) (hu : Upto [g] w w') {t : TypeId} {cs : Array Value} (hn : NmB w' g o t cs x' y') : QnB w' g1 o1 gl ol g o c2 c3 so nn mm a3 x0 x' y' := by
  obtain ⟨cs1, t1, h1, h2⟩ := h.n1
  obtain ⟨ds, u, h3, h4⟩ := h.l
  exact ⟨⟨cs1, t1, hu.at h1 (by simp; omega), h2⟩, ⟨ds, u, hu.at h3 (by simp; omega), h4⟩, ⟨t, cs, hn⟩, h.cap⟩
set_option maxRecDepth 100000 in
set_option maxHeartbeats 6400000 in
theorem rename16_calls (g1 o1 c1 gl ol cl g o c2 c3 : Nat) (so nn mm : Int) (a3 : Option Addr) (w : World) (he : Env w) (hd : g1 ≠ gl ∧ g1 ≠ g ∧ gl ≠ g) (h : QnB w g1 o1 gl ol g o c2 c3 so nn mm a3 [121] [120] [121]) : Calls Tryz.prog 43 #[.agg #[.int .i64 16, .slice (some ⟨g1, o1, none⟩) 1 c1, .int .i64 0, .int .i64 0, .int .i64 0, .slice (some ⟨gl, ol, none⟩) 1 cl], .string ⟨[120].toArray⟩, .string ⟨[121].toArray⟩] w fun e w' => e = .returned (.agg #[.int .i64 16, .slice (some ⟨g1, o1, none⟩) 1 c1, .int .i64 0, .int .i64 0, .int .i64 0, .slice (some ⟨gl, ol, none⟩) 1 cl]) ∧ QnB w' g1 o1 gl ol g o c2 c3 so nn mm a3 [121, 50] [121] [121, 50] ∧ Upto [g1, gl, g] w w' := by
  have hlt : g1 < w.heap.size ∧ gl < w.heap.size ∧ g < w.heap.size := by
    obtain ⟨cs, t, h1, h2⟩ := h.n1
    obtain ⟨ds, u, h3, h4⟩ := h.l
    obtain ⟨t2, cs2, h5⟩ := h.nm
    obtain ⟨cs', h6, -⟩ := h5.st
    exact ⟨lt_of_heap h1, lt_of_heap h3, lt_of_heap h6⟩
  obtain ⟨W, hW⟩ : ∃ W, W = (w.alloc (.cells #[.int .i64 16, .slice (some ⟨g1, o1, none⟩) 1 c1, .int .i64 0, .int .i64 0, .int .i64 0, .slice (some ⟨gl, ol, none⟩) 1 cl] 30)).alloc (.cells #[.int .i64 0, .slice none 0 0, .int .i64 0, .int .i64 0, .int .i64 0, .slice none 0 0] 30) := ⟨_, rfl⟩
  have HU : Hid (Upto [] w W) := Lib.hid (by rw [hW]; exact ((Upto.refl [] w).alloc _).alloc _)
  have HB1 : Hid (W.heap[w.heap.size]? = some (.cells #[.int .i64 16, .slice (some ⟨g1, o1, none⟩) 1 c1, .int .i64 0, .int .i64 0, .int .i64 0, .slice (some ⟨gl, ol, none⟩) 1 cl] 30 (0, 0))) := Lib.hid (by rw [hW]; exact alloc_old (new_at w _) _)
  have HB2 : Hid (W.heap[w.heap.size + 1]? = some (.cells #[.int .i64 0, .slice none 0 0, .int .i64 0, .int .i64 0, .int .i64 0, .slice none 0 0] 30 (0, 0))) := Lib.hid (by rw [hW]; exact new_at1 w _ _)
  have HBI := Lib.hid (fun u => binds16_calls (some ⟨g1, o1, none⟩) 1 c1 0 0 0 (some ⟨gl, ol, none⟩) 1 cl (by omega) u)
  have HUS := Lib.hid (fun u => uses16_calls (some ⟨g1, o1, none⟩) 1 c1 0 0 0 (some ⟨gl, ol, none⟩) 1 cl u)
  have HFR : Hid (∀ (u : World), QnB u g1 o1 gl ol g o c2 c3 so nn mm a3 [121] [120] [121] → Calls Tryz.prog 19 #[.agg #[.int .i64 5, .slice (some ⟨g, o, none⟩) 2 c2, .int .i64 so, .int .i64 nn, .int .i64 mm, .slice a3 0 c3]] u fun e w' => ∃ vo, e = .returned vo ∧ TxI u [[120], [121]] vo w') := Lib.hid (fun u hn => by
    obtain ⟨t2, cs2, h5⟩ := hn.nm
    exact freeT_calls g o c2 t2 cs2 [120] [121] (by decide) hn.cap so nn mm a3 c3 u h5)
  have HBO := Lib.hid (fun u => bound5_calls (some ⟨g, o, none⟩) 2 c2 so nn mm a3 c3 u)
  obtain ⟨i0, hi0, hz0, hz1, hz2⟩ := info9'
  have HI0 := Lib.hid hi0
  have HZ0 := Lib.hid hz0
  have HZ1 := Lib.hid hz1
  have HZ2 := Lib.hid hz2
  have HQ := Lib.hid (h.ext HU.out)
  have HLT := Lib.hid hlt
  have HD := Lib.hid hd
  have HE := Lib.hid he
  obtain ⟨x0, x1, x2, x3, x4, x5⟩ := cells6 HB1.out
  clear h hlt hd he hi0 hz0 hz1 hz2
  go_enter Tryz.func43, Tryz.ntmps43
  go_wp2_with fail
  simp only [← hW]
  clear hW
  go_wp2_with fail
  refine (HBI.out _).mono ?_
  rintro e w1 ⟨rfl, hu1⟩
  have HU1 := Lib.hid hu1
  have HC1 := Lib.hid (hu1.at HB1.out (by simp))
  have HQ1 := Lib.hid (HQ.out.ext hu1)
  clear hu1 x0 x1 x2 x3 x4 x5
  obtain ⟨x0, x1, x2, x3, x4, x5⟩ := cells6 HC1.out
  obtain ⟨n0, nf, l0, l1, l2, l3, l4, l5⟩ := HQ1.out.cells
  unfold sV at n0
  go_wp2_with fail
  refine (HBI.out _).mono ?_
  rintro e w2 ⟨rfl, hu2⟩
  have HU2 := Lib.hid (HU1.out.trans_ext hu2)
  have HC2 := Lib.hid (HU2.out.at HB1.out (by simp))
  have HQ2 := Lib.hid (HQ1.out.ext hu2)
  clear hu2 x0 x1 x2 x3 x4 x5 n0 nf l0 l1 l2 l3 l4 l5
  obtain ⟨x0, x1, x2, x3, x4, x5⟩ := cells6 HC2.out
  obtain ⟨n0, nf, l0, l1, l2, l3, l4, l5⟩ := HQ2.out.cells
  unfold sV at n0
  go_wp2_with fail
  refine (HFR.out _ HQ2.out).mono ?_
  rintro e w3 ⟨vo, rfl, ht⟩
  have HU3 := Lib.hid (HU2.out.trans_ext ht.up)
  have HC3 := Lib.hid (ht.up.at HC2.out (by simp))
  have HQ3 := Lib.hid (HQ2.out.ext ht.up)
  have HCO := Lib.hid (containsS_calls [[120], [121]] [120] vo w3 _ ht.slp (by simp))
  obtain ⟨va, vc, rfl, -⟩ := ownsRow_len ht.row
  clear ht x0 x1 x2 x3 x4 x5 n0 nf l0 l1 l2 l3 l4 l5
  go_wp2_with fail
  refine HCO.out.mono ?_
  rintro e w4 ⟨rfl, rfl⟩
  rw [show ([[120], [121]] : List (List UInt8)).contains [120] = true from rfl]
  go_wp2_with fail
  have e5 : ∀ u : Ext w4, u.w.cell? ⟨w.heap.size, 5, none⟩ = some (.slice (some ⟨gl, ol, none⟩) 1 cl) := fun u => u.cell (cell_of HC3.out 5)
  obtain ⟨-, -, l0, l1, l2, l3, l4, l5⟩ := HQ3.out.cells
  have k0 : ∀ u : Ext w4, u.w.cell? ⟨gl, ol, none⟩ = some (.int .i64 5) := fun u => u.cell l0
  have k1 : ∀ u : Ext w4, u.w.cell? ⟨gl, ol + 1, none⟩ = some (.slice (some ⟨g, o, none⟩) 2 c2) := fun u => u.cell l1
  have k2 : ∀ u : Ext w4, u.w.cell? ⟨gl, ol + 2, none⟩ = some (.int .i64 so) := fun u => u.cell l2
  have k3 : ∀ u : Ext w4, u.w.cell? ⟨gl, ol + 3, none⟩ = some (.int .i64 nn) := fun u => u.cell l3
  have k4 : ∀ u : Ext w4, u.w.cell? ⟨gl, ol + 4, none⟩ = some (.int .i64 mm) := fun u => u.cell l4
  have k5 : ∀ u : Ext w4, u.w.cell? ⟨gl, ol + 5, none⟩ = some (.slice a3 0 c3) := fun u => u.cell l5
  clear l0 l1 l2 l3 l4 l5
  refine wp_region_seg_at [4, 9] [] [0, 1, 2, 3, 4, 5, 6, 7, 8, 9] [10, 11] 10 (by kernel_rfl) (by kernel_rfl) (by kernel_rfl) ?_
  iterate 4 (refine seg_plain rfl rfl rfl rfl rfl ?_; intro K' hK'; go_big_quiet_op; go_big_quiet_on)
  refine seg_callO (Y := Option Addr × Nat) (fun tt => .slice tt.1 2 tt.2) (fun tt u => TxI w4 [[120], [121]] (.slice tt.1 2 tt.2) u) (fun _ => []) rfl rfl rfl rfl (fun _ _ _ h hu => h.ext hu) (fun _ => List.nodup_nil) (fun w => by go_simp) (fun w hu hd => (HFR.out w (HQ3.out.ext hu)).mono fun e w' ⟨vo, h1, h2⟩ => by
    obtain ⟨va, vc, rfl, -⟩ := ownsRow_len h2.row
    exact ⟨(va, vc), h1, h2.up, ⟨h2.row, fun g hg => Nat.le_trans hu.size (h2.own g hg), hu.trans_ext h2.up⟩, fun b hb => by cases hb⟩) ?_
  rintro ⟨fa, fc⟩
  simp only [Act.put, List.setIfInBounds_toArray, List.set_cons_zero, List.set_cons_succ]
  iterate 4 (refine seg_plain rfl rfl rfl rfl rfl ?_; intro K' hK'; go_big_quiet_op; go_big_quiet_on)
  refine seg_call rfl rfl rfl rfl (fun w => by go_simp) (fun w hu hd => HBO.out w) ?_
  simp only [Act.put, List.setIfInBounds_toArray, List.set_cons_zero, List.set_cons_succ]
  intro w10 hg
  have HU10 := Lib.hid hg.up
  have HT10 : Hid (TxI w4 [[120], [121]] (.slice fa 2 fc) w10) := Lib.hid hg.hold.1
  simp only [List.drop_succ_cons, List.drop_zero]
  have hrow := HT10.out.row
  clear hg e5 k0 k1 k2 k3 k4 k5
  go_wp2_with (at_builtin; first
    | (refine wpList_apps _ rfl (.tmp 48) (.tmp 53) 22 rfl 9 i0 (.string ⟨#[]⟩) 16 Tryz.underlying22 HI0.out HZ0.out HZ1.out HZ2.out rfl (.slice fa 2 fc) 2 _ rfl hrow (.slice none 0 0) [] rfl (Or.inl ⟨rfl, none, 0, rfl⟩) (by simp) (by simp [maxLen]) (by simp) ?_; intro vb vd w11 ho hu hw; have HM := Lib.hid (HT10.out.apps (ys := []) rfl rfl ho hu hw); clear hrow ho hu hw; have HT11 : Hid (TxI w4 [[120], [121]] (.slice vb 2 vd) (w11.alloc (.cells #[.string ⟨#[120]⟩, .string ⟨#[121]⟩] 9))) := Lib.hid (HM.out.ext ((Upto.refl [] _).alloc _)); have hrow2 := HT11.out.row; have hsrc2 := cells_at (l := [sV [120], sV [121]]) (new_at w11 (.cells #[.string ⟨#[120]⟩, .string ⟨#[121]⟩] 9)))
    | (refine wpList_app _ rfl (.tmp 56) (.tmp 59) 22 rfl 9 i0 (.string ⟨#[]⟩) 1 16 Tryz.underlying22 HI0.out HZ0.out HZ1.out HZ2.out rfl (by decide) (.slice vb 2 vd) 2 _ rfl hrow2 ⟨w11.heap.size, 0, none⟩ 2 2 [sV [120], sV [121]] rfl rfl hsrc2 (by simp [Value.oneCell', sV]) (by simp [maxLen]) (by simp) ?_; intro vb2 vd2 w12 ho hu hw; have HN := Lib.hid (HT11.out.apps (ys := [[120], [121]]) rfl rfl ho hu hw); clear hrow2 hsrc2 ho hu hw))
  have HFP := Lib.hid (freshP_calls [121] [[120], [121], [120], [121]] (.slice vb2 4 vd2) w12 _ HN.out.slp (by simp) (by simp) (HE.out.ext (HU.out.trans_ext (HU3.out.trans_ext HN.out.up))))
  refine HFP.out.mono ?_
  rintro e w13 ⟨rfl, hu13⟩
  rw [fresh_y]
  have HU4 := Lib.hid (HN.out.up.trans_ext hu13)
  have HQ13 := Lib.hid (HQ3.out.ext HU4.out)
  have HC13 := Lib.hid (HU4.out.at HC3.out (by simp))
  have HU13 := Lib.hid (HU.out.trans_ext (HU3.out.trans_ext HU4.out))
  clear hu13 HFP HM HT11 HN HT10 HU10 HCO
  obtain ⟨n0, nf, -⟩ := HQ13.out.cells
  unfold sV at n0
  obtain ⟨x0, x1, x2, x3, x4, x5⟩ := cells6 HC13.out
  go_wp2_with fail
  obtain ⟨W14, hW14⟩ : ∃ W14, W14 = w13.setCell ⟨g1, o1, none⟩ (.string ⟨#[121, 50]⟩) := ⟨_, rfl⟩
  have HS14 : Hid (Upto [g1] w13 W14) := Lib.hid (by rw [hW14]; exact (Upto.refl [g1] w13).setCell (p := ⟨g1, o1, none⟩) (Or.inl (by simp)) _)
  have HQ14 : Hid (QnB W14 g1 o1 gl ol g o c2 c3 so nn mm a3 [121, 50] [120] [121]) := Lib.hid (by rw [hW14]; exact HQ13.out.setn HD.out [121, 50])
  have HC14 := Lib.hid (HS14.out.at HC13.out (by have := HLT.out.1; simp; omega))
  have HZ14 := Lib.hid (HS14.out.at (HU4.out.at (HU3.out.at HB2.out (by simp)) (by simp)) (by have := HLT.out.1; simp; omega))
  have HU14 : Hid (Upto [g1, gl, g] w W14) := Lib.hid ((HU13.out.mono (by simp)).trans_same (HS14.out.mono (by simp)))
  simp only [← hW14]
  clear hW14 x0 x1 x2 x3 x4 x5 n0 nf
  have x5 := cell_of HC14.out 5
  simp only [List.getElem?_toArray, List.getElem?_cons_zero, List.getElem?_cons_succ] at x5
  obtain ⟨-, -, l0, l1, l2, l3, l4, l5⟩ := HQ14.out.cells
  obtain ⟨t15, cs15, hn15⟩ := HQ14.out.nm
  have HRN := Lib.hid (rename5_calls g o c2 t15 cs15 [120] [121] [121] [121, 50] so nn mm a3 c3 W14.drew (hn15.ext (Upto.refl [] W14).drew))
  have HP : Hid (Upto [] W14 W14.drew) := Lib.hid (Upto.refl [] W14).drew
  have HR1 : Hid (rpF [121] [121, 50] [120] = [120] ∧ rpF [121] [121, 50] [121] = [121, 50]) := Lib.hid ⟨by decide, by decide⟩
  clear hn15
  go_region_with (refine HRN.out.mono ?_
                  rintro e w16 ⟨rfl, hn16, hu16⟩
                  rw [HR1.out.1, HR1.out.2] at hn16
                  have HQ16 := Lib.hid ((HQ14.out.ext HP.out).leaf HD.out hu16 hn16)
                  have HU16 := Lib.hid ((HU14.out.trans_ext HP.out).trans_same (hu16.mono (by simp)))
                  have HC16 := Lib.hid (hu16.at (HP.out.at HC14.out (by simp)) (by have := HLT.out.2.2; simp; omega))
                  have HZ16 := Lib.hid (hu16.at (HP.out.at HZ14.out (by simp)) (by have := HLT.out.2.2; simp; omega))
                  have z5 := cell_of HC16.out 5
                  simp only [List.getElem?_toArray, List.getElem?_cons_zero, List.getElem?_cons_succ] at z5
                  clear hn16 hu16
                  obtain ⟨-, -, m0, m1, m2, m3, m4, m5⟩ := HQ16.out.cells
                  have f0 := HQ16.out.frozen ol
                  have f1 := HQ16.out.frozen (ol + 1)
                  have f2 := HQ16.out.frozen (ol + 2)
                  have f3 := HQ16.out.frozen (ol + 3)
                  have f4 := HQ16.out.frozen (ol + 4)
                  have f5 := HQ16.out.frozen (ol + 5))
  all_goals
    simp only [HQ16.out.same]
    clear x5 l0 l1 l2 l3 l4 l5 z5 m0 m1 m2 m3 m4 m5 f0 f1 f2 f3 f4 f5
    obtain ⟨x0, x1, x2, x3, x4, x5⟩ := cells6 HC16.out
    go_wp2_with fail
    refine (HUS.out _).mono ?_
    rintro e w17 ⟨rfl, hu17⟩
    have HC17 := Lib.hid (hu17.at HC16.out (by simp))
    have HQ17 := Lib.hid (HQ16.out.ext hu17)
    have HZ17 := Lib.hid (hu17.at HZ16.out (by simp))
    have HU17 := Lib.hid (HU16.out.trans_ext hu17)
    clear hu17 x0 x1 x2 x3 x4 x5
    have x5 := cell_of HC17.out 5
    simp only [List.getElem?_toArray, List.getElem?_cons_zero, List.getElem?_cons_succ] at x5
    go_wp2_with fail
    go_loopw [80] (fun v wr => v = .int .i64 0 ∧ wr = w17) (fun _ _ => 0)
    case atStart => exact ⟨rfl, rfl⟩
    case round =>
      obtain ⟨rfl, rfl⟩ := hrel
      go_wp2_with fail
      go_loopw [96] (fun v wr => ∃ j : Nat, j ≤ 1 ∧ v = .int .i64 j ∧ Hid (QnB wr g1 o1 gl ol g o c2 c3 so nn mm a3 [121, 50] (if j = 0 then [120] else [121]) [121, 50] ∧ wr.heap[w.heap.size]? = some (.cells #[.int .i64 16, .slice (some ⟨g1, o1, none⟩) 1 c1, .int .i64 0, .int .i64 0, .int .i64 0, .slice (some ⟨gl, ol, none⟩) 1 cl] 30 (0, 0)) ∧ wr.heap[w.heap.size + 1]? = some (.cells #[.int .i64 0, .slice none 0 0, .int .i64 0, .int .i64 0, .int .i64 0, .slice none 0 0] 30 (0, 0)) ∧ Upto [g1, gl, g] w wr)) (fun v _ => 1 - (intOf v).toNat)
      case atStart => exact ⟨0, by omega, rfl, Lib.hid ⟨HQ17.out, HC17.out, HZ17.out, HU17.out⟩⟩
      case round =>
        obtain ⟨j, hj, rfl, HJ⟩ := hrel
        obtain rfl | rfl : j = 0 ∨ j = 1 := by omega
        · replace HJ : Hid (QnB wr g1 o1 gl ol g o c2 c3 so nn mm a3 [121, 50] [120] [121, 50] ∧ wr.heap[w.heap.size]? = some (.cells #[.int .i64 16, .slice (some ⟨g1, o1, none⟩) 1 c1, .int .i64 0, .int .i64 0, .int .i64 0, .slice (some ⟨gl, ol, none⟩) 1 cl] 30 (0, 0)) ∧ wr.heap[w.heap.size + 1]? = some (.cells #[.int .i64 0, .slice none 0 0, .int .i64 0, .int .i64 0, .int .i64 0, .slice none 0 0] 30 (0, 0)) ∧ Upto [g1, gl, g] w wr) := Lib.hid (by simpa using HJ.out)
          obtain ⟨x0, x1, x2, x3, x4, x5⟩ := cells6 HJ.out.2.1
          obtain ⟨-, -, l0, l1, l2, l3, l4, l5⟩ := HJ.out.1.cells
          go_wp2_with fail
          obtain ⟨W18, hW18⟩ : ∃ W18, W18 = wr.alloc (.cells #[.int .i64 5, .slice (some ⟨g, o, none⟩) 2 c2, .int .i64 so, .int .i64 nn, .int .i64 mm, .slice a3 0 c3] 30) := ⟨_, rfl⟩
          have HA18 : Hid (Upto [] wr W18) := Lib.hid (by rw [hW18]; exact (Upto.refl [] wr).alloc _)
          have HL18 : Hid (W18.heap[wr.heap.size]? = some (.cells #[.int .i64 5, .slice (some ⟨g, o, none⟩) 2 c2, .int .i64 so, .int .i64 nn, .int .i64 mm, .slice a3 0 c3] 30 (0, 0))) := Lib.hid (by rw [hW18]; exact new_at wr _)
          simp only [← hW18]
          have HP2 : Hid (Upto [] wr W18.drew) := Lib.hid HA18.out.drew
          have HC18 := Lib.hid (HA18.out.at HJ.out.2.1 (by simp))
          clear hW18 x0 x1 x2 x3 x4 x5 l0 l1 l2 l3 l4 l5
          have x5 := cell_of HC18.out 5
          simp only [List.getElem?_toArray, List.getElem?_cons_zero, List.getElem?_cons_succ] at x5
          obtain ⟨y0, y1, y2, y3, y4, y5⟩ := cells6 HL18.out
          obtain ⟨t19, cs19, hn19⟩ := HJ.out.1.nm
          have HRM := Lib.hid (rename5_calls g o c2 t19 cs19 [120] [121, 50] [120] [121] so nn mm a3 c3 W18.drew (hn19.ext HP2.out))
          have HR2 : Hid (rpF [120] [121] [120] = [121] ∧ rpF [120] [121] [121, 50] = [121, 50]) := Lib.hid ⟨by decide, by decide⟩
          clear hn19
          go_region_with (refine HRM.out.mono ?_
                          rintro e w20 ⟨rfl, hn20, hu20⟩
                          rw [HR2.out.1, HR2.out.2] at hn20
                          have HJ20 := Lib.hid (And.intro ((HJ.out.1.ext HP2.out).leaf HD.out hu20 hn20) (And.intro (hu20.at (HP2.out.at HJ.out.2.1 (by simp)) (by have := HLT.out.2.2; simp; omega)) (And.intro (hu20.at (HP2.out.at HJ.out.2.2.1 (by simp)) (by have := HLT.out.2.2; simp; omega)) ((HJ.out.2.2.2.trans_ext HP2.out).trans_same (hu20.mono (by simp))))))
                          have z5 := cell_of HJ20.out.2.1 5
                          simp only [List.getElem?_toArray, List.getElem?_cons_zero, List.getElem?_cons_succ] at z5
                          clear hn20 hu20
                          obtain ⟨-, -, m0, m1, m2, m3, m4, m5⟩ := HJ20.out.1.cells
                          have f0 := HJ20.out.1.frozen ol
                          have f1 := HJ20.out.1.frozen (ol + 1)
                          have f2 := HJ20.out.1.frozen (ol + 2)
                          have f3 := HJ20.out.1.frozen (ol + 3)
                          have f4 := HJ20.out.1.frozen (ol + 4)
                          have f5 := HJ20.out.1.frozen (ol + 5))
          all_goals
            simp only [HJ20.out.1.same]
            clear x5 y0 y1 y2 y3 y4 y5 z5 m0 m1 m2 m3 m4 m5 f0 f1 f2 f3 f4 f5
            go_wp2_with fail
            exact ⟨⟨1, by omega, rfl, Lib.hid (by simpa using HJ20.out)⟩, by simp [intOf]⟩
        · replace HJ : Hid (QnB wr g1 o1 gl ol g o c2 c3 so nn mm a3 [121, 50] [121] [121, 50] ∧ wr.heap[w.heap.size]? = some (.cells #[.int .i64 16, .slice (some ⟨g1, o1, none⟩) 1 c1, .int .i64 0, .int .i64 0, .int .i64 0, .slice (some ⟨gl, ol, none⟩) 1 cl] 30 (0, 0)) ∧ wr.heap[w.heap.size + 1]? = some (.cells #[.int .i64 0, .slice none 0 0, .int .i64 0, .int .i64 0, .int .i64 0, .slice none 0 0] 30 (0, 0)) ∧ Upto [g1, gl, g] w wr) := Lib.hid (by simpa using HJ.out)
          obtain ⟨x0, x1, x2, x3, x4, x5⟩ := cells6 HJ.out.2.1
          obtain ⟨y0, y1, y2, y3, y4, y5⟩ := cells6 HJ.out.2.2.1
          obtain ⟨f0, f1, f2, f3, f4, f5⟩ := frees6 HJ.out.2.2.1
          go_wp2_with fail
          clear x0 x1 x2 x3 x4 x5 y0 y1 y2 y3 y4 y5 f0 f1 f2 f3 f4 f5
          have hst := nd_store HJ.out.2.2.1 (.int .i64 16) (.slice (some ⟨g1, o1, none⟩) 1 c1) (.int .i64 0) (.int .i64 0) (.int .i64 0) (.slice (some ⟨gl, ol, none⟩) 1 cl)
          have hself := nd_self wr (w.heap.size + 1) (.int .i64 16) (.slice (some ⟨g1, o1, none⟩) 1 c1) (.int .i64 0) (.int .i64 0) (.int .i64 0) (.slice (some ⟨gl, ol, none⟩) 1 cl)
          have hup := nd_up HJ.out.2.2.2 (B := w.heap.size + 1) (Or.inr (by omega)) (.int .i64 16) (.slice (some ⟨g1, o1, none⟩) 1 c1) (.int .i64 0) (.int .i64 0) (.int .i64 0) (.slice (some ⟨gl, ol, none⟩) 1 cl)
          have hqn := HJ.out.1.away hself (by have := HLT.out; simp; omega)
          obtain ⟨q0, q1, q2, q3, q4, q5⟩ := cells6 hst
          exact bodyPost_ret (v := .agg #[.int .i64 16, .slice (some ⟨g1, o1, none⟩) 1 c1, .int .i64 0, .int .i64 0, .int .i64 0, .slice (some ⟨gl, ol, none⟩) 1 cl]) (by simp [results, Tryz.results43, go_sem, q0, q1, q2, q3, q4, q5]) rfl ⟨rfl, hqn, hup⟩
end Go.Proofs.YtbnebkkpmcjmbaaGreatDoor


namespace Go.Proofs.YtbnebkkpmcjmbaaGreatDoor
open Go.RowKit Go.PL Go.Maps
/-- a list of texts in blocks of P or new since w -/
def PlP (P : Nat → Prop) (ls : List (List UInt8)) (w : World) (e : Ending) (w' : World) : Prop := ∃ v, e = .returned v ∧ SlP w' (fun b => P b ∨ New w b) v ls.length (ls.map sV) ∧ Upto [] w w'
set_option maxRecDepth 100000 in
set_option maxHeartbeats 3200000 in
theorem plus_calls (ls : List (List UInt8)) (x : List UInt8) (v : Value) (w : World) (P : Nat → Prop) (h : SlP w P v ls.length (ls.map sV)) (hl : ls.length ≤ 1000000) : Calls Tryz.prog 59 #[v, .string ⟨x.toArray⟩] w (PlP P (plusF ls x) w) := by
  obtain ⟨a, c, rfl⟩ := h.len
  have HH := Lib.hid (hasR_calls ls x _ w P h hl)
  have HS := Lib.hid h
  obtain ⟨i0, hi0, hz0, hz1, hz2⟩ := info9'
  have HI0 := Lib.hid hi0
  have HZ0 := Lib.hid hz0
  have HZ1 := Lib.hid hz1
  have HZ2 := Lib.hid hz2
  have HP : Hid (ls.contains x = true → plusF ls x = ls) := Lib.hid (fun hc => plus_in (by simpa using hc))
  have HQ : Hid (ls.contains x = false → plusF ls x = ls ++ [x]) := Lib.hid (fun hc => plus_out (by simpa using hc))
  generalize plusF ls x = R at *
  have HN : Hid (ls.length = ls.length) := Lib.hid rfl
  generalize hn : ls.length = n at *
  have hn0 : (0 : Int) ≤ n := by omega
  have hn1 : (n : Int) ≤ 1000000 := by omega
  have HLN := Lib.hid hn
  have HT0 : Hid (TxI w [] (.slice (some ⟨w.heap.size, 0, none⟩) 0 0) (w.alloc (.cells #[] 9))) := Lib.hid ⟨ownsRow_none w 9, fun g hg => by simp [Value.ownBlock] at hg; omega, (Upto.refl [] w).alloc _⟩
  have hrow := HT0.out.row
  have hslc : SlC (w.alloc (.cells #[] 9)) (.slice a n c) (ls.map sV) := by
    have := HS.out.ext ((Upto.refl [] w).alloc (.cells #[] 9))
    rw [show n = (ls.map sV).length by rw [List.length_map, hn]] at this ⊢
    exact this.slc
  have HML : Hid ((ls.map sV).length = n) := Lib.hid (by rw [List.length_map, hn])
  clear h hi0 hz0 hz1 hz2 hn HN
  go_enter Tryz.func59, Tryz.ntmps59
  go_wp2_with fail
  refine HH.out.mono ?_
  rintro e w1 ⟨rfl, rfl⟩
  cases hc : ls.contains x with
  | true =>
    have HR := Lib.hid (HP.out hc)
    clear hrow hslc hc
    go_wp2_with fail
    go_ret
    unfold PlP
    rw [HR.out, HLN.out]
    exact ⟨_, rfl, HS.out.mono (fun b hb _ => Or.inl hb), Upto.refl _ _⟩
  | false =>
    have HR := Lib.hid (HQ.out hc)
    clear hc
    go_wp2_with (at_builtin; first
      | (refine wpList_apps _ rfl (.tmp 9) (.tmp 10) 22 rfl 9 i0 (.string ⟨#[]⟩) 16 Tryz.underlying22 HI0.out HZ0.out HZ1.out HZ2.out rfl (.slice (some ⟨w1.heap.size, 0, none⟩) 0 0) 0 _ rfl hrow (.slice a n c) (ls.map sV) rfl hslc (by simp [Value.oneCell', sV]) (by rw [HML.out]; unfold maxLen; omega) (by rw [HML.out]; omega) ?_; intro vb vd w3 ho hu hw; rw [HML.out] at ho hw; have HM := Lib.hid (HT0.out.apps (ys := ls) rfl HLN.out ho hu hw); rw [HML.out]; clear hrow ho hu hw hslc; have HT4 : Hid (TxI w1 ls (.slice vb (0 + n) vd) (w3.alloc (.cells #[.string ⟨x.toArray⟩] 9))) := Lib.hid (HM.out.ext ((Upto.refl [] _).alloc _)); have hrow2 := HT4.out.row; have hsrc2 := cells_at (l := [sV x]) (new_at w3 (.cells #[.string ⟨x.toArray⟩] 9)))
      | (rw [Nat.zero_add] at *; rw [HLN.out] at hrow2; refine wpList_app _ rfl (.tmp 11) (.tmp 13) 22 rfl 9 i0 (.string ⟨#[]⟩) 1 16 Tryz.underlying22 HI0.out HZ0.out HZ1.out HZ2.out rfl (by decide) (.slice vb n vd) n _ rfl hrow2 ⟨w3.heap.size, 0, none⟩ 1 1 [sV x] rfl rfl hsrc2 (by simp [Value.oneCell', sV]) (by unfold maxLen; omega) (by omega) ?_; intro vb2 vd2 w5 ho hu hw; have HM5 := Lib.hid (HT4.out.app HLN.out ho hu hw); clear hrow2 hsrc2 ho hu hw))
    go_ret
    unfold PlP
    rw [HR.out]
    refine ⟨_, rfl, ?_, HM5.out.up⟩
    have := SlP.of_row (P := fun b => P b ∨ New w1 b) HM5.out.row (fun g hg => Or.inr (HM5.out.own g hg))
    exact this
end Go.Proofs.YtbnebkkpmcjmbaaGreatDoor


namespace Go.Proofs.YtbnebkkpmcjmbaaGreatDoor
open Go.RowKit Go.PL Go.Maps
mutual
/-- all names of all nodes -/
def nmsF : Nd → Nat
  | .mk _ nms _ _ _ l => nms.length + nmssF l
def nmssF : List Nd → Nat
  | [] => 0
  | x :: xs => nmsF x + nmssF xs
end
theorem fold_len : ∀ (l out : List (List UInt8)), (l.foldl plusF out).length ≤ out.length + l.length
  | [], out => by simp
  | x :: xs, out => by
    rw [List.foldl_cons]
    have := fold_len xs (plusF out x)
    have h2 : (plusF out x).length ≤ out.length + 1 := by
      unfold plusF
      split <;> simp
    simp only [List.length_cons]
    omega
theorem uses_len (op : Int) (nms : List (List UInt8)) : (usesF op nms).length ≤ nms.length := by
  unfold usesF
  split
  · simp
  · split <;> simp
theorem takeR_len (b : Bool) (nm : List UInt8) (l out : List (List UInt8)) : (takeR b nm l out).length ≤ out.length + l.length := by
  rw [takeR_eq]
  have := fold_len (l.filter (fun y => !(b && y == nm))) out
  have h2 := List.length_filter_le (fun y => !(b && y == nm)) l
  omega
mutual
theorem freeR_len : ∀ n : Nd, (freeR n).length ≤ nmsF n
  | .mk op nms _ _ _ l => by
    unfold freeR nmsF
    have h1 := freesR_len l (bindsF op nms.length) (nms.headD []) ((usesF op nms).foldl plusF [])
    have h2 := fold_len (usesF op nms) []
    have h3 := uses_len op nms
    simp at h2
    omega
theorem freesR_len : ∀ (l : List Nd) (b : Bool) (nm : List UInt8) (out : List (List UInt8)), (freesR l b nm out).length ≤ out.length + nmssF l
  | [], b, nm, out => by unfold freesR; omega
  | x :: xs, b, nm, out => by
    unfold freesR nmssF
    have h1 := freesR_len xs b nm (takeR b nm (freeR x) out)
    have h2 := takeR_len b nm (freeR x) out
    have h3 := freeR_len x
    omega
end
theorem take_app1 {α : Type} (l : List α) (i : Nat) (x : α) (h : l[i]? = some x) : l.take (i + 1) = l.take i ++ [x] := by
  obtain ⟨hi, rfl⟩ := List.getElem?_eq_some_iff.1 h
  exact List.take_succ_eq_append_getElem hi
theorem freesR_app (b : Bool) (nm : List UInt8) (x : Nd) : ∀ (l : List Nd) (out : List (List UInt8)), freesR (l ++ [x]) b nm out = takeR b nm (freeR x) (freesR l b nm out)
  | [], out => by simp [freesR]
  | y :: ys, out => by
    rw [List.cons_append]
    unfold freesR
    exact freesR_app b nm x ys _
theorem takeR_app (b : Bool) (nm y : List UInt8) : ∀ (l out : List (List UInt8)), takeR b nm (l ++ [y]) out = if b = false ∨ y ≠ nm then plusF (takeR b nm l out) y else takeR b nm l out
  | [], out => by simp [takeR]
  | z :: zs, out => by
    rw [List.cons_append]
    show takeR b nm (zs ++ [y]) _ = _
    rw [takeR_app b nm y zs]
    rfl
theorem nmss_app (a b : List Nd) : nmssF (a ++ b) = nmssF a + nmssF b := by
  induction a with
  | nil => simp [nmssF]
  | cons x xs ih => simp only [List.cons_append, nmssF, ih]; omega
theorem nmss_take (l : List Nd) (i : Nat) (x : Nd) (h : l[i]? = some x) : nmssF (l.take i) + nmsF x ≤ nmssF l := by
  have e := take_app1 l i x h
  have h1 : nmssF (l.take (i + 1)) + nmssF (l.drop (i + 1)) = nmssF l := by rw [← nmss_app, List.take_append_drop]
  rw [e, nmss_app] at h1
  simp only [nmssF] at h1
  omega
theorem nmss_take_le (l : List Nd) (i : Nat) : nmssF (l.take i) ≤ nmssF l := by
  have h1 : nmssF (l.take i) + nmssF (l.drop i) = nmssF l := by rw [← nmss_app, List.take_append_drop]
  omega
/-- a list that is under way: new since w0 -/
structure RowW (w0 : World) (ls : List (List UInt8)) (v : Value) (wr : World) : Prop where
  slp : SlP wr (New w0) v ls.length (ls.map sV)
  up : Upto [] w0 wr
theorem RowW.ext {w0 wr wr' : World} {ls : List (List UInt8)} {v : Value} (h : RowW w0 ls v wr) (hu : Upto [] wr wr') : RowW w0 ls v wr' := ⟨h.slp.ext hu, h.up.trans_ext hu⟩
theorem RowW.nil (w0 wr : World) (hu : Upto [] w0 wr) : RowW w0 [] (.slice none 0 0) wr := ⟨SlP.nil, hu⟩
theorem RowW.of {w0 wr w' : World} {P : Nat → Prop} {ls ls' : List (List UInt8)} {v v' : Value} (h : RowW w0 ls v wr) (h2 : SlP w' (fun b => New w0 b ∨ New wr b) v' ls'.length (ls'.map sV)) (hu : Upto [] wr w') : RowW w0 ls' v' w' :=
  ⟨h2.mono (fun b hb _ => hb.elim id (fun h3 => Nat.le_trans h.up.size h3)), h.up.trans_ext hu⟩
/-- the j-th text of a list -/
theorem slp_cell {w : World} {P : Nat → Prop} {a : Option Addr} {n c m : Nat} {ls : List (List UInt8)} (h : SlP w P (.slice a n c) m (ls.map sV)) (hm : ls.length = m) (j : Nat) (y : List UInt8) (hj : ls[j]? = some y) : ∃ g o, a = some ⟨g, o, none⟩ ∧ ∀ u, Upto [] w u → u.cell? ⟨g, o + j, none⟩ = some (.string ⟨y.toArray⟩) := by
  have hl := (List.getElem?_eq_some_iff.1 hj).1
  rcases h with ⟨h0, -⟩ | ⟨g, o, c', e, -, hc⟩
  · omega
  · simp only [Value.slice.injEq] at e
    refine ⟨g, o, e.1, fun u hu => ?_⟩
    have h1 := hc j (sV y) (by rw [List.getElem?_map, hj]; rfl)
    rw [(hu.cell (World.block_lt_of_cell? w _ h1) (by simp)).trans h1]
    rfl
def FqPost (w : World) (ls : List (List UInt8)) (e : Ending) (w' : World) : Prop := ∃ v, e = .returned v ∧ RowW w ls v w'
set_option maxRecDepth 100000 in
set_option maxHeartbeats 4000000 in
theorem freeRef_calls : ∀ (k : Nat) (nd : Nd), sizeF nd ≤ k → k ≤ 10000000 → goodN nd → nmsF nd ≤ 100000 → ∀ (v : Value) (w : World) (P : Nat → Prop), NdV w P nd v → Calls Tryz.prog 21 #[v] w (FqPost w (freeR nd))
  | 0, nd, hk, _, _, _, _, _, _, _ => by have := sizeF_pos nd; omega
  | k + 1, .mk op nms so nn mm l, hk, hk7, hgd, hnm, v, w, P, h => by
    obtain ⟨a1, c1, a2, c2, rfl, hs, hg⟩ := h.open
    unfold goodN at hgd
    have HGD := Lib.hid hgd
    have HG := Lib.hid hg
    have hsz : sizesF l ≤ k := by simp only [sizeF] at hk; omega
    have HSZ := Lib.hid hsz
    unfold nmsF at hnm
    have HNM := Lib.hid hnm
    have HE : Hid (freeR (.mk op nms so nn mm l) = freesR l (bindsF op nms.length) (nms.headD []) ((usesF op nms).foldl plusF [])) := Lib.hid (by simp only [freeR])
    have HLEN : Hid (l.length ≤ 10000000) := Lib.hid (by have := sizes_len l; omega)
    have hlen := HLEN.out
    have HBI := Lib.hid (fun u => bindsR_calls op a1 nms.length c1 so nn mm a2 l.length c2 u (fun h => hgd.1 (by omega)))
    have HUS := Lib.hid (fun u (hu : Upto [] w u) => used_calls P op nms a1 c1 so nn mm a2 l.length c2 u (fun h => hgd.1 (Or.inl h)) (hs.ext hu) (by omega))
    have HIH := Lib.hid (fun (x : Nd) (hx : x ∈ l) (hs : sizeF x ≤ k) (hn : nmsF x ≤ 100000) => freeRef_calls k x hs (by omega) (goodsN_mem HGD.out.2 x hx) hn)
    obtain ⟨W, hW⟩ : ∃ W, W = w.alloc (.cells #[.int .i64 op, .slice a1 nms.length c1, .int .i64 so, .int .i64 nn, .int .i64 mm, .slice a2 l.length c2] 25) := ⟨_, rfl⟩
    have HU1 : Hid (Upto [] w W) := Lib.hid (by rw [hW]; exact (Upto.refl [] w).alloc _)
    have HB1 : Hid (W.heap[w.heap.size]? = some (.cells #[.int .i64 op, .slice a1 nms.length c1, .int .i64 so, .int .i64 nn, .int .i64 mm, .slice a2 l.length c2] 25 (0, 0))) := Lib.hid (by rw [hW]; exact new_at w _)
    have HUL : Hid ((usesF op nms).length ≤ nms.length) := Lib.hid (uses_len op nms)
    have HN0 : Hid (bindsF op nms.length = true → ∃ g o, a1 = some ⟨g, o, none⟩ ∧ ∀ u, Upto [] w u → u.cell? ⟨g, o, none⟩ = some (.string ⟨(nms.headD []).toArray⟩)) := Lib.hid (fun hb => by
      cases nms with
      | nil => unfold bindsF at hb; simp at hb
      | cons x r => exact slp_cell hs rfl 0 x rfl)
    have HNL : Hid (bindsF op nms.length = true → 0 < nms.length) := Lib.hid (fun hb => by unfold bindsF at hb; simp at hb; omega)
    generalize hbb : bindsF op nms.length = bb at *
    generalize hnm0 : nms.headD [] = nm at *
    generalize hlu : usesF op nms = lu at *
    have HPL := Lib.hid (fun (ls : List (List UInt8)) (x : List UInt8) (v : Value) (u : World) (h : RowW W ls v u) (hl : ls.length ≤ 1000000) => plus_calls ls x v u (New W) h.slp hl)
    obtain ⟨x0, x1, x2, x3, x4, x5⟩ := cells6 HB1.out
    generalize hnl : nms.length = nl at *
    generalize hll : l.length = ll at *
    have HLL := Lib.hid hll
    have HLU := Lib.hid hlu
    have hL0 : (0 : Int) ≤ ll := by omega
    have hL1 : (ll : Int) ≤ 10000000 := by omega
    clear h hg hs hsz hll hlen hk hgd hbb hnm0 hlu hnl hnm
    go_enter Tryz.func21, Tryz.ntmps21
    go_wp2_with fail
    simp only [← hW]
    clear hW
    go_wp2_with fail
    refine (HUS.out _ HU1.out).mono ?_
    rintro e w2 ⟨vu, rfl, hsu, hu2⟩
    rw [HLU.out] at hsu
    obtain ⟨au, cu, rfl⟩ := hsu.len
    have HSU := Lib.hid hsu
    have HU2 := Lib.hid hu2
    have HB2 := Lib.hid (hu2.at HB1.out (by simp))
    generalize hln : lu.length = n at *
    have HLN := Lib.hid hln
    have hn0 : (0 : Int) ≤ n := by omega
    have hn1 : (n : Int) ≤ 1000000 := by have := HUL.out; have := HNM.out; omega
    clear hu2 hsu x0 x1 x2 x3 x4 x5 hln
    go_wp2_with fail
    go_loopw [3, 5] (fun s i wr => ∃ (j m : Nat) (va : Option Addr) (vc : Nat), j ≤ n ∧ i = .int .i64 j ∧ s = .slice va m vc ∧ Hid (RowW W ((lu.take j).foldl plusF []) (.slice va m vc) wr ∧ m = ((lu.take j).foldl plusF []).length) ∧ Hid (Upto [] w2 wr)) (fun _ i _ => n - (intOf i).toNat)
    case atStart => exact ⟨0, 0, none, 0, by omega, rfl, rfl, Lib.hid ⟨by simpa using RowW.nil W w2 HU2.out, by simp⟩, Lib.hid (Upto.refl _ _)⟩
    case round =>
      obtain ⟨j, m, va, vc, hj, rfl, rfl, HR, HU⟩ := hrel
      have hj0 : (0 : Int) ≤ j := by omega
      rcases Nat.lt_or_ge j n with hlt | hge
      · obtain ⟨y, hy⟩ : ∃ y, lu[j]? = some y := ⟨_, List.getElem?_eq_getElem (by have := HLN.out; omega)⟩
        obtain ⟨g, o, rfl, hcell⟩ := slp_cell HSU.out HLN.out j y hy
        have hc := hcell wr HU.out
        have hltI : (j : Int) < n := by omega
        have HNX : Hid ((lu.take (j + 1)).foldl plusF [] = plusF ((lu.take j).foldl plusF []) y) := Lib.hid (by rw [take_app1 lu j y hy, List.foldl_append]; rfl)
        have HCL := Lib.hid (HPL.out _ y _ wr HR.out.1 (by have h1 := fold_len (lu.take j) []; have h2 := HLN.out; simp at h1; omega))
        clear hcell hy
        go_wp2_with fail
        refine HCL.out.mono ?_
        rintro e w5 ⟨v5, rfl, hs5, hu5⟩
        have HR5 := Lib.hid (HR.out.1.of (P := New W) hs5 hu5)
        obtain ⟨a5, c5, rfl⟩ := hs5.len
        have HU5 := Lib.hid (HU.out.trans_ext hu5)
        clear hu5 hs5
        go_wp2_with fail
        go_roundw
        case rel => exact ⟨j + 1, _, a5, c5, by omega, by go_num, rfl, Lib.hid (by rw [HNX.out]; exact ⟨HR5.out, rfl⟩), HU5⟩
        case measure => simp [intOf]; omega
      · obtain rfl : j = n := by omega
        have hgeI : ¬ (j : Int) < j := by omega
        have HT : Hid (lu.take j = lu) := Lib.hid (by rw [← HLN.out, List.take_length])
        rw [HT.out] at HR
        have HO1 : Hid ((lu.foldl plusF []).length ≤ nl) := Lib.hid (by have := fold_len lu []; have := HLN.out; have := HUL.out; simp at *; omega)
        generalize lu.foldl plusF [] = out1 at *
        have HU3 := Lib.hid ((HU1.out.trans_ext HU2.out).trans_ext HU.out)
        have HB3 := Lib.hid (HU.out.at HB2.out (by simp))
        have HR3 := Lib.hid HR.out.1
        have hm := HR.out.2
        subst hm
        clear HR HU HSU HT
        go_wp2_with fail
        go_loopw [3, 6] (fun s i wq => ∃ (q m : Nat) (va : Option Addr) (vc : Nat), q ≤ ll ∧ i = .int .i64 q ∧ s = .slice va m vc ∧ Hid (RowW W (freesR (l.take q) bb nm out1) (.slice va m vc) wq ∧ m = (freesR (l.take q) bb nm out1).length) ∧ Hid (Upto [] wr wq)) (fun _ i _ => ll - (intOf i).toNat)
        case atStart => exact ⟨0, _, va, vc, by omega, rfl, rfl, Lib.hid ⟨by simpa [freesR] using HR3.out, by simp [freesR]⟩, Lib.hid (Upto.refl _ _)⟩
        case round =>
          obtain ⟨q, m, vb, vd, hq, rfl, rfl, HR, HV⟩ := hrel
          have hq0 : (0 : Int) ≤ q := by omega
          have HBB := Lib.hid (HV.out.at HB3.out (by simp))
          have x5 := cell_of HBB.out 5
          simp only [List.getElem?_toArray, List.getElem?_cons_zero, List.getElem?_cons_succ] at x5
          rcases Nat.lt_or_ge q ll with hlt | hge
          · obtain ⟨x, hx⟩ : ∃ x, l[q]? = some x := ⟨_, List.getElem?_eq_getElem (by have := HLL.out; omega)⟩
            obtain ⟨g, o, xo, xn1, xn2, xn3, xs, xm, xq, xl1, xl2, xl3, rfl, d0, d1, d2, d3, d4, d5, hnx⟩ := HG.out q x hx
            have hw := HU3.out.trans_ext HV.out
            replace d0 := up_cell hw d0
            replace d1 := up_cell hw d1
            replace d2 := up_cell hw d2
            replace d3 := up_cell hw d3
            replace d4 := up_cell hw d4
            replace d5 := up_cell hw d5
            have HST := Lib.hid (sizesF_take l q x hx)
            have HNT := Lib.hid (nmss_take l q x hx)
            have HC := Lib.hid (HIH.out x (List.mem_of_getElem? hx) (by have := HSZ.out; have := HST.out; omega) (by have := HNM.out; have := HNT.out; omega) _ wr P (hnx.ext hw))
            have hltI : (q : Int) < ll := by omega
            have HNX : Hid (freesR (l.take (q + 1)) bb nm out1 = takeR bb nm (freeR x) (freesR (l.take q) bb nm out1)) := Lib.hid (by rw [take_app1 l q x hx]; exact freesR_app bb nm x _ _)
            have HFL := Lib.hid (freeR_len x)
            have HOL : Hid ((freesR (l.take q) bb nm out1).length + (freeR x).length ≤ 100000) := Lib.hid (by have h1 := freesR_len (l.take q) bb nm out1; have h2 := HNT.out; have h3 := HFL.out; have h4 := HO1.out; have h5 := HNM.out; omega)
            clear hnx hx hw
            go_wp2_with fail
            refine HC.out.mono ?_
            rintro e w5 ⟨v7, rfl, hr7⟩
            obtain ⟨a7, c7, rfl⟩ := hr7.slp.len
            have HS7 := Lib.hid hr7.slp
            have HU5 := Lib.hid (HV.out.trans_ext hr7.up)
            have HR5 := Lib.hid (HR.out.1.ext hr7.up)
            have hmm := HR.out.2
            generalize hlc : freeR x = lc at *
            generalize hfq : freesR (l.take q) bb nm out1 = fq at *
            subst hmm
            clear hr7 hlc hfq HR
            generalize hln7 : lc.length = n7 at *
            have HL7 := Lib.hid hln7
            have hn70 : (0 : Int) ≤ n7 := by omega
            have hn71 : (n7 : Int) ≤ 1000000 := by have := HOL.out; omega
            have HB5 := Lib.hid (HU5.out.at HB3.out (by simp))
            clear hln7 d0 d1 d2 d3 d4 d5 x5
            go_wp2_with fail
            go_loopw [3, 8] (fun s i wz => ∃ (z m : Nat) (va : Option Addr) (vc : Nat), z ≤ n7 ∧ i = .int .i64 z ∧ s = .slice va m vc ∧ Hid (RowW W (takeR bb nm (lc.take z) fq) (.slice va m vc) wz ∧ m = (takeR bb nm (lc.take z) fq).length) ∧ Hid (Upto [] w5 wz)) (fun _ i _ => n7 - (intOf i).toNat)
            case atStart => exact ⟨0, _, vb, vd, by omega, rfl, rfl, Lib.hid ⟨by simpa [takeR] using HR5.out, by simp [takeR]⟩, Lib.hid (Upto.refl _ _)⟩
            case round =>
              obtain ⟨z, m, vb2, vd2, hz, rfl, rfl, HR6, HZ⟩ := hrel
              have hz0 : (0 : Int) ≤ z := by omega
              rcases Nat.lt_or_ge z n7 with hlt | hge
              · obtain ⟨y, hy⟩ : ∃ y, lc[z]? = some y := ⟨_, List.getElem?_eq_getElem (by have := HL7.out; omega)⟩
                obtain ⟨g7, o7, rfl, hcell⟩ := slp_cell HS7.out HL7.out z y hy
                have hltI : (z : Int) < n7 := by omega
                have HNZ : Hid (takeR bb nm (lc.take (z + 1)) fq = if bb = false ∨ y ≠ nm then plusF (takeR bb nm (lc.take z) fq) y else takeR bb nm (lc.take z) fq) := Lib.hid (by rw [take_app1 lc z y hy]; exact takeR_app bb nm y _ _)
                have HLZ : Hid ((takeR bb nm (lc.take z) fq).length ≤ 1000000) := Lib.hid (by have h1 := takeR_len bb nm (lc.take z) fq; have h2 := HOL.out; have h3 := HL7.out; have h4 := List.length_take_le z lc; omega)
                have HB6 := Lib.hid (HZ.out.at HB5.out (by simp))
                have HCL := Lib.hid (fun u (hu : Upto [] wr u) => HPL.out _ y _ u (HR6.out.1.ext hu) HLZ.out)
                have e0 : ∀ u : Ext wr, u.w.cell? ⟨w.heap.size, 0, none⟩ = some (.int .i64 op) := fun u => u.cell (cell_of HB6.out 0)
                have e1 : ∀ u : Ext wr, u.w.cell? ⟨w.heap.size, 1, none⟩ = some (.slice a1 nl c1) := fun u => u.cell (cell_of HB6.out 1)
                have e2 : ∀ u : Ext wr, u.w.cell? ⟨w.heap.size, 2, none⟩ = some (.int .i64 so) := fun u => u.cell (cell_of HB6.out 2)
                have e3 : ∀ u : Ext wr, u.w.cell? ⟨w.heap.size, 3, none⟩ = some (.int .i64 nn) := fun u => u.cell (cell_of HB6.out 3)
                have e4 : ∀ u : Ext wr, u.w.cell? ⟨w.heap.size, 4, none⟩ = some (.int .i64 mm) := fun u => u.cell (cell_of HB6.out 4)
                have e5 : ∀ u : Ext wr, u.w.cell? ⟨w.heap.size, 5, none⟩ = some (.slice (some ⟨g, o, none⟩) ll c2) := fun u => u.cell (cell_of HB6.out 5)
                have e7 : ∀ u : Ext wr, u.w.cell? ⟨g7, o7 + z, none⟩ = some (.string ⟨y.toArray⟩) := fun u => hcell u.w (HZ.out.trans_ext u.up)
                have hcell7 : ∀ u, Upto [] wr u → u.cell? ⟨g7, o7 + z, none⟩ = some (.string ⟨y.toArray⟩) := fun u hu => hcell u (HZ.out.trans_ext hu)
                clear hcell hy
                cases bb with
                | false =>
                  go_wp2_with fail
                  refine wp_region_seg_all [1] [] [0, 1, 2, 3, 4, 5, 6, 7, 8, 9, 10, 11, 12, 13] (by kernel_rfl) (by kernel_rfl) ?_
                  with_reducible refine seg_plain (o := ?o1) ?hi1 ?hA1 ?hC1 ?hp1 ?hw1 ?h1
                  case hi1 => rfl
                  case hA1 => rfl
                  case hC1 => rfl
                  case hp1 => rfl
                  case hw1 => kernel_rfl
                  intro K' hK'
                  go_big_quiet_op
                  go_big_quiet_on
                  refine seg_call (f := 48) (args := #[.agg #[.int .i64 op, .slice a1 nl c1, .int .i64 so, .int .i64 nn, .int .i64 mm, .slice (some ⟨g, o, none⟩) ll c2]]) (v := .bool false) rfl rfl rfl rfl (fun w => by go_simp) (fun w hu hd => HBI.out w) ?_
                  simp only [Act.put, List.setIfInBounds_toArray, List.set_cons_zero, List.set_cons_succ]
                  with_reducible refine seg_plain (o := ?o2) ?hi2 ?hA2 ?hC2 ?hp2 ?hw2 ?h2
                  case hi2 => rfl
                  case hA2 => rfl
                  case hC2 => rfl
                  case hp2 => rfl
                  case hw2 => kernel_rfl
                  intro K' hK'
                  go_big_quiet_op
                  go_big_quiet_on
                  with_reducible refine seg_plain (o := ?o3) ?hi3 ?hA3 ?hC3 ?hp3 ?hw3 ?h3
                  case hi3 => rfl
                  case hA3 => rfl
                  case hC3 => rfl
                  case hp3 => rfl
                  case hw3 => kernel_rfl
                  intro K' hK'
                  go_big_quiet_op
                  go_big_quiet_on
                  with_reducible refine seg_skip (o := ?o4) ?hi4 ?hw4 ?h4
                  case hi4 => rfl
                  case hw4 => kernel_rfl
                  simp only [Act.put, List.setIfInBounds_toArray, List.set_cons_zero, List.set_cons_succ]
                  with_reducible refine seg_skip (o := ?o5) ?hi5 ?hw5 ?h5
                  case hi5 => rfl
                  case hw5 => kernel_rfl
                  simp only [Act.put, List.setIfInBounds_toArray, List.set_cons_zero, List.set_cons_succ]
                  with_reducible refine seg_skip (o := ?o6) ?hi6 ?hw6 ?h6
                  case hi6 => rfl
                  case hw6 => kernel_rfl
                  simp only [Act.put, List.setIfInBounds_toArray, List.set_cons_zero, List.set_cons_succ]
                  with_reducible refine seg_skip (o := ?o7) ?hi7 ?hw7 ?h7
                  case hi7 => rfl
                  case hw7 => kernel_rfl
                  simp only [Act.put, List.setIfInBounds_toArray, List.set_cons_zero, List.set_cons_succ]
                  with_reducible refine seg_skip (o := ?o8) ?hi8 ?hw8 ?h8
                  case hi8 => rfl
                  case hw8 => kernel_rfl
                  simp only [Act.put, List.setIfInBounds_toArray, List.set_cons_zero, List.set_cons_succ]
                  with_reducible refine seg_skip (o := ?o9) ?hi9 ?hw9 ?h9
                  case hi9 => rfl
                  case hw9 => kernel_rfl
                  simp only [Act.put, List.setIfInBounds_toArray, List.set_cons_zero, List.set_cons_succ]
                  with_reducible refine seg_skip (o := ?o10) ?hi10 ?hw10 ?h10
                  case hi10 => rfl
                  case hw10 => kernel_rfl
                  simp only [Act.put, List.setIfInBounds_toArray, List.set_cons_zero, List.set_cons_succ]
                  with_reducible refine seg_skip (o := ?o11) ?hi11 ?hw11 ?h11
                  case hi11 => rfl
                  case hw11 => kernel_rfl
                  simp only [Act.put, List.setIfInBounds_toArray, List.set_cons_zero, List.set_cons_succ]
                  with_reducible refine seg_skip (o := ?o12) ?hi12 ?hw12 ?h12
                  case hi12 => rfl
                  case hw12 => kernel_rfl
                  simp only [Act.put, List.setIfInBounds_toArray, List.set_cons_zero, List.set_cons_succ]
                  with_reducible refine seg_plain (o := ?o13) ?hi13 ?hA13 ?hC13 ?hp13 ?hw13 ?h13
                  case hi13 => rfl
                  case hA13 => rfl
                  case hC13 => rfl
                  case hp13 => rfl
                  case hw13 => kernel_rfl
                  intro K' hK'
                  go_big_quiet_op
                  go_big_quiet_on
                  have HCO : Hid (false = false ∨ y ≠ nm) := Lib.hid (Or.inl rfl)
                  intro w9 hg
                  have HU9 := Lib.hid hg.up
                  have hc7 := hcell7 w9 HU9.out
                  clear hg e0 e1 e2 e3 e4 e5 e7
                  go_wp2_with fail
                  refine (HCL.out w9 HU9.out).mono ?_
                  rintro e wa ⟨va, rfl, hsa, hua⟩
                  have HRA := Lib.hid ((HR6.out.1.ext HU9.out).of (P := New W) hsa hua)
                  obtain ⟨aa, ca, rfl⟩ := hsa.len
                  have HUA := Lib.hid ((HZ.out.trans_ext HU9.out).trans_ext hua)
                  clear hua hsa
                  go_wp2_with fail
                  go_roundw
                  case rel => exact ⟨z + 1, _, aa, ca, by omega, by go_num, rfl, Lib.hid (by rw [HNZ.out, if_pos HCO.out]; exact ⟨HRA.out, rfl⟩), HUA⟩
                  case measure => simp [intOf]; omega
                | true =>
                  obtain ⟨gn, on, rfl, hcn⟩ := HN0.out rfl
                  have en : ∀ u : Ext wr, u.w.cell? ⟨gn, on, none⟩ = some (.string ⟨nm.toArray⟩) := fun u => hcn u.w (((HU3.out.trans_ext HU5.out).trans_ext HZ.out).trans_ext u.up)
                  have hnl0 := HNL.out rfl
                  have hnl1 : (0 : Int) < nl := by omega
                  clear hcn
                  by_cases hyn : y = nm
                  · have HCO : Hid (¬ (true = false ∨ y ≠ nm)) := Lib.hid (by simp [hyn])
                    subst hyn
                    go_wp2_with fail
                    refine wp_region_seg_all [1] [] [0, 1, 2, 3, 4, 5, 6, 7, 8, 9, 10, 11, 12, 13] (by kernel_rfl) (by kernel_rfl) ?_
                    with_reducible refine seg_plain (o := ?o14) ?hi14 ?hA14 ?hC14 ?hp14 ?hw14 ?h14
                    case hi14 => rfl
                    case hA14 => rfl
                    case hC14 => rfl
                    case hp14 => rfl
                    case hw14 => kernel_rfl
                    intro K' hK'
                    go_big_quiet_op
                    go_big_quiet_on
                    refine seg_call (f := 48) (args := #[.agg #[.int .i64 op, .slice (some ⟨gn, on, none⟩) nl c1, .int .i64 so, .int .i64 nn, .int .i64 mm, .slice (some ⟨g, o, none⟩) ll c2]]) (v := .bool true) rfl rfl rfl rfl (fun w => by go_simp) (fun w hu hd => HBI.out w) ?_
                    simp only [Act.put, List.setIfInBounds_toArray, List.set_cons_zero, List.set_cons_succ]
                    with_reducible refine seg_plain (o := ?o15) ?hi15 ?hA15 ?hC15 ?hp15 ?hw15 ?h15
                    case hi15 => rfl
                    case hA15 => rfl
                    case hC15 => rfl
                    case hp15 => rfl
                    case hw15 => kernel_rfl
                    intro K' hK'
                    go_big_quiet_op
                    go_big_quiet_on
                    with_reducible refine seg_plain (o := ?o16) ?hi16 ?hA16 ?hC16 ?hp16 ?hw16 ?h16
                    case hi16 => rfl
                    case hA16 => rfl
                    case hC16 => rfl
                    case hp16 => rfl
                    case hw16 => kernel_rfl
                    intro K' hK'
                    go_big_quiet_op
                    go_big_quiet_on
                    with_reducible refine seg_plain (o := ?o17) ?hi17 ?hA17 ?hC17 ?hp17 ?hw17 ?h17
                    case hi17 => rfl
                    case hA17 => rfl
                    case hC17 => rfl
                    case hp17 => rfl
                    case hw17 => kernel_rfl
                    intro K' hK'
                    go_big_quiet_op
                    go_big_quiet_on
                    with_reducible refine seg_plain (o := ?o18) ?hi18 ?hA18 ?hC18 ?hp18 ?hw18 ?h18
                    case hi18 => rfl
                    case hA18 => rfl
                    case hC18 => rfl
                    case hp18 => rfl
                    case hw18 => kernel_rfl
                    intro K' hK'
                    go_big_quiet_op
                    go_big_quiet_on
                    with_reducible refine seg_plain (o := ?o19) ?hi19 ?hA19 ?hC19 ?hp19 ?hw19 ?h19
                    case hi19 => rfl
                    case hA19 => rfl
                    case hC19 => rfl
                    case hp19 => rfl
                    case hw19 => kernel_rfl
                    intro K' hK'
                    go_big_quiet_op
                    go_big_quiet_on
                    with_reducible refine seg_plain (o := ?o20) ?hi20 ?hA20 ?hC20 ?hp20 ?hw20 ?h20
                    case hi20 => rfl
                    case hA20 => rfl
                    case hC20 => rfl
                    case hp20 => rfl
                    case hw20 => kernel_rfl
                    intro K' hK'
                    go_big_quiet_op
                    go_big_quiet_on
                    with_reducible refine seg_plain (o := ?o21) ?hi21 ?hA21 ?hC21 ?hp21 ?hw21 ?h21
                    case hi21 => rfl
                    case hA21 => rfl
                    case hC21 => rfl
                    case hp21 => rfl
                    case hw21 => kernel_rfl
                    intro K' hK'
                    go_big_quiet_op
                    go_big_quiet_on
                    with_reducible refine seg_plain (o := ?o22) ?hi22 ?hA22 ?hC22 ?hp22 ?hw22 ?h22
                    case hi22 => rfl
                    case hA22 => rfl
                    case hC22 => rfl
                    case hp22 => rfl
                    case hw22 => kernel_rfl
                    intro K' hK'
                    go_big_quiet_op
                    go_big_quiet_on
                    with_reducible refine seg_plain (o := ?o23) ?hi23 ?hA23 ?hC23 ?hp23 ?hw23 ?h23
                    case hi23 => rfl
                    case hA23 => rfl
                    case hC23 => rfl
                    case hp23 => rfl
                    case hw23 => kernel_rfl
                    intro K' hK'
                    go_big_quiet_op
                    go_big_quiet_on
                    with_reducible refine seg_plain (o := ?o24) ?hi24 ?hA24 ?hC24 ?hp24 ?hw24 ?h24
                    case hi24 => rfl
                    case hA24 => rfl
                    case hC24 => rfl
                    case hp24 => rfl
                    case hw24 => kernel_rfl
                    intro K' hK'
                    go_big_quiet_op
                    go_big_quiet_on
                    with_reducible refine seg_plain (o := ?o25) ?hi25 ?hA25 ?hC25 ?hp25 ?hw25 ?h25
                    case hi25 => rfl
                    case hA25 => rfl
                    case hC25 => rfl
                    case hp25 => rfl
                    case hw25 => kernel_rfl
                    intro K' hK'
                    go_big_quiet_op
                    go_big_quiet_on
                    with_reducible refine seg_plain (o := ?o26) ?hi26 ?hA26 ?hC26 ?hp26 ?hw26 ?h26
                    case hi26 => rfl
                    case hA26 => rfl
                    case hC26 => rfl
                    case hp26 => rfl
                    case hw26 => kernel_rfl
                    intro K' hK'
                    go_big_quiet_op
                    go_big_quiet_on
                    intro w9 hg
                    have HU9 := Lib.hid hg.up
                    have hc7 := hcell7 w9 HU9.out
                    clear hg e0 e1 e2 e3 e4 e5 e7 en
                    have HRA := Lib.hid (HR6.out.1.ext HU9.out)
                    have HUA := Lib.hid (HZ.out.trans_ext HU9.out)
                    go_wp2_with fail
                    go_roundw
                    case rel => exact ⟨z + 1, m, vb2, vd2, by omega, by go_num, rfl, Lib.hid (by rw [HNZ.out, if_neg HCO.out]; exact ⟨HRA.out, HR6.out.2⟩), HUA⟩
                    case measure => simp [intOf]; omega
                  · have HCO : Hid (true = false ∨ y ≠ nm) := Lib.hid (Or.inr hyn)
                    have hb1 : (y == nm) = false := by rw [beq_eq_false_iff_ne]; exact hyn
                    have hb2 : (y != nm) = true := by rw [bne_iff_ne]; exact hyn
                    go_wp2_with fail
                    refine wp_region_seg_all [1] [] [0, 1, 2, 3, 4, 5, 6, 7, 8, 9, 10, 11, 12, 13] (by kernel_rfl) (by kernel_rfl) ?_
                    with_reducible refine seg_plain (o := ?o27) ?hi27 ?hA27 ?hC27 ?hp27 ?hw27 ?h27
                    case hi27 => rfl
                    case hA27 => rfl
                    case hC27 => rfl
                    case hp27 => rfl
                    case hw27 => kernel_rfl
                    intro K' hK'
                    go_big_quiet_op
                    go_big_quiet_on
                    refine seg_call (f := 48) (args := #[.agg #[.int .i64 op, .slice (some ⟨gn, on, none⟩) nl c1, .int .i64 so, .int .i64 nn, .int .i64 mm, .slice (some ⟨g, o, none⟩) ll c2]]) (v := .bool true) rfl rfl rfl rfl (fun w => by go_simp) (fun w hu hd => HBI.out w) ?_
                    simp only [Act.put, List.setIfInBounds_toArray, List.set_cons_zero, List.set_cons_succ]
                    with_reducible refine seg_plain (o := ?o28) ?hi28 ?hA28 ?hC28 ?hp28 ?hw28 ?h28
                    case hi28 => rfl
                    case hA28 => rfl
                    case hC28 => rfl
                    case hp28 => rfl
                    case hw28 => kernel_rfl
                    intro K' hK'
                    go_big_quiet_op
                    go_big_quiet_on
                    with_reducible refine seg_plain (o := ?o29) ?hi29 ?hA29 ?hC29 ?hp29 ?hw29 ?h29
                    case hi29 => rfl
                    case hA29 => rfl
                    case hC29 => rfl
                    case hp29 => rfl
                    case hw29 => kernel_rfl
                    intro K' hK'
                    go_big_quiet_op
                    go_big_quiet_on
                    with_reducible refine seg_plain (o := ?o30) ?hi30 ?hA30 ?hC30 ?hp30 ?hw30 ?h30
                    case hi30 => rfl
                    case hA30 => rfl
                    case hC30 => rfl
                    case hp30 => rfl
                    case hw30 => kernel_rfl
                    intro K' hK'
                    go_big_quiet_op
                    go_big_quiet_on
                    with_reducible refine seg_plain (o := ?o31) ?hi31 ?hA31 ?hC31 ?hp31 ?hw31 ?h31
                    case hi31 => rfl
                    case hA31 => rfl
                    case hC31 => rfl
                    case hp31 => rfl
                    case hw31 => kernel_rfl
                    intro K' hK'
                    go_big_quiet_op
                    go_big_quiet_on
                    with_reducible refine seg_plain (o := ?o32) ?hi32 ?hA32 ?hC32 ?hp32 ?hw32 ?h32
                    case hi32 => rfl
                    case hA32 => rfl
                    case hC32 => rfl
                    case hp32 => rfl
                    case hw32 => kernel_rfl
                    intro K' hK'
                    go_big_quiet_op
                    go_big_quiet_on
                    with_reducible refine seg_plain (o := ?o33) ?hi33 ?hA33 ?hC33 ?hp33 ?hw33 ?h33
                    case hi33 => rfl
                    case hA33 => rfl
                    case hC33 => rfl
                    case hp33 => rfl
                    case hw33 => kernel_rfl
                    intro K' hK'
                    go_big_quiet_op
                    go_big_quiet_on
                    with_reducible refine seg_plain (o := ?o34) ?hi34 ?hA34 ?hC34 ?hp34 ?hw34 ?h34
                    case hi34 => rfl
                    case hA34 => rfl
                    case hC34 => rfl
                    case hp34 => rfl
                    case hw34 => kernel_rfl
                    intro K' hK'
                    go_big_quiet_op
                    go_big_quiet_on
                    with_reducible refine seg_plain (o := ?o35) ?hi35 ?hA35 ?hC35 ?hp35 ?hw35 ?h35
                    case hi35 => rfl
                    case hA35 => rfl
                    case hC35 => rfl
                    case hp35 => rfl
                    case hw35 => kernel_rfl
                    intro K' hK'
                    go_big_quiet_op
                    go_big_quiet_on
                    with_reducible refine seg_plain (o := ?o36) ?hi36 ?hA36 ?hC36 ?hp36 ?hw36 ?h36
                    case hi36 => rfl
                    case hA36 => rfl
                    case hC36 => rfl
                    case hp36 => rfl
                    case hw36 => kernel_rfl
                    intro K' hK'
                    go_big_quiet_op
                    go_big_quiet_on
                    with_reducible refine seg_plain (o := ?o37) ?hi37 ?hA37 ?hC37 ?hp37 ?hw37 ?h37
                    case hi37 => rfl
                    case hA37 => rfl
                    case hC37 => rfl
                    case hp37 => rfl
                    case hw37 => kernel_rfl
                    intro K' hK'
                    go_big_quiet_op
                    go_big_quiet_on
                    with_reducible refine seg_plain (o := ?o38) ?hi38 ?hA38 ?hC38 ?hp38 ?hw38 ?h38
                    case hi38 => rfl
                    case hA38 => rfl
                    case hC38 => rfl
                    case hp38 => rfl
                    case hw38 => kernel_rfl
                    intro K' hK'
                    go_big_quiet_op
                    go_big_quiet_on
                    with_reducible refine seg_plain (o := ?o39) ?hi39 ?hA39 ?hC39 ?hp39 ?hw39 ?h39
                    case hi39 => rfl
                    case hA39 => rfl
                    case hC39 => rfl
                    case hp39 => rfl
                    case hw39 => kernel_rfl
                    intro K' hK'
                    go_big_quiet_op
                    go_big_quiet_on
                    intro w9 hg
                    have HU9 := Lib.hid hg.up
                    have hc7 := hcell7 w9 HU9.out
                    clear hg e0 e1 e2 e3 e4 e5 e7 en
                    go_wp2_with fail
                    refine (HCL.out w9 HU9.out).mono ?_
                    rintro e wa ⟨va, rfl, hsa, hua⟩
                    have HRA := Lib.hid ((HR6.out.1.ext HU9.out).of (P := New W) hsa hua)
                    obtain ⟨aa, ca, rfl⟩ := hsa.len
                    have HUA := Lib.hid ((HZ.out.trans_ext HU9.out).trans_ext hua)
                    clear hua hsa
                    go_wp2_with fail
                    go_roundw
                    case rel => exact ⟨z + 1, _, aa, ca, by omega, by go_num, rfl, Lib.hid (by rw [HNZ.out, if_pos HCO.out]; exact ⟨HRA.out, rfl⟩), HUA⟩
                    case measure => simp [intOf]; omega
              · obtain rfl : z = n7 := by omega
                have hgeI : ¬ (z : Int) < z := by omega
                have HT7 : Hid (lc.take z = lc) := Lib.hid (by rw [← HL7.out, List.take_length])
                rw [HT7.out] at HR6
                have HUZ := Lib.hid (HU5.out.trans_ext HZ.out)
                go_wp2_with fail
                go_roundw
                case rel => exact ⟨q + 1, m, vb2, vd2, by omega, by go_num, rfl, Lib.hid (by rw [HNX.out]; exact HR6.out), HUZ⟩
                case measure => simp [intOf]; omega
          · obtain rfl : q = ll := by omega
            have hgeI : ¬ (q : Int) < q := by omega
            have HT : Hid (l.take q = l) := Lib.hid (by rw [← HLL.out, List.take_length])
            rw [HT.out] at HR
            go_wp2_with fail
            go_ret
            unfold FqPost
            rw [HE.out]
            exact ⟨_, rfl, ⟨HR.out.1.slp.mono (fun b hb _ => Nat.le_trans HU1.out.size hb), HU1.out.trans_ext HR.out.1.up⟩⟩
end Go.Proofs.YtbnebkkpmcjmbaaGreatDoor


namespace Go.Proofs.YtbnebkkpmcjmbaaGreatDoor
open Go.RowKit Go.PL Go.Maps
mutual
theorem bocc_len : ∀ n : Nd, (bocc n).length ≤ sizeF n
  | .mk op nms _ _ _ l => by
    have := boccs_len l
    unfold bocc sizeF
    rw [List.length_append]
    split <;> simp <;> omega
theorem boccs_len : ∀ l : List Nd, (boccs l).length ≤ sizesF l
  | [] => by simp [boccs]
  | x :: xs => by
    have := bocc_len x
    have := boccs_len xs
    unfold boccs sizesF
    rw [List.length_append]
    omega
end
theorem boundR_len (n : Nd) : (boundR n).length ≤ sizeF n := by
  rw [boundR_eq]
  have := fold_len (bocc n) []
  have := bocc_len n
  simp at *
  omega
theorem boundsR_len (l : List Nd) (out : List (List UInt8)) : (boundsR l out).length ≤ out.length + sizesF l := by
  rw [boundsR_eq]
  have := fold_len (boccs l) out
  have := boccs_len l
  omega
theorem boundsR_app (x : Nd) : ∀ (l : List Nd) (out : List (List UInt8)), boundsR (l ++ [x]) out = (boundR x).foldl plusF (boundsR l out)
  | [], out => by simp [boundsR]
  | y :: ys, out => by
    rw [List.cons_append]
    unfold boundsR
    exact boundsR_app x ys _
set_option maxRecDepth 100000 in
set_option maxHeartbeats 6400000 in
theorem boundRef_calls : ∀ (k : Nat) (nd : Nd), sizeF nd ≤ k → k ≤ 100000 → goodN nd → ∀ (v : Value) (w : World) (P : Nat → Prop), NdV w P nd v → Calls Tryz.prog 25 #[v] w (FqPost w (boundR nd))
  | 0, nd, hk, _, _, _, _, _, _ => by have := sizeF_pos nd; omega
  | k + 1, .mk op nms so nn mm l, hk, hk7, hgd, v, w, P, h => by
    obtain ⟨a1, c1, a2, c2, rfl, hs, hg⟩ := h.open
    unfold goodN at hgd
    have HGD := Lib.hid hgd
    have HG := Lib.hid hg
    have hsz : sizesF l ≤ k := by simp only [sizeF] at hk; omega
    have HSZ := Lib.hid hsz
    have HE : Hid (boundR (.mk op nms so nn mm l) = boundsR l (if bindsF op nms.length = true then plusF [] (nms.headD []) else [])) := Lib.hid (by simp only [boundR])
    have HLEN : Hid (l.length ≤ 100000) := Lib.hid (by have := sizes_len l; omega)
    have hlen := HLEN.out
    have HBI := Lib.hid (fun u => bindsR_calls op a1 nms.length c1 so nn mm a2 l.length c2 u (fun h => hgd.1 (by omega)))
    have HIH := Lib.hid (fun (x : Nd) (hx : x ∈ l) (hs : sizeF x ≤ k) => boundRef_calls k x hs (by omega) (goodsN_mem HGD.out.2 x hx))
    obtain ⟨W, hW⟩ : ∃ W, W = w.alloc (.cells #[.int .i64 op, .slice a1 nms.length c1, .int .i64 so, .int .i64 nn, .int .i64 mm, .slice a2 l.length c2] 25) := ⟨_, rfl⟩
    have HU1 : Hid (Upto [] w W) := Lib.hid (by rw [hW]; exact (Upto.refl [] w).alloc _)
    have HB1 : Hid (W.heap[w.heap.size]? = some (.cells #[.int .i64 op, .slice a1 nms.length c1, .int .i64 so, .int .i64 nn, .int .i64 mm, .slice a2 l.length c2] 25 (0, 0))) := Lib.hid (by rw [hW]; exact new_at w _)
    have HN0 : Hid (bindsF op nms.length = true → ∃ g o, a1 = some ⟨g, o, none⟩ ∧ ∀ u, Upto [] w u → u.cell? ⟨g, o, none⟩ = some (.string ⟨(nms.headD []).toArray⟩)) := Lib.hid (fun hb => by
      cases nms with
      | nil => unfold bindsF at hb; simp at hb
      | cons x r => exact slp_cell hs rfl 0 x rfl)
    have HNL : Hid (bindsF op nms.length = true → 0 < nms.length) := Lib.hid (fun hb => by unfold bindsF at hb; simp at hb; omega)
    generalize hbb : bindsF op nms.length = bb at *
    generalize hnm0 : nms.headD [] = nm at *
    have HPL := Lib.hid (fun (ls : List (List UInt8)) (x : List UInt8) (v : Value) (u : World) (h : RowW W ls v u) (hl : ls.length ≤ 1000000) => plus_calls ls x v u (New W) h.slp hl)
    obtain ⟨x0, x1, x2, x3, x4, x5⟩ := cells6 HB1.out
    generalize hnl : nms.length = nl at *
    generalize hll : l.length = ll at *
    have HLL := Lib.hid hll
    have hL0 : (0 : Int) ≤ ll := by omega
    have hL1 : (ll : Int) ≤ 100000 := by omega
    clear h hg hs hsz hll hlen hk hgd hbb hnm0 hnl
    go_enter Tryz.func25, Tryz.ntmps25
    go_wp2_with fail
    simp only [← hW]
    clear hW
    go_wp2_with fail
    refine (HBI.out _).mono ?_
    rintro e w1 ⟨rfl, hu1⟩
    have HU2 := Lib.hid (HU1.out.trans_ext hu1)
    have HV2 := Lib.hid hu1
    have HB2 := Lib.hid (hu1.at HB1.out (by simp))
    clear hu1 x0 x1 x2 x3 x4 x5
    have x1 := cell_of HB2.out 1
    simp only [List.getElem?_toArray, List.getElem?_cons_zero, List.getElem?_cons_succ] at x1
    cases bb with
    | false =>
      have HR3 := Lib.hid (RowW.nil W w1 HV2.out)
      have HU3 := HU2
      have HB3 := HB2
      have HO1 : Hid (([] : List (List UInt8)).length ≤ 1) := Lib.hid (by simp)
      have HEE : Hid ((if false = true then plusF [] nm else []) = ([] : List (List UInt8))) := Lib.hid rfl
      rw [HEE.out] at HE
      obtain ⟨w3, hw3⟩ : ∃ w3, w3 = w1 := ⟨_, rfl⟩
      rw [← hw3] at HR3 HU3 HB3
      clear x1
      go_wp2_with fail
      simp only [← hw3]
      clear hw3
      go_loopw [3, 4] (fun s i wq => ∃ (q m : Nat) (va : Option Addr) (vc : Nat), q ≤ ll ∧ i = .int .i64 q ∧ s = .slice va m vc ∧ Hid (RowW W (boundsR (l.take q) []) (.slice va m vc) wq ∧ m = (boundsR (l.take q) []).length) ∧ Hid (Upto [] w3 wq)) (fun _ i _ => ll - (intOf i).toNat)
      case atStart => exact ⟨0, _, _, _, by omega, rfl, rfl, Lib.hid ⟨by simpa [boundsR] using HR3.out, by simp [boundsR]⟩, Lib.hid (Upto.refl _ _)⟩
      case round =>
        obtain ⟨q, m, vb, vd, hq, rfl, rfl, HR, HV⟩ := hrel
        have hq0 : (0 : Int) ≤ q := by omega
        have HBB := Lib.hid (HV.out.at HB3.out (by simp))
        have x5 := cell_of HBB.out 5
        simp only [List.getElem?_toArray, List.getElem?_cons_zero, List.getElem?_cons_succ] at x5
        rcases Nat.lt_or_ge q ll with hlt | hge
        · obtain ⟨x, hx⟩ : ∃ x, l[q]? = some x := ⟨_, List.getElem?_eq_getElem (by have := HLL.out; omega)⟩
          obtain ⟨g, o, xo, xn1, xn2, xn3, xs, xm, xq, xl1, xl2, xl3, rfl, d0, d1, d2, d3, d4, d5, hnx⟩ := HG.out q x hx
          have hw := HU3.out.trans_ext HV.out
          replace d0 := up_cell hw d0
          replace d1 := up_cell hw d1
          replace d2 := up_cell hw d2
          replace d3 := up_cell hw d3
          replace d4 := up_cell hw d4
          replace d5 := up_cell hw d5
          have HST := Lib.hid (sizesF_take l q x hx)
          have HC := Lib.hid (HIH.out x (List.mem_of_getElem? hx) (by have := HSZ.out; have := HST.out; omega) _ wr P (hnx.ext hw))
          have hltI : (q : Int) < ll := by omega
          have HNX : Hid (boundsR (l.take (q + 1)) [] = (boundR x).foldl plusF (boundsR (l.take q) [])) := Lib.hid (by rw [take_app1 l q x hx]; exact boundsR_app x _ _)
          have HFL := Lib.hid (boundR_len x)
          have HOL : Hid ((boundsR (l.take q) []).length + (boundR x).length ≤ 100001) := Lib.hid (by have h1 := boundsR_len (l.take q) []; have h2 := HST.out; have h3 := HFL.out; have h4 := HO1.out; have h5 := HSZ.out; omega)
          clear hnx hx hw
          go_wp2_with fail
          refine HC.out.mono ?_
          rintro e w5 ⟨v7, rfl, hr7⟩
          obtain ⟨a7, c7, rfl⟩ := hr7.slp.len
          have HS7 := Lib.hid hr7.slp
          have HU5 := Lib.hid (HV.out.trans_ext hr7.up)
          have HR5 := Lib.hid (HR.out.1.ext hr7.up)
          have hmm := HR.out.2
          generalize hlc : boundR x = lc at *
          generalize hfq : boundsR (l.take q) [] = fq at *
          subst hmm
          clear hr7 hlc hfq HR
          generalize hln7 : lc.length = n7 at *
          have HL7 := Lib.hid hln7
          have hn70 : (0 : Int) ≤ n7 := by omega
          have hn71 : (n7 : Int) ≤ 1000000 := by have := HOL.out; omega
          clear hln7 d0 d1 d2 d3 d4 d5 x5
          go_wp2_with fail
          go_loopw [3, 6] (fun s i wz => ∃ (z m : Nat) (va : Option Addr) (vc : Nat), z ≤ n7 ∧ i = .int .i64 z ∧ s = .slice va m vc ∧ Hid (RowW W ((lc.take z).foldl plusF fq) (.slice va m vc) wz ∧ m = ((lc.take z).foldl plusF fq).length) ∧ Hid (Upto [] w5 wz)) (fun _ i _ => n7 - (intOf i).toNat)
          case atStart => exact ⟨0, _, vb, vd, by omega, rfl, rfl, Lib.hid ⟨by simpa using HR5.out, by simp⟩, Lib.hid (Upto.refl _ _)⟩
          case round =>
            obtain ⟨z, m, vb2, vd2, hz, rfl, rfl, HR6, HZ⟩ := hrel
            have hz0 : (0 : Int) ≤ z := by omega
            rcases Nat.lt_or_ge z n7 with hlt | hge
            · obtain ⟨y, hy⟩ : ∃ y, lc[z]? = some y := ⟨_, List.getElem?_eq_getElem (by have := HL7.out; omega)⟩
              obtain ⟨g7, o7, rfl, hcell⟩ := slp_cell HS7.out HL7.out z y hy
              have hc7 := hcell wr HZ.out
              have hltI : (z : Int) < n7 := by omega
              have HNZ : Hid ((lc.take (z + 1)).foldl plusF fq = plusF ((lc.take z).foldl plusF fq) y) := Lib.hid (by rw [take_app1 lc z y hy, List.foldl_append]; rfl)
              have HCL := Lib.hid (HPL.out _ y _ wr HR6.out.1 (by have h1 := fold_len (lc.take z) fq; have h2 := HOL.out; have h3 := HL7.out; have h4 := List.length_take_le z lc; omega))
              clear hcell hy
              go_wp2_with fail
              refine HCL.out.mono ?_
              rintro e wa ⟨va, rfl, hsa, hua⟩
              have HRA := Lib.hid (HR6.out.1.of (P := New W) hsa hua)
              obtain ⟨aa, ca, rfl⟩ := hsa.len
              have HUA := Lib.hid (HZ.out.trans_ext hua)
              clear hua hsa
              go_wp2_with fail
              go_roundw
              case rel => exact ⟨z + 1, _, aa, ca, by omega, by go_num, rfl, Lib.hid (by rw [HNZ.out]; exact ⟨HRA.out, rfl⟩), HUA⟩
              case measure => simp [intOf]; omega
            · obtain rfl : z = n7 := by omega
              have hgeI : ¬ (z : Int) < z := by omega
              have HT7 : Hid (lc.take z = lc) := Lib.hid (by rw [← HL7.out, List.take_length])
              rw [HT7.out] at HR6
              have HUZ := Lib.hid (HU5.out.trans_ext HZ.out)
              go_wp2_with fail
              go_roundw
              case rel => exact ⟨q + 1, m, vb2, vd2, by omega, by go_num, rfl, Lib.hid (by rw [HNX.out]; exact HR6.out), HUZ⟩
              case measure => simp [intOf]; omega
        · obtain rfl : q = ll := by omega
          have hgeI : ¬ (q : Int) < q := by omega
          have HT : Hid (l.take q = l) := Lib.hid (by rw [← HLL.out, List.take_length])
          rw [HT.out] at HR
          go_wp2_with fail
          go_ret
          unfold FqPost
          rw [HE.out]
          exact ⟨_, rfl, ⟨HR.out.1.slp.mono (fun b hb _ => Nat.le_trans HU1.out.size hb), HU1.out.trans_ext HR.out.1.up⟩⟩
    | true =>
      obtain ⟨gn, on, rfl, hcn⟩ := HN0.out rfl
      have hn0 := hcn w1 HU2.out
      have hnl0 := HNL.out rfl
      have hnl1 : (0 : Int) < nl := by omega
      have HCL := Lib.hid (HPL.out [] nm (.slice none 0 0) w1 (RowW.nil W w1 HV2.out) (by simp))
      have HEE : Hid ((if true = true then plusF [] nm else []) = plusF [] nm) := Lib.hid rfl
      rw [HEE.out] at HE
      have HO1 : Hid ((plusF [] nm).length ≤ 1) := Lib.hid (by unfold plusF; split <;> simp)
      generalize plusF [] nm = out1 at *
      clear hcn
      go_wp2_with fail
      refine HCL.out.mono ?_
      rintro e w3 ⟨v3, rfl, hs3, hu3⟩
      have HR3 := Lib.hid ((RowW.nil W w1 HV2.out).of (P := New W) hs3 hu3)
      have HU3 := Lib.hid (HU2.out.trans_ext hu3)
      have HB3 := Lib.hid (hu3.at HB2.out (by simp))
      obtain ⟨a3, c3, rfl⟩ := hs3.len
      clear hs3 hu3 hn0 x1
      go_wp2_with fail
      go_loopw [3, 4] (fun s i wq => ∃ (q m : Nat) (va : Option Addr) (vc : Nat), q ≤ ll ∧ i = .int .i64 q ∧ s = .slice va m vc ∧ Hid (RowW W (boundsR (l.take q) out1) (.slice va m vc) wq ∧ m = (boundsR (l.take q) out1).length) ∧ Hid (Upto [] w3 wq)) (fun _ i _ => ll - (intOf i).toNat)
      case atStart => exact ⟨0, _, _, _, by omega, rfl, rfl, Lib.hid ⟨by simpa [boundsR] using HR3.out, by simp [boundsR]⟩, Lib.hid (Upto.refl _ _)⟩
      case round =>
        obtain ⟨q, m, vb, vd, hq, rfl, rfl, HR, HV⟩ := hrel
        have hq0 : (0 : Int) ≤ q := by omega
        have HBB := Lib.hid (HV.out.at HB3.out (by simp))
        have x5 := cell_of HBB.out 5
        simp only [List.getElem?_toArray, List.getElem?_cons_zero, List.getElem?_cons_succ] at x5
        rcases Nat.lt_or_ge q ll with hlt | hge
        · obtain ⟨x, hx⟩ : ∃ x, l[q]? = some x := ⟨_, List.getElem?_eq_getElem (by have := HLL.out; omega)⟩
          obtain ⟨g, o, xo, xn1, xn2, xn3, xs, xm, xq, xl1, xl2, xl3, rfl, d0, d1, d2, d3, d4, d5, hnx⟩ := HG.out q x hx
          have hw := HU3.out.trans_ext HV.out
          replace d0 := up_cell hw d0
          replace d1 := up_cell hw d1
          replace d2 := up_cell hw d2
          replace d3 := up_cell hw d3
          replace d4 := up_cell hw d4
          replace d5 := up_cell hw d5
          have HST := Lib.hid (sizesF_take l q x hx)
          have HC := Lib.hid (HIH.out x (List.mem_of_getElem? hx) (by have := HSZ.out; have := HST.out; omega) _ wr P (hnx.ext hw))
          have hltI : (q : Int) < ll := by omega
          have HNX : Hid (boundsR (l.take (q + 1)) out1 = (boundR x).foldl plusF (boundsR (l.take q) out1)) := Lib.hid (by rw [take_app1 l q x hx]; exact boundsR_app x _ _)
          have HFL := Lib.hid (boundR_len x)
          have HOL : Hid ((boundsR (l.take q) out1).length + (boundR x).length ≤ 100001) := Lib.hid (by have h1 := boundsR_len (l.take q) out1; have h2 := HST.out; have h3 := HFL.out; have h4 := HO1.out; have h5 := HSZ.out; omega)
          clear hnx hx hw
          go_wp2_with fail
          refine HC.out.mono ?_
          rintro e w5 ⟨v7, rfl, hr7⟩
          obtain ⟨a7, c7, rfl⟩ := hr7.slp.len
          have HS7 := Lib.hid hr7.slp
          have HU5 := Lib.hid (HV.out.trans_ext hr7.up)
          have HR5 := Lib.hid (HR.out.1.ext hr7.up)
          have hmm := HR.out.2
          generalize hlc : boundR x = lc at *
          generalize hfq : boundsR (l.take q) out1 = fq at *
          subst hmm
          clear hr7 hlc hfq HR
          generalize hln7 : lc.length = n7 at *
          have HL7 := Lib.hid hln7
          have hn70 : (0 : Int) ≤ n7 := by omega
          have hn71 : (n7 : Int) ≤ 1000000 := by have := HOL.out; omega
          clear hln7 d0 d1 d2 d3 d4 d5 x5
          go_wp2_with fail
          go_loopw [3, 6] (fun s i wz => ∃ (z m : Nat) (va : Option Addr) (vc : Nat), z ≤ n7 ∧ i = .int .i64 z ∧ s = .slice va m vc ∧ Hid (RowW W ((lc.take z).foldl plusF fq) (.slice va m vc) wz ∧ m = ((lc.take z).foldl plusF fq).length) ∧ Hid (Upto [] w5 wz)) (fun _ i _ => n7 - (intOf i).toNat)
          case atStart => exact ⟨0, _, vb, vd, by omega, rfl, rfl, Lib.hid ⟨by simpa using HR5.out, by simp⟩, Lib.hid (Upto.refl _ _)⟩
          case round =>
            obtain ⟨z, m, vb2, vd2, hz, rfl, rfl, HR6, HZ⟩ := hrel
            have hz0 : (0 : Int) ≤ z := by omega
            rcases Nat.lt_or_ge z n7 with hlt | hge
            · obtain ⟨y, hy⟩ : ∃ y, lc[z]? = some y := ⟨_, List.getElem?_eq_getElem (by have := HL7.out; omega)⟩
              obtain ⟨g7, o7, rfl, hcell⟩ := slp_cell HS7.out HL7.out z y hy
              have hc7 := hcell wr HZ.out
              have hltI : (z : Int) < n7 := by omega
              have HNZ : Hid ((lc.take (z + 1)).foldl plusF fq = plusF ((lc.take z).foldl plusF fq) y) := Lib.hid (by rw [take_app1 lc z y hy, List.foldl_append]; rfl)
              have HCL := Lib.hid (HPL.out _ y _ wr HR6.out.1 (by have h1 := fold_len (lc.take z) fq; have h2 := HOL.out; have h3 := HL7.out; have h4 := List.length_take_le z lc; omega))
              clear hcell hy
              go_wp2_with fail
              refine HCL.out.mono ?_
              rintro e wa ⟨va, rfl, hsa, hua⟩
              have HRA := Lib.hid (HR6.out.1.of (P := New W) hsa hua)
              obtain ⟨aa, ca, rfl⟩ := hsa.len
              have HUA := Lib.hid (HZ.out.trans_ext hua)
              clear hua hsa
              go_wp2_with fail
              go_roundw
              case rel => exact ⟨z + 1, _, aa, ca, by omega, by go_num, rfl, Lib.hid (by rw [HNZ.out]; exact ⟨HRA.out, rfl⟩), HUA⟩
              case measure => simp [intOf]; omega
            · obtain rfl : z = n7 := by omega
              have hgeI : ¬ (z : Int) < z := by omega
              have HT7 : Hid (lc.take z = lc) := Lib.hid (by rw [← HL7.out, List.take_length])
              rw [HT7.out] at HR6
              have HUZ := Lib.hid (HU5.out.trans_ext HZ.out)
              go_wp2_with fail
              go_roundw
              case rel => exact ⟨q + 1, m, vb2, vd2, by omega, by go_num, rfl, Lib.hid (by rw [HNX.out]; exact HR6.out), HUZ⟩
              case measure => simp [intOf]; omega
        · obtain rfl : q = ll := by omega
          have hgeI : ¬ (q : Int) < q := by omega
          have HT : Hid (l.take q = l) := Lib.hid (by rw [← HLL.out, List.take_length])
          rw [HT.out] at HR
          go_wp2_with fail
          go_ret
          unfold FqPost
          rw [HE.out]
          exact ⟨_, rfl, ⟨HR.out.1.slp.mono (fun b hb _ => Nat.le_trans HU1.out.size hb), HU1.out.trans_ext HR.out.1.up⟩⟩
end Go.Proofs.YtbnebkkpmcjmbaaGreatDoor


namespace Go.Proofs.YtbnebkkpmcjmbaaGreatDoor
open Go.RowKit Go.PL Go.Maps
set_option maxRecDepth 100000 in
set_option maxHeartbeats 3200000 in
theorem sclone2_calls (xs : List Value) (a : Option Addr) (n c : Nat) (w : World) (P : Nat → Prop) (hn : xs.length = n) (hN : n ≤ 10000000) (hx : ∀ u ∈ xs, u.oneCell' = true) (h : SlP w P (.slice a n c) n xs) : Calls Tryz.prog 73 #[.slice a n c] w fun e w' => ∃ a' c', e = .returned (.slice a' n c') ∧ w'.ownsRow 0 9 1 (.slice a' n c') n xs ∧ (∀ g, (Value.slice a' n c').ownBlock = some g → w.heap.size ≤ g) ∧ Upto [] w w' := by
  have q22 : ∀ (w : World) (a : Option Addr) (n c n' c' : Nat), (binOp .eql 22 (.slice a n c) (.slice none n' c')).run Tryz.prog w = .ok (.bool a.isNone) w := fun w a n c n' c' => Lib.run_eql_slice_nil w _ _ a n c n' c' Tryz.underlying22
  cases a with
  | none =>
    have hn0 : n = 0 := by
      rcases h with ⟨h0, -⟩ | ⟨g, o, c, h0, -⟩
      · exact h0
      · cases h0
    subst hn0
    have hx0 : xs = [] := List.eq_nil_of_length_eq_zero hn
    subst hx0
    clear h hx
    go_enter Tryz.func73, Tryz.ntmps73
    go_wp2
    go_ret
    exact ⟨none, 0, rfl, World.ownsRow_nil _ 0 9 1, fun g hg => by simp [Value.ownBlock] at hg, Upto.refl _ _⟩
  | some ad =>
    obtain ⟨i0, hi, hz0, hz1, hz2⟩ := info9'
    have A : Aside (∀ j u, xs[j]? = some u → w.cell? (ad.add j) = some u) := by
      intro j u hj
      rcases h with ⟨-, h0, -⟩ | ⟨g, o, c, h0, -, hc⟩
      · subst h0; cases hj
      · simp only [Value.slice.injEq, Option.some.injEq] at h0
        obtain ⟨h0, -, -⟩ := h0
        subst h0
        rw [Addr.add_lit]
        exact hc j u hj
    have HX := Lib.hid hx
    have HN := Lib.hid hn
    clear h hx hn
    go_enter Tryz.func73, Tryz.ntmps73
    go_wp2_with (at_builtin; refine wpList_append_own _ rfl _ _ 22 rfl w.heap.size 9 i0 (.string { data := #[] }) 1 16 Tryz.underlying22 hi hz0 hz1 hz2 rfl (by decide) _ _ _ rfl (World.ownsRow_made w #[] 0 (Nat.le_refl _) (Nat.zero_le _) rfl) ad n c xs rfl ?qc1 ?qc2 ?qc3 ?qc4 ?qc5 ?qc6 ?_)
    case qc1 => have := HN.out; omega
    case qc2 =>
      intro j u hj
      exact Lib.cell?_alloc_some _ (A.out j u hj)
    case qc3 => exact HX.out
    case qc4 => unfold maxLen; omega
    case qc5 => omega
    case qc6 => simp
    intro v' w1 hown hgrow _
    obtain ⟨a', c', rfl, -⟩ := ownsRow_len hown
    have hup : Upto [] w w1 := ((Upto.refl [] w).alloc _).grown hgrow (by intro k hk; simp [Value.ownBlock] at hk; omega)
    have hown2 : w1.ownsRow w.heap.size 9 1 (.slice a' n c') n xs := by simpa using hown
    have hnu : ∀ g, (Value.slice a' n c').ownBlock = some g → w.heap.size ≤ g := fun g hg => by
      rcases hown2.2 with ⟨e, -⟩ | ⟨g', cap, cur, e, hge, hh, -⟩
      · rw [e] at hg; cases hg
      · rw [e] at hg
        simp [Value.ownBlock] at hg
        subst hg
        exact hge
    have hsl : w1.ownsRow 0 9 1 (.slice a' n c') n xs ∧ (∀ g, (Value.slice a' n c').ownBlock = some g → w.heap.size ≤ g) := ⟨⟨hown2.1, hown2.2.imp id (fun ⟨g, cap, cur, h1, h2, h3⟩ => ⟨g, cap, cur, h1, Nat.zero_le _, h3⟩)⟩, hnu⟩
    clear hown hgrow
    have HF := Lib.hid (And.intro hsl hup)
    clear hsl hup
    go_wp2
    go_ret
    exact ⟨a', c', by simp, HF.out.1.1, HF.out.1.2, HF.out.2⟩
theorem usesP_app (bs : List (List UInt8)) (x : List UInt8) : ∀ (l out : List (List UInt8)), usesP bs (l ++ [x]) out = if bs.contains x = false ∧ (usesP bs l out).contains x = false then usesP bs l out ++ [x] else usesP bs l out
  | [], out => by simp [usesP]
  | y :: ys, out => by
    rw [List.cons_append]
    show usesP bs (ys ++ [x]) _ = _
    rw [usesP_app bs x ys]
    rfl
theorem usesP_len (bs l out : List (List UInt8)) : (usesP bs l out).length ≤ out.length + l.length := by
  rw [usesP_eq]
  have := fold_len (l.filter (fun y => !bs.contains y)) out
  have h2 := List.length_filter_le (fun y => !bs.contains y) l
  omega
mutual
theorem freeP_len : ∀ (n : Nd) (bs out : List (List UInt8)), (freeP n bs out).length ≤ out.length + nmsF n
  | .mk op nms _ _ _ l, bs, out => by
    unfold freeP nmsF
    have h1 := freesP_len l (if bindsF op nms.length = true then bs ++ [nms.headD []] else bs) (usesP bs (usesF op nms) out)
    have h2 := usesP_len bs (usesF op nms) out
    have h3 := uses_len op nms
    omega
theorem freesP_len : ∀ (l : List Nd) (bs out : List (List UInt8)), (freesP l bs out).length ≤ out.length + nmssF l
  | [], bs, out => by unfold freesP; omega
  | x :: xs, bs, out => by
    unfold freesP nmssF
    have h1 := freesP_len xs bs (freeP x bs out)
    have h2 := freeP_len x bs out
    omega
end
theorem freesP_app (x : Nd) : ∀ (l : List Nd) (bs out : List (List UInt8)), freesP (l ++ [x]) bs out = freeP x bs (freesP l bs out)
  | [], bs, out => by simp [freesP]
  | y :: ys, bs, out => by
    rw [List.cons_append]
    unfold freesP
    exact freesP_app x ys bs _
/-- a list that grows in a block of its own, or in new ones -/
structure OwR (w0 : World) (vo : Value) (ls : List (List UInt8)) (v : Value) (wr : World) : Prop where
  row : wr.ownsRow 0 9 1 v ls.length (ls.map sV)
  up : Upto vo.ownBlock.toList w0 wr
  wh : ∀ g, v.ownBlock = some g → vo.ownBlock = some g ∨ w0.heap.size ≤ g
theorem OwR.start {w0 wr : World} {vo : Value} {ls : List (List UInt8)} (h : w0.ownsRow 0 9 1 vo ls.length (ls.map sV)) (hu : Upto [] w0 wr) : OwR w0 vo ls vo wr := ⟨ownsRow_upto h hu (by simp), hu.mono (by simp), fun _ hg => Or.inl hg⟩
theorem OwR.ext {w0 wr wr' : World} {vo v : Value} {ls : List (List UInt8)} (h : OwR w0 vo ls v wr) (hu : Upto [] wr wr') : OwR w0 vo ls v wr' := ⟨ownsRow_upto h.row hu (by simp), h.up.trans_ext hu, h.wh⟩
theorem OwR.slp {w0 wr : World} {vo v : Value} {ls : List (List UInt8)} (h : OwR w0 vo ls v wr) : SlP wr (fun _ => True) v ls.length (ls.map sV) := SlP.of_row h.row (fun _ _ => trivial)
theorem OwR.on {w0 wr wr' : World} {vo v v' : Value} {ls ls' : List (List UInt8)} (h : OwR w0 vo ls v wr) (hr : wr'.ownsRow 0 9 1 v' ls'.length (ls'.map sV)) (hu : Upto v.ownBlock.toList wr wr') (hw : ∀ g, v'.ownBlock = some g → v.ownBlock = some g ∨ wr.heap.size ≤ g) : OwR w0 vo ls' v' wr' :=
  ⟨hr, h.up.trans hu (fun k hk => (h.wh k (Option.mem_toList.1 hk)).imp (fun h2 => Option.mem_toList.2 h2) id), fun g hg => (hw g hg).elim (h.wh g) (fun h2 => Or.inr (Nat.le_trans h.up.size h2))⟩
theorem OwR.app {w0 wr wr' : World} {vo v : Value} {ls : List (List UInt8)} {x : List UInt8} {n : Nat} {b' : Option Addr} {c' : Nat} (h : OwR w0 vo ls v wr) (hn : ls.length = n) (ho : wr'.ownsRow 0 9 1 (.slice b' (n + 1) c') (n + 1) (ls.map sV ++ [sV x])) (hu : Upto v.ownBlock.toList wr wr') (hw : ∀ g, (Value.slice b' (n + 1) c').ownBlock = some g → v.ownBlock = some g ∨ wr.heap.size ≤ g) : OwR w0 vo (ls ++ [x]) (.slice b' (n + 1) c') wr' := by
  subst hn
  refine h.on ?_ hu hw
  rw [List.map_append]
  simpa using ho
theorem OwR.rebase {w0 w2 wr : World} {vo v : Value} {ls : List (List UInt8)} (h : OwR w2 vo ls v wr) (hu : Upto [] w0 w2) : OwR w0 vo ls v wr := ⟨h.row, (hu.mono (by simp)).trans_same h.up, fun g hg => (h.wh g hg).imp id (fun h2 => Nat.le_trans hu.size h2)⟩
/-- behind a call of free -/
def FoPost (vo : Value) (ls : List (List UInt8)) (w : World) (e : Ending) (w' : World) : Prop := ∃ v, e = .returned v ∧ OwR w vo ls v w'
theorem own_lt {w : World} {vo : Value} {n : Nat} {xs : List Value} (h : w.ownsRow 0 9 1 vo n xs) : ∀ g ∈ vo.ownBlock.toList, g < w.heap.size := fun g hg => by
  obtain ⟨cur, hh⟩ := ownsRow_block h (Option.mem_toList.1 hg)
  exact lt_of_heap hh
/-- the operands of a node, later -/
theorem ls_later {S : List Nat} {w u : World} {P : Nat → Prop} {op so nn mm : Int} {nms : List (List UInt8)} {l : List Nd} {a1 a2 : Option Addr} {c1 c2 : Nat} (h : NdV w P (.mk op nms so nn mm l) (.agg #[.int .i64 op, .slice a1 nms.length c1, .int .i64 so, .int .i64 nn, .int .i64 mm, .slice a2 l.length c2])) (hu : Upto S w u) (hp : ∀ b, P b → IsC w b → b ∉ S) : LsAt u P a2 l := by
  obtain ⟨a3, c3, a4, c4, e, -, hg⟩ := (h.upto hu hp).open
  simp only [Value.agg.injEq, Array.mk.injEq, List.cons.injEq, Value.slice.injEq, and_true, true_and] at e
  obtain ⟨-, rfl, -⟩ := e
  exact hg
set_option maxRecDepth 100000 in
set_option maxHeartbeats 12800000 in
theorem free_calls : ∀ (k : Nat) (nd : Nd), sizeF nd ≤ k → k ≤ 100000 → goodN nd → ∀ (v : Value) (w : World) (P : Nat → Prop), NdV w P nd v → ∀ (Q : Nat → Prop) (bs : List (List UInt8)) (vb : Value), SlP w Q vb bs.length (bs.map sV) → ∀ (ls : List (List UInt8)) (vo : Value), w.ownsRow 0 9 1 vo ls.length (ls.map sV) → (∀ b, P b → b < w.heap.size ∧ b ∉ vo.ownBlock.toList) → (∀ b, Q b → b < w.heap.size ∧ b ∉ vo.ownBlock.toList) → bs.length + sizeF nd ≤ 200000 → ls.length + nmsF nd ≤ 200000 → Calls Tryz.prog 54 #[v, vb, vo] w (FoPost vo (freeP nd bs ls) w)
  | 0, nd, hk, _, _, _, _, _, _, _, _, _, _, _, _, _, _, _, _, _ => by have := sizeF_pos nd; omega
  | k + 1, .mk op nms so nn mm l, hk, hk7, hgd, v, w, P, h, Q, bs, vb, hb, ls, vo, ho, hP, hQ, hbl, hnm => by
    obtain ⟨a1, c1, a2, c2, rfl, hs, hg⟩ := h.open
    obtain ⟨ba, bc, rfl⟩ := hb.len
    obtain ⟨oa, oc, rfl, -⟩ := ownsRow_len ho
    unfold goodN at hgd
    have HGD := Lib.hid hgd
    have hsz : sizesF l ≤ k := by simp only [sizeF] at hk; omega
    have HSZ := Lib.hid hsz
    unfold nmsF at hnm
    have HNM := Lib.hid hnm
    have HBL : Hid (bs.length + 1 + sizesF l ≤ 200000) := Lib.hid (by simp only [sizeF] at hbl; omega)
    have HE : Hid (freeP (.mk op nms so nn mm l) bs ls = freesP l (if bindsF op nms.length = true then bs ++ [nms.headD []] else bs) (usesP bs (usesF op nms) ls)) := Lib.hid (by simp only [freeP])
    have HLEN : Hid (l.length ≤ 100000) := Lib.hid (by have := sizes_len l; omega)
    have hlen := HLEN.out
    have HBI := Lib.hid (fun u => binds_calls op a1 nms.length c1 so nn mm a2 l.length c2 u)
    have HUS := Lib.hid (fun u (hu : Upto [] w u) => uses_calls P op nms a1 c1 so nn mm a2 l.length c2 u (fun h => hgd.1 (Or.inl h)) (hs.ext hu) (by omega))
    have HIH := Lib.hid (fun (x : Nd) (hx : x ∈ l) (hs : sizeF x ≤ k) => free_calls k x hs (by omega) (goodsN_mem HGD.out.2 x hx))
    generalize hobE : (Value.slice oa ls.length oc).ownBlock.toList = ob at *
    have HOB := Lib.hid hobE
    have HLT : Hid (∀ g ∈ ob, g < w.heap.size) := Lib.hid (by rw [← hobE]; exact own_lt ho)
    obtain ⟨W, hW⟩ : ∃ W, W = w.alloc (.cells #[.int .i64 op, .slice a1 nms.length c1, .int .i64 so, .int .i64 nn, .int .i64 mm, .slice a2 l.length c2] 30) := ⟨_, rfl⟩
    have HU1 : Hid (Upto [] w W) := Lib.hid (by rw [hW]; exact (Upto.refl [] w).alloc _)
    have HB1 : Hid (W.heap[w.heap.size]? = some (.cells #[.int .i64 op, .slice a1 nms.length c1, .int .i64 so, .int .i64 nn, .int .i64 mm, .slice a2 l.length c2] 30 (0, 0))) := Lib.hid (by rw [hW]; exact new_at w _)
    have HPN : Hid (∀ u, Upto ob w u → LsAt u P a2 l) := Lib.hid (fun u hu => ls_later h hu (fun b hb _ => (hP b hb).2))
    have HPU : Hid (∀ u, Upto ob w u → ∀ (x : Nd) (y : Value), NdV w P x y → NdV u P x y) := Lib.hid (fun u hu x y hx => hx.upto hu (fun b hb _ => (hP b hb).2))
    have HSN : Hid (∀ u, Upto ob w u → SlP u P (.slice a1 nms.length c1) nms.length (nms.map sV)) := Lib.hid (fun u hu => hs.upto hu (fun b hb _ => (hP b hb).2))
    have HSB : Hid (∀ u, Upto ob w u → SlP u Q (.slice ba bs.length bc) bs.length (bs.map sV)) := Lib.hid (fun u hu => hb.upto hu (fun b hb _ => (hQ b hb).2))
    have HP2 := Lib.hid hP
    have HQ2 := Lib.hid hQ
    have HO := Lib.hid ho
    have HUL : Hid ((usesF op nms).length ≤ nms.length) := Lib.hid (uses_len op nms)
    have HNL : Hid (bindsF op nms.length = true → 0 < nms.length) := Lib.hid (fun hb => by unfold bindsF at hb; simp at hb; omega)
    have HND : Hid (0 < nms.length → nms[0]? = some (nms.headD [])) := Lib.hid (fun h0 => by cases nms with
      | nil => simp at h0
      | cons x r => rfl)
    generalize hbb : bindsF op nms.length = bb at *
    generalize hnm0 : nms.headD [] = nm at *
    generalize hlu : usesF op nms = lu at *
    have HLU := Lib.hid hlu
    obtain ⟨x0, x1, x2, x3, x4, x5⟩ := cells6 HB1.out
    obtain ⟨i0, hi0, hz0, hz1, hz2⟩ := info9'
    have HI0 := Lib.hid hi0
    have HZ0 := Lib.hid hz0
    have HZ1 := Lib.hid hz1
    have HZ2 := Lib.hid hz2
    generalize hnl : nms.length = nl at *
    have HNN := Lib.hid hnl
    generalize hll : l.length = ll at *
    have HLL := Lib.hid hll
    generalize hbn : bs.length = bn at *
    have HBN := Lib.hid hbn
    have hL0 : (0 : Int) ≤ ll := by omega
    have hL1 : (ll : Int) ≤ 100000 := by omega
    have hbn0 : (0 : Int) ≤ bn := by omega
    have hbn1 : (bn : Int) ≤ 200000 := by have := HBL.out; omega
    clear h hg hs hsz hll hlen hk hgd hbb hnm0 hlu hnl hnm hb ho hP hQ hbl hobE hbn hi0 hz0 hz1 hz2
    go_enter Tryz.func54, Tryz.ntmps54
    go_wp2_with fail
    simp only [← hW]
    clear hW
    go_wp2_with fail
    refine (HUS.out _ HU1.out).mono ?_
    rintro e w2 ⟨vu, rfl, hsu, hu2⟩
    rw [HLU.out] at hsu
    obtain ⟨au, cu, rfl⟩ := hsu.len
    have HU2 := Lib.hid (HU1.out.trans_ext hu2)
    have HB2 := Lib.hid (hu2.at HB1.out (by simp))
    have HSU : Hid (∀ u, Upto ob w2 u → SlP u P (.slice au lu.length cu) lu.length (lu.map sV)) := Lib.hid (fun u hu => hsu.upto hu (fun b hb _ => (HP2.out b hb).2))
    have HST := Lib.hid (OwR.start (ownsRow_upto HO.out HU2.out (by simp)) (Upto.refl [] w2))
    generalize hln : lu.length = n at *
    have HLN := Lib.hid hln
    have hn0 : (0 : Int) ≤ n := by omega
    have hn1 : (n : Int) ≤ 1000000 := by have := HUL.out; have := HNM.out; omega
    clear hu2 hsu x0 x1 x2 x3 x4 x5 hln
    go_wp2_with fail
    go_loopw [2, 14] (fun s i wr => ∃ (j m : Nat) (va : Option Addr) (vc : Nat), j ≤ n ∧ i = .int .i64 j ∧ s = .slice va m vc ∧ Hid (OwR w2 (.slice oa ls.length oc) (usesP bs (lu.take j) ls) (.slice va m vc) wr ∧ m = (usesP bs (lu.take j) ls).length)) (fun _ i _ => n - (intOf i).toNat)
    case atStart => exact ⟨0, _, oa, oc, by omega, rfl, rfl, Lib.hid ⟨by simpa [usesP] using HST.out, by simp [usesP]⟩⟩
    case round =>
      obtain ⟨j, m, va, vc, hj, rfl, rfl, HR⟩ := hrel
      have HU : Hid (Upto ob w2 wr) := Lib.hid (by rw [← HOB.out]; exact HR.out.1.up)
      have hj0 : (0 : Int) ≤ j := by omega
      have HUW : Hid (Upto ob w wr) := Lib.hid ((HU2.out.mono (by simp)).trans_same HU.out)
      rcases Nat.lt_or_ge j n with hlt | hge
      · obtain ⟨y, hy⟩ : ∃ y, lu[j]? = some y := ⟨_, List.getElem?_eq_getElem (by have := HLN.out; omega)⟩
        obtain ⟨g, o, rfl, hcell⟩ := slp_cell (HSU.out wr HU.out) HLN.out j y hy
        have hc := hcell wr (Upto.refl _ _)
        have hltI : (j : Int) < n := by omega
        have HNX : Hid (usesP bs (lu.take (j + 1)) ls = if bs.contains y = false ∧ (usesP bs (lu.take j) ls).contains y = false then usesP bs (lu.take j) ls ++ [y] else usesP bs (lu.take j) ls) := Lib.hid (by rw [take_app1 lu j y hy]; exact usesP_app bs y _ _)
        have HLL2 : Hid ((usesP bs (lu.take j) ls).length ≤ 200000) := Lib.hid (by have h1 := usesP_len bs (lu.take j) ls; have h2 := HLN.out; have h3 := List.length_take_le j lu; have h4 := HNM.out; have h5 := HUL.out; omega)
        have HCB := Lib.hid (containsS_calls bs y (.slice ba bn bc) wr Q (by have := HSB.out wr HUW.out; rw [HBN.out]; exact this) (by have := HBN.out; omega))
        have HCO := Lib.hid (containsS_calls (usesP bs (lu.take j) ls) y (.slice va m vc) wr _ HR.out.1.slp (by have := HLL2.out; omega))
        generalize hq : usesP bs (lu.take j) ls = lq at *
        have HMM := Lib.hid HR.out.2
        have hm1 : (m : Int) ≤ 200000 := by have := HLL2.out; have := HMM.out; omega
        have hm0 : (0 : Int) ≤ m := by omega
        clear hcell hy hq
        go_wp2_with fail
        refine HCB.out.mono ?_
        rintro e w3 ⟨rfl, rfl⟩
        cases hcb : bs.contains y with
        | true =>
          have HNY : Hid (usesP bs (lu.take (j + 1)) ls = lq) := Lib.hid (by rw [HNX.out, hcb]; simp)
          clear hcb
          go_wp2_with fail
          go_roundw
          case rel => exact ⟨j + 1, m, va, vc, by omega, by go_num, rfl, Lib.hid (by rw [HNY.out]; exact HR.out)⟩
          case measure => simp [intOf]; omega
        | false =>
          go_wp2_with fail
          refine HCO.out.mono ?_
          rintro e w4 ⟨rfl, rfl⟩
          cases hco : lq.contains y with
          | true =>
            have HNY : Hid (usesP bs (lu.take (j + 1)) ls = lq) := Lib.hid (by rw [HNX.out, hco]; simp)
            clear hcb hco
            go_wp2_with fail
            go_roundw
            case rel => exact ⟨j + 1, m, va, vc, by omega, by go_num, rfl, Lib.hid (by rw [HNY.out]; exact HR.out)⟩
            case measure => simp [intOf]; omega
          | false =>
            have HNY : Hid (usesP bs (lu.take (j + 1)) ls = lq ++ [y]) := Lib.hid (by rw [HNX.out, hcb, hco]; simp)
            have HT := Lib.hid (HR.out.1.ext ((Upto.refl [] _).alloc (.cells #[.string ⟨y.toArray⟩] 9)))
            have hrow := HT.out.row
            rw [← HMM.out] at hrow
            have hsrc := cells_at (l := [sV y]) (new_at w4 (.cells #[.string ⟨y.toArray⟩] 9))
            clear hcb hco
            go_wp2_with (at_builtin; refine wpList_app _ rfl (.tmp 28) (.tmp 30) 22 rfl 9 i0 (.string ⟨#[]⟩) 1 16 Tryz.underlying22 HI0.out HZ0.out HZ1.out HZ2.out rfl (by decide) (.slice va m vc) m _ rfl hrow ⟨w4.heap.size, 0, none⟩ 1 1 [sV y] rfl rfl hsrc (by simp [Value.oneCell', sV]) (by unfold maxLen; omega) (by omega) ?_; intro vb vd w5 ho5 hu5 hw5; have HM5 := Lib.hid (HT.out.app HMM.out.symm ho5 hu5 hw5); clear hrow hsrc ho5 hu5 hw5)
            rw [show (j : Int) + 1 = ((j + 1 : Nat) : Int) from rfl]
            exact ⟨⟨j + 1, m + 1, vb, vd, by omega, rfl, rfl, Lib.hid ⟨by rw [HNY.out]; exact HM5.out, by rw [HNY.out, List.length_append, HMM.out]; rfl⟩⟩, meas_up (by omega) rfl⟩
      · obtain rfl : j = n := by omega
        have hgeI : ¬ (j : Int) < j := by omega
        have HT : Hid (lu.take j = lu) := Lib.hid (by rw [← HLN.out, List.take_length])
        rw [HT.out] at HR
        have HB3 := Lib.hid (HU.out.at HB2.out (by intro hm; have := HLT.out _ hm; omega))
        have HO3 := Lib.hid (HR.out.1.rebase HU2.out)
        have HMM := Lib.hid HR.out.2
        have HL1 : Hid ((usesP bs lu ls).length ≤ ls.length + nl) := Lib.hid (by have h1 := usesP_len bs lu ls; have h2 := HUL.out; have h3 := HLN.out; omega)
        generalize hls1 : usesP bs lu ls = ls1 at *
        clear hls1 HR
        obtain ⟨x0, x1, x2, x3, x4, x5⟩ := cells6 HB3.out
        go_wp2_with fail
        refine (HBI.out _).mono ?_
        rintro e w5 ⟨rfl, hu5⟩
        have HB5 := Lib.hid (hu5.at HB3.out (by simp))
        have HO5 := Lib.hid (HO3.out.ext hu5)
        have HU5 := Lib.hid (HUW.out.trans_ext hu5)
        have HV5 := Lib.hid hu5
        clear hu5 x0 x1 x2 x3 x4 x5
        cases bb with
        | false =>
          have HE2 : Hid ((if false = true then bs ++ [nm] else bs) = bs) := Lib.hid rfl
          rw [HE2.out] at HE
          obtain ⟨w6, hw6⟩ : ∃ w6, w6 = w5 := ⟨_, rfl⟩
          have HB6 : Hid _ := HB5
          have HO6 := HO5
          have HSB6 : Hid (SlP w5 Q (.slice ba bn bc) bs.length (bs.map sV)) := Lib.hid (by rw [HBN.out]; exact HSB.out w5 HU5.out)
          have HQ6 : Hid (∀ b, Q b → b < w5.heap.size ∧ b ∉ (Value.slice va m vc).ownBlock.toList) := Lib.hid (fun b hb => ⟨Nat.lt_of_lt_of_le (HQ2.out b hb).1 HU5.out.size, fun hm => by
            rcases HO5.out.wh b (Option.mem_toList.1 hm) with h1 | h1
            · exact (HQ2.out b hb).2 (by rw [← HOB.out]; exact Option.mem_toList.2 h1)
            · have := (HQ2.out b hb).1; omega⟩)
          have HBS : Hid (bs.length + sizesF l ≤ 200000) := Lib.hid (by have := HBL.out; have := HBN.out; omega)
          rw [← hw6] at HB6 HO6 HSB6 HQ6
          simp only [← hw6]
          clear hw6
          have x5 := cell_of HB6.out 5
          simp only [List.getElem?_toArray, List.getElem?_cons_zero, List.getElem?_cons_succ] at x5
          go_wp2_with fail
          clear x5
          go_loopw [2, 46] (fun s i wr => ∃ (q m2 : Nat) (vb : Option Addr) (vd : Nat), q ≤ ll ∧ i = .int .i64 q ∧ s = .slice vb m2 vd ∧ Hid (OwR w6 (.slice va m vc) (freesP (l.take q) bs ls1) (.slice vb m2 vd) wr ∧ m2 = (freesP (l.take q) bs ls1).length)) (fun _ i _ => ll - (intOf i).toNat)
          case atStart => exact ⟨0, _, va, vc, by omega, rfl, rfl, Lib.hid ⟨by simpa [freesP] using OwR.start HO6.out.row (Upto.refl [] w6), by simpa [freesP] using HMM.out⟩⟩
          case round =>
            obtain ⟨q, m2, vb, vd, hq, rfl, rfl, HR⟩ := hrel
            have hq0 : (0 : Int) ≤ q := by omega
            have HON := Lib.hid (HO6.out.on HR.out.1.row HR.out.1.up HR.out.1.wh)
            have HUX : Hid (Upto ob w wr) := Lib.hid (by rw [← HOB.out]; exact HON.out.up)
            rcases Nat.lt_or_ge q ll with hlt | hge
            · obtain ⟨x, hx⟩ : ∃ x, l[q]? = some x := ⟨_, List.getElem?_eq_getElem (by have := HLL.out; omega)⟩
              obtain ⟨g, o, xo, xn1, xn2, xn3, xs, xm, xq, xl1, xl2, xl3, rfl, d0, d1, d2, d3, d4, d5, hnx⟩ := HPN.out wr HUX.out q x hx
              have hua : Upto [] wr (wr.alloc (.cells #[.int .i64 xo, .slice xn1 xn2 xn3, .int .i64 xs, .int .i64 xm, .int .i64 xq, .slice xl1 xl2 xl3] 30)) := (Upto.refl [] wr).alloc _
              have HSZX := Lib.hid (sizesF_take l q x hx)
              have HNMX := Lib.hid (nmss_take l q x hx)
              have HFL := Lib.hid (freesP_len (l.take q) bs ls1)
              have HC := Lib.hid (HIH.out x (List.mem_of_getElem? hx) (by have := HSZ.out; have := HSZX.out; omega) _ _ P (hnx.ext hua) Q bs (.slice ba bn bc) ((HSB6.out.upto HR.out.1.up (fun b hb _ => (HQ6.out b hb).2)).ext hua) (freesP (l.take q) bs ls1) (.slice vb m2 vd) (ownsRow_upto HR.out.1.row hua (by simp))
                (fun b hb => ⟨by have h1 := (HP2.out b hb).1; have h2 := HUX.out.size; have h3 := hua.size; omega, fun hm => by
                  rcases HON.out.wh b (Option.mem_toList.1 hm) with h1 | h1
                  · exact (HP2.out b hb).2 (by rw [← HOB.out]; exact Option.mem_toList.2 h1)
                  · have := (HP2.out b hb).1; omega⟩)
                (fun b hb => ⟨by have h1 := (HQ6.out b hb).1; have h2 := HR.out.1.up.size; have h3 := hua.size; omega, fun hm => by
                  rcases HR.out.1.wh b (Option.mem_toList.1 hm) with h1 | h1
                  · exact (HQ6.out b hb).2 (Option.mem_toList.2 h1)
                  · have := (HQ6.out b hb).1; omega⟩)
                (by have h1 := HBS.out; have h2 := HSZX.out; omega) (by have h1 := HFL.out; have h2 := HNMX.out; have h3 := HNM.out; have h4 := HL1.out; have h5 := nmss_take_le l q; omega))
              have HRA := Lib.hid (HR.out.1.ext hua)
              have hltI : (q : Int) < ll := by omega
              have HNX : Hid (freesP (l.take (q + 1)) bs ls1 = freeP x bs (freesP (l.take q) bs ls1)) := Lib.hid (by rw [take_app1 l q x hx]; exact freesP_app x _ _ _)
              clear hua hnx hx
              go_wp2_with fail
              refine HC.out.mono ?_
              rintro e w7 ⟨v7, rfl, ho7⟩
              have HR7 := Lib.hid (HRA.out.on ho7.row ho7.up ho7.wh)
              obtain ⟨a7, c7, rfl, -⟩ := ownsRow_len ho7.row
              clear ho7
              go_wp2_with fail
              go_roundw
              case rel => exact ⟨q + 1, _, a7, c7, by omega, by go_num, rfl, Lib.hid (by rw [HNX.out]; exact ⟨HR7.out, rfl⟩)⟩
              case measure => simp [intOf]; omega
            · obtain rfl : q = ll := by omega
              have hgeI : ¬ (q : Int) < q := by omega
              have HTT : Hid (l.take q = l) := Lib.hid (by rw [← HLL.out, List.take_length])
              rw [HTT.out] at HON
              go_wp2_with fail
              go_ret
              unfold FoPost
              rw [HE.out]
              exact ⟨_, rfl, HON.out⟩
        | true =>
          have HE2 : Hid ((if true = true then bs ++ [nm] else bs) = bs ++ [nm]) := Lib.hid rfl
          rw [HE2.out] at HE
          have hnl0 := HNL.out rfl
          have hnl1 : (0 : Int) < nl := by omega
          obtain ⟨gn, on, rfl, hcn⟩ := slp_cell (HSN.out w5 HU5.out) HNN.out 0 nm (HND.out hnl0)
          have e1 : ∀ u : Ext w5, u.w.cell? ⟨w.heap.size, 1, none⟩ = some (.slice (some ⟨gn, on, none⟩) nl c1) := fun u => u.cell (cell_of HB5.out 1)
          have en : ∀ u : Ext w5, u.w.cell? ⟨gn, on, none⟩ = some (.string ⟨nm.toArray⟩) := fun u => hcn u.w u.up
          have HCL := Lib.hid (fun u (hu : Upto [] w5 u) => sclone2_calls (bs.map sV) ba bn bc u Q (by rw [List.length_map, HBN.out]) (by omega) (by simp [Value.oneCell', sV]) (by have := (HSB.out w5 HU5.out).ext hu; exact this))
          clear hcn
          go_wp2_with fail
          refine wp_region_seg_at [1] [6] [0, 1, 2, 3, 4, 5, 6] [7, 8] 7 (by kernel_rfl) (by kernel_rfl) (by kernel_rfl) ?_
          with_reducible refine seg_plain (o := ?o1) ?hi1 ?hA1 ?hC1 ?hp1 ?hw1 ?h1
          case hi1 => rfl
          case hA1 => rfl
          case hC1 => rfl
          case hp1 => rfl
          case hw1 => kernel_rfl
          intro K' hK'
          go_big_quiet_op
          go_big_quiet_on
          refine seg_callO (Y := Option Addr × Nat) (fun y => .slice y.1 bn y.2) (fun y u => u.ownsRow 0 9 1 (.slice y.1 bn y.2) bn (bs.map sV) ∧ ∀ g, (Value.slice y.1 bn y.2).ownBlock = some g → w5.heap.size ≤ g) (fun _ => []) rfl rfl rfl rfl (fun _ _ _ h hu => ⟨ownsRow_upto h.1 hu (by simp), h.2⟩) (fun _ => List.nodup_nil) (fun w => by go_simp) (fun w' hu hd => (HCL.out w' hu).mono fun e w2 ⟨a', c', h1, h2, h3, h4⟩ => ⟨(a', c'), h1, h4, ⟨h2, fun g hg => Nat.le_trans hu.size (h3 g hg)⟩, fun b hb => by cases hb⟩) ?_
          rintro ⟨za, zc⟩
          simp only [Act.put, List.setIfInBounds_toArray, List.set_cons_zero, List.set_cons_succ]
          with_reducible refine seg_plain (o := ?o2) ?hi2 ?hA2 ?hC2 ?hp2 ?hw2 ?h2
          case hi2 => rfl
          case hA2 => rfl
          case hC2 => rfl
          case hp2 => rfl
          case hw2 => kernel_rfl
          intro K' hK'
          go_big_quiet_op
          go_big_quiet_on
          with_reducible refine seg_plain (o := ?o3) ?hi3 ?hA3 ?hC3 ?hp3 ?hw3 ?h3
          case hi3 => rfl
          case hA3 => rfl
          case hC3 => rfl
          case hp3 => rfl
          case hw3 => kernel_rfl
          intro K' hK'
          go_big_quiet_op
          go_big_quiet_on
          with_reducible refine seg_plain (o := ?o4) ?hi4 ?hA4 ?hC4 ?hp4 ?hw4 ?h4
          case hi4 => rfl
          case hA4 => rfl
          case hC4 => rfl
          case hp4 => rfl
          case hw4 => kernel_rfl
          intro K' hK'
          go_big_quiet_op
          go_big_quiet_on
          with_reducible refine seg_plain (o := ?o5) ?hi5 ?hA5 ?hC5 ?hp5 ?hw5 ?h5
          case hi5 => rfl
          case hA5 => rfl
          case hC5 => rfl
          case hp5 => rfl
          case hw5 => kernel_rfl
          intro K' hK'
          go_big_quiet_op
          go_big_quiet_on
          refine seg_made (.cells #[.string ⟨nm.toArray⟩] 9) (fun b => .slice (some ⟨b, 0, none⟩) 1 1) rfl rfl rfl (fun w => by go_simp) ?_
          intro b8
          simp only [Act.put, List.setIfInBounds_toArray, List.set_cons_zero, List.set_cons_succ]
          intro w9 hg
          have HU9 := Lib.hid hg.up
          have HB8 : Hid (w9.heap[b8]? = some (.cells #[.string ⟨nm.toArray⟩] 9 (0, 0))) := Lib.hid hg.hold.1
          have HZR : Hid (w9.ownsRow 0 9 1 (.slice za bn zc) bn (bs.map sV) ∧ ∀ g, (Value.slice za bn zc).ownBlock = some g → w5.heap.size ≤ g) := Lib.hid hg.hold.2.1
          simp only [List.drop_succ_cons, List.drop_zero]
          have hrow := HZR.out.1
          have hsrc := cells_at (l := [sV nm]) HB8.out
          clear hg e1 en
          go_wp2_with (at_builtin; refine wpList_app _ rfl (.tmp 36) (.tmp 41) 22 rfl 9 i0 (.string ⟨#[]⟩) 1 16 Tryz.underlying22 HI0.out HZ0.out HZ1.out HZ2.out rfl (by decide) (.slice za bn zc) bn _ rfl hrow ⟨b8, 0, none⟩ 1 1 [sV nm] rfl rfl hsrc (by simp [Value.oneCell', sV]) (by unfold maxLen; omega) (by omega) ?_; intro vb vd w6 ho6 hu6 hw6; have HRO := Lib.hid (And.intro ho6 (And.intro hu6 hw6)); have HUP6 : Hid (Upto [] w5 w6) := Lib.hid (HU9.out.trans hu6 (fun k hk => Or.inr (HZR.out.2 k (Option.mem_toList.1 hk)))); have HB6 := Lib.hid (HUP6.out.at HB5.out (by simp)); have x5 := cell_of HB6.out 5; simp only [List.getElem?_toArray, List.getElem?_cons_zero, List.getElem?_cons_succ] at x5; clear hrow hsrc ho6 hu6 hw6)
          have HO6 := Lib.hid (HO5.out.ext HUP6.out)
          have HSB6 : Hid (SlP w6 (fun b => w5.heap.size ≤ b ∧ b < w6.heap.size) (.slice vb (bn + 1) vd) (bs ++ [nm]).length ((bs ++ [nm]).map sV)) := Lib.hid (by
            have h1 : w6.ownsRow 0 9 1 (.slice vb (bn + 1) vd) (bs ++ [nm]).length ((bs ++ [nm]).map sV) := by
              rw [List.length_append, List.map_append, HBN.out]
              exact HRO.out.1
            exact SlP.of_row h1 (fun g hg => ⟨by
              rcases HRO.out.2.2 g hg with h2 | h2
              · exact HZR.out.2 g h2
              · exact Nat.le_trans HU9.out.size h2, own_lt h1 g (Option.mem_toList.2 hg)⟩))
          have HQ6 : Hid (∀ b, (w5.heap.size ≤ b ∧ b < w6.heap.size) → b < w6.heap.size ∧ b ∉ (Value.slice va m vc).ownBlock.toList) := Lib.hid (fun b hb => ⟨hb.2, fun hm => by
            have := own_lt HO5.out.row b hm
            omega⟩)
          have HBS : Hid ((bs ++ [nm]).length + sizesF l ≤ 200000) := Lib.hid (by have := HBL.out; have := HBN.out; rw [List.length_append]; simp; omega)
          clear x5
          go_loopw [2, 46] (fun s i wr => ∃ (q m2 : Nat) (vb : Option Addr) (vd : Nat), q ≤ ll ∧ i = .int .i64 q ∧ s = .slice vb m2 vd ∧ Hid (OwR w6 (.slice va m vc) (freesP (l.take q) (bs ++ [nm]) ls1) (.slice vb m2 vd) wr ∧ m2 = (freesP (l.take q) (bs ++ [nm]) ls1).length)) (fun _ i _ => ll - (intOf i).toNat)
          case atStart => exact ⟨0, _, va, vc, by omega, rfl, rfl, Lib.hid ⟨by simpa [freesP] using OwR.start HO6.out.row (Upto.refl [] w6), by simpa [freesP] using HMM.out⟩⟩
          case round =>
            obtain ⟨q, m2, vb, vd, hq, rfl, rfl, HR⟩ := hrel
            have hq0 : (0 : Int) ≤ q := by omega
            have HON := Lib.hid (HO6.out.on HR.out.1.row HR.out.1.up HR.out.1.wh)
            have HUX : Hid (Upto ob w wr) := Lib.hid (by rw [← HOB.out]; exact HON.out.up)
            rcases Nat.lt_or_ge q ll with hlt | hge
            · obtain ⟨x, hx⟩ : ∃ x, l[q]? = some x := ⟨_, List.getElem?_eq_getElem (by have := HLL.out; omega)⟩
              obtain ⟨g, o, xo, xn1, xn2, xn3, xs, xm, xq, xl1, xl2, xl3, rfl, d0, d1, d2, d3, d4, d5, hnx⟩ := HPN.out wr HUX.out q x hx
              have hua : Upto [] wr (wr.alloc (.cells #[.int .i64 xo, .slice xn1 xn2 xn3, .int .i64 xs, .int .i64 xm, .int .i64 xq, .slice xl1 xl2 xl3] 30)) := (Upto.refl [] wr).alloc _
              have HSZX := Lib.hid (sizesF_take l q x hx)
              have HNMX := Lib.hid (nmss_take l q x hx)
              have HFL := Lib.hid (freesP_len (l.take q) (bs ++ [nm]) ls1)
              have HC := Lib.hid (HIH.out x (List.mem_of_getElem? hx) (by have := HSZ.out; have := HSZX.out; omega) _ _ P (hnx.ext hua) (fun b => w5.heap.size ≤ b ∧ b < w6.heap.size) (bs ++ [nm]) _ ((HSB6.out.upto HR.out.1.up (fun b hb _ => (HQ6.out b hb).2)).ext hua) (freesP (l.take q) (bs ++ [nm]) ls1) (.slice vb m2 vd) (ownsRow_upto HR.out.1.row hua (by simp))
                (fun b hb => ⟨by have h1 := (HP2.out b hb).1; have h2 := HUX.out.size; have h3 := hua.size; omega, fun hm => by
                  rcases HON.out.wh b (Option.mem_toList.1 hm) with h1 | h1
                  · exact (HP2.out b hb).2 (by rw [← HOB.out]; exact Option.mem_toList.2 h1)
                  · have := (HP2.out b hb).1; omega⟩)
                (fun b hb => ⟨by have h1 := (HQ6.out b hb).1; have h2 := HR.out.1.up.size; have h3 := hua.size; omega, fun hm => by
                  rcases HR.out.1.wh b (Option.mem_toList.1 hm) with h1 | h1
                  · exact (HQ6.out b hb).2 (Option.mem_toList.2 h1)
                  · have := (HQ6.out b hb).1; omega⟩)
                (by have h1 := HBS.out; have h2 := HSZX.out; omega) (by have h1 := HFL.out; have h2 := HNMX.out; have h3 := HNM.out; have h4 := HL1.out; have h5 := nmss_take_le l q; omega))
              have HRA := Lib.hid (HR.out.1.ext hua)
              have hltI : (q : Int) < ll := by omega
              have HNX : Hid (freesP (l.take (q + 1)) (bs ++ [nm]) ls1 = freeP x (bs ++ [nm]) (freesP (l.take q) (bs ++ [nm]) ls1)) := Lib.hid (by rw [take_app1 l q x hx]; exact freesP_app x _ _ _)
              clear hua hnx hx
              go_wp2_with fail
              refine HC.out.mono ?_
              rintro e w7 ⟨v7, rfl, ho7⟩
              have HR7 := Lib.hid (HRA.out.on ho7.row ho7.up ho7.wh)
              obtain ⟨a7, c7, rfl, -⟩ := ownsRow_len ho7.row
              clear ho7
              go_wp2_with fail
              go_roundw
              case rel => exact ⟨q + 1, _, a7, c7, by omega, by go_num, rfl, Lib.hid (by rw [HNX.out]; exact ⟨HR7.out, rfl⟩)⟩
              case measure => simp [intOf]; omega
            · obtain rfl : q = ll := by omega
              have hgeI : ¬ (q : Int) < q := by omega
              have HTT : Hid (l.take q = l) := Lib.hid (by rw [← HLL.out, List.take_length])
              rw [HTT.out] at HON
              go_wp2_with fail
              go_ret
              unfold FoPost
              rw [HE.out]
              exact ⟨_, rfl, HON.out⟩
end Go.Proofs.YtbnebkkpmcjmbaaGreatDoor


namespace Go.Proofs.YtbnebkkpmcjmbaaGreatDoor
open Go.RowKit Go.PL Go.Maps
/-- in memory that is there -/
theorem NdV.here {w : World} {P : Nat → Prop} {nd : Nd} {v : Value} (h : NdV w P nd v) : NdV w (fun b => b < w.heap.size) nd v := h.mono (fun _ _ hc => hc.lt)
set_option maxRecDepth 100000 in
set_option maxHeartbeats 3200000 in
theorem Free_calls (nd : Nd) (v : Value) (w : World) (P : Nat → Prop) (h : NdV w P nd v) (hk : sizeF nd ≤ 100000) (hg : goodN nd) (hn : nmsF nd ≤ 200000) : Calls Tryz.prog 19 #[v] w (FqPost w (freeP nd [] [])) := by
  obtain ⟨op, a1, n1, c1, so, nn, mm, a2, n2, c2, rfl⟩ := h.six
  obtain ⟨W, hW⟩ : ∃ W, W = w.alloc (.cells #[.int .i64 op, .slice a1 n1 c1, .int .i64 so, .int .i64 nn, .int .i64 mm, .slice a2 n2 c2] 30) := ⟨_, rfl⟩
  have HU1 : Hid (Upto [] w W) := Lib.hid (by rw [hW]; exact (Upto.refl [] w).alloc _)
  have HB1 : Hid (W.heap[w.heap.size]? = some (.cells #[.int .i64 op, .slice a1 n1 c1, .int .i64 so, .int .i64 nn, .int .i64 mm, .slice a2 n2 c2] 30 (0, 0))) := Lib.hid (by rw [hW]; exact new_at w _)
  have HF := Lib.hid (free_calls 100000 nd hk (by omega) hg _ W _ (h.ext HU1.out).here (fun _ => False) [] (.slice none 0 0) SlP.nil [] (.slice none 0 0) (by simpa using World.ownsRow_nil W 0 9 1) (fun b hb => ⟨hb, by simp [Value.ownBlock]⟩) (fun b hb => hb.elim) (by simp; omega) (by simp; omega))
  obtain ⟨x0, x1, x2, x3, x4, x5⟩ := cells6 HB1.out
  clear h
  go_enter Tryz.func19, Tryz.ntmps19
  go_wp2_with fail
  simp only [← hW]
  clear hW
  go_wp2_with fail
  refine HF.out.mono ?_
  rintro e w2 ⟨v2, rfl, ho⟩
  have HU2 : Hid (Upto [] W w2) := Lib.hid (by simpa [Value.ownBlock] using ho.up)
  have HS : Hid (RowW w (freeP nd [] []) v2 w2) := Lib.hid ⟨SlP.of_row ho.row (fun g hg => by
    rcases ho.wh g hg with h1 | h1
    · simp [Value.ownBlock] at h1
    · exact Nat.le_trans HU1.out.size h1), HU1.out.trans_ext HU2.out⟩
  obtain ⟨a9, c9, rfl, -⟩ := ownsRow_len ho.row
  clear ho x0 x1 x2 x3 x4 x5
  go_wp2_with fail
  go_ret
  exact ⟨_, rfl, HS.out⟩
mutual
/-- what a state becomes, node by node in the order of walk -/
def walkF {α : Type} (f : α → Nd → α) : Nd → α → α
  | .mk op nms so nn mm l, s => walksF f l (f s (.mk op nms so nn mm l))
def walksF {α : Type} (f : α → Nd → α) : List Nd → α → α
  | [], s => s
  | x :: xs, s => walksF f xs (walkF f x s)
end
theorem walksF_app {α : Type} (f : α → Nd → α) (x : Nd) : ∀ (l : List Nd) (s : α), walksF f (l ++ [x]) s = walkF f x (walksF f l s)
  | [], s => by simp [walksF]
  | y :: ys, s => by
    rw [List.cons_append]
    unfold walksF
    exact walksF_app f x ys _
set_option maxRecDepth 100000 in
set_option maxHeartbeats 6400000 in
/-- walk, with a function value f (captures ps) that takes a state on: J says what the state is in memory; outside of S nothing changes, and what is new -/
theorem walkB_calls {α : Type} (p : Value) (f : α → Nd → α) (w0 : World) (S : List Nat) (P : Nat → Prop) (J : α → Nat → List Nat → World → Prop)
    (hPS : ∀ b, P b → b < w0.heap.size ∧ b ∉ S) (hS : ∀ g ∈ S, g < w0.heap.size)
    (hJ1 : ∀ s r O u, J s r O u → w0.heap.size ≤ u.heap.size ∧ ∀ g ∈ O, g < u.heap.size ∧ w0.heap.size ≤ g) (hJe : ∀ s r O u u', J s r O u → Upto [] u u' → J s r O u')
    (hf : ∀ s r O u x v, J s (r + sizeF x) O u → goodN x → NdV u P x v → Calls Tryz.prog 56 #[v, p] u fun e w' => e = .returned (.tuple #[]) ∧ ∃ O', Upto (S ++ O) u w' ∧ (∀ g ∈ O', g ∈ O ∨ u.heap.size ≤ g) ∧ ∀ r', r' + 1 ≤ r + sizeF x → J (f s x) r' O' w') :
    ∀ (k : Nat) (nd : Nd), sizeF nd ≤ k → k ≤ 100000 → goodN nd → ∀ (v : Value) (s : α) (r : Nat) (O : List Nat) (w : World), J s (r + sizeF nd) O w → NdV w P nd v → Calls Tryz.prog 55 #[v, .func (.func 56) #[] #[p]] w fun e w' => e = .returned (.tuple #[]) ∧ ∃ O', J (walkF f nd s) r O' w' ∧ Upto (S ++ O) w w' ∧ ∀ g ∈ O', g ∈ O ∨ w.heap.size ≤ g
  | 0, nd, hk, _, _, _, _, _, _, _, _, _ => by have := sizeF_pos nd; omega
  | k + 1, .mk op nms so nn mm l, hk, hk7, hgd, v, s, r, O, w, hJ, h => by
    obtain ⟨a1, c1, a2, c2, rfl, hs, hg⟩ := h.open
    have HGD0 := Lib.hid hgd
    unfold goodN at hgd
    have HGD := Lib.hid hgd
    have hsz : sizesF l ≤ k := by simp only [sizeF] at hk; omega
    have HSZ := Lib.hid hsz
    have HSE : Hid (sizeF (.mk op nms so nn mm l) = 1 + sizesF l) := Lib.hid (by simp only [sizeF])
    have HE : Hid (walkF f (.mk op nms so nn mm l) s = walksF f l (f s (.mk op nms so nn mm l))) := Lib.hid (by simp only [walkF])
    have HLEN : Hid (l.length ≤ 100000) := Lib.hid (by have := sizes_len l; omega)
    have hlen := HLEN.out
    have HIH := Lib.hid (fun (x : Nd) (hx : x ∈ l) (hs : sizeF x ≤ k) => walkB_calls p f w0 S P J hPS hS hJ1 hJe hf k x hs (by omega) (goodsN_mem HGD.out.2 x hx))
    have HO1 := Lib.hid (hJ1 _ _ _ _ hJ)
    have HPN : Hid (∀ u, Upto (S ++ O) w u → LsAt u P a2 l) := Lib.hid (fun u hu => ls_later h hu (fun b hb _ hm => by
      rcases List.mem_append.1 hm with h1 | h1
      · exact (hPS b hb).2 h1
      · have := (HO1.out.2 b h1).2; have := (hPS b hb).1; omega))
    obtain ⟨W, hW⟩ : ∃ W, W = w.alloc (.cells #[.int .i64 op, .slice a1 nms.length c1, .int .i64 so, .int .i64 nn, .int .i64 mm, .slice a2 l.length c2] 30) := ⟨_, rfl⟩
    have HU1 : Hid (Upto [] w W) := Lib.hid (by rw [hW]; exact (Upto.refl [] w).alloc _)
    have HB1 : Hid (W.heap[w.heap.size]? = some (.cells #[.int .i64 op, .slice a1 nms.length c1, .int .i64 so, .int .i64 nn, .int .i64 mm, .slice a2 l.length c2] 30 (0, 0))) := Lib.hid (by rw [hW]; exact new_at w _)
    have HNS : Hid (w.heap.size ∉ S ++ O) := Lib.hid (fun hm => by
      rcases List.mem_append.1 hm with h1 | h1
      · have h3 := hS _ h1; have h2 := HO1.out.1; omega
      · have := (HO1.out.2 _ h1).1; omega)
    have HF := Lib.hid (hf s r O W _ _ (hJe _ _ _ _ _ hJ HU1.out) HGD0.out (h.ext HU1.out))
    have HJE := Lib.hid hJe
    generalize hs1 : f s (.mk op nms so nn mm l) = s1 at *
    obtain ⟨x0, x1, x2, x3, x4, x5⟩ := cells6 HB1.out
    generalize hll : l.length = ll at *
    have HLL := Lib.hid hll
    have hL0 : (0 : Int) ≤ ll := by omega
    have hL1 : (ll : Int) ≤ 100000 := by omega
    clear h hg hs hsz hll hlen hk hgd hJ hs1 hJe hJ1 hf hPS hS
    go_enter Tryz.func55, Tryz.ntmps55
    go_wp2_with fail
    simp only [← hW]
    clear hW
    go_wp2_with fail
    refine HF.out.mono ?_
    rintro e w2 ⟨rfl, O2, hu2, ho2, hj2⟩
    have HU2 := Lib.hid ((HU1.out.mono (by simp)).trans_same hu2)
    have HO2 : Hid (∀ g ∈ O2, g ∈ O ∨ w.heap.size ≤ g) := Lib.hid (fun g hg => (ho2 g hg).imp id (fun h => Nat.le_trans HU1.out.size h))
    have HJ2 := Lib.hid hj2
    have HB2 := Lib.hid (hu2.at HB1.out HNS.out)
    clear hu2 hj2 ho2 x0 x1 x2 x3 x4 x5
    have x5 := cell_of HB2.out 5
    simp only [List.getElem?_toArray, List.getElem?_cons_zero, List.getElem?_cons_succ] at x5
    go_wp2_with fail
    clear x5
    go_loopw [12] (fun i wr => ∃ (q : Nat) (Oq : List Nat), q ≤ ll ∧ i = .int .i64 q ∧ Hid (J (walksF f (l.take q) s1) (r + sizesF (l.drop q)) Oq wr ∧ Upto (S ++ O) w wr ∧ ∀ g ∈ Oq, g ∈ O ∨ w.heap.size ≤ g)) (fun i _ => ll - (intOf i).toNat)
    case atStart => exact ⟨0, O2, by omega, rfl, Lib.hid ⟨by simpa [walksF] using HJ2.out _ (by rw [HSE.out]; omega), HU2.out, HO2.out⟩⟩
    case round =>
      obtain ⟨q, Oq, hq, rfl, HR⟩ := hrel
      have hq0 : (0 : Int) ≤ q := by omega
      rcases Nat.lt_or_ge q ll with hlt | hge
      · obtain ⟨x, hx⟩ : ∃ x, l[q]? = some x := ⟨_, List.getElem?_eq_getElem (by have := HLL.out; omega)⟩
        obtain ⟨g, o, xo, xn1, xn2, xn3, xs, xm, xq, xl1, xl2, xl3, rfl, d0, d1, d2, d3, d4, d5, hnx⟩ := HPN.out wr HR.out.2.1 q x hx
        have hua : Upto [] wr (wr.alloc (.cells #[.int .i64 xo, .slice xn1 xn2 xn3, .int .i64 xs, .int .i64 xm, .int .i64 xq, .slice xl1 xl2 xl3] 30)) := (Upto.refl [] wr).alloc _
        have HSX := Lib.hid (sizesF_take l q x hx)
        have HDX : Hid (sizesF (l.drop q) = sizeF x + sizesF (l.drop (q + 1))) := Lib.hid (by
          obtain ⟨hi, rfl⟩ := List.getElem?_eq_some_iff.1 hx
          rw [List.drop_eq_getElem_cons hi]
          simp only [sizesF])
        have HC := Lib.hid (HIH.out x (List.mem_of_getElem? hx) (by have := HSZ.out; have := HSX.out; omega) _ (walksF f (l.take q) s1) (r + sizesF (l.drop (q + 1))) Oq _ (by have h1 := HJE.out _ _ _ _ _ HR.out.1 hua; rw [HDX.out] at h1; rw [show r + sizesF (l.drop (q + 1)) + sizeF x = r + (sizeF x + sizesF (l.drop (q + 1))) by omega]; exact h1) (hnx.ext hua))
        have hltI : (q : Int) < ll := by omega
        have HNX : Hid (walksF f (l.take (q + 1)) s1 = walkF f x (walksF f (l.take q) s1)) := Lib.hid (by rw [take_app1 l q x hx]; exact walksF_app f x _ _)
        have HUA := Lib.hid hua
        clear hua hnx hx
        go_wp2_with fail
        refine HC.out.mono ?_
        rintro e w7 ⟨rfl, O7, hj7, hu7, ho7⟩
        have HJ7 := Lib.hid hj7
        have HU7 := Lib.hid ((HR.out.2.1.trans_ext HUA.out).trans hu7 (fun k hk => by
          rcases List.mem_append.1 hk with h1 | h1
          · exact Or.inl (List.mem_append_left _ h1)
          · exact (HR.out.2.2 k h1).imp (fun h2 => List.mem_append_right _ h2) id))
        have HO7 : Hid (∀ g ∈ O7, g ∈ O ∨ w.heap.size ≤ g) := Lib.hid (fun g hg => by
          rcases ho7 g hg with h1 | h1
          · exact HR.out.2.2 g h1
          · exact Or.inr (Nat.le_trans (HR.out.2.1.trans_ext HUA.out).size h1))
        clear hj7 hu7 ho7
        go_wp2_with fail
        go_roundw
        case rel => exact ⟨q + 1, O7, by omega, by go_num, Lib.hid ⟨by rw [HNX.out]; exact HJ7.out, HU7.out, HO7.out⟩⟩
        case measure => simp [intOf]; omega
      · obtain rfl : q = ll := by omega
        have hgeI : ¬ (q : Int) < q := by omega
        have HTT : Hid (l.take q = l) := Lib.hid (by rw [← HLL.out, List.take_length])
        have HDD : Hid (l.drop q = []) := Lib.hid (by rw [← HLL.out, List.drop_length])
        rw [HTT.out, HDD.out] at HR
        go_wp2_with fail
        exact bodyPost_end (v := .tuple #[]) (by simp [results, Tryz.results55, go_sem]) rfl ⟨rfl, Oq, by rw [HE.out]; simpa [sizesF] using HR.out.1, HR.out.2.1, HR.out.2.2⟩
end Go.Proofs.YtbnebkkpmcjmbaaGreatDoor


namespace Go.Proofs.YtbnebkkpmcjmbaaGreatDoor
open Go.RowKit Go.PL Go.Maps
def bStep (s : List (List UInt8)) : Nd → List (List UInt8)
  | .mk op nms _ _ _ _ => if bindsF op nms.length = true ∧ s.contains (nms.headD []) = false then s ++ [nms.headD []] else s
mutual
theorem boundP_walk : ∀ (n : Nd) (s : List (List UInt8)), walkF bStep n s = boundP n s
  | .mk op nms so nn mm l, s => by
    unfold walkF boundP
    rw [boundsP_walk l]
    rfl
theorem boundsP_walk : ∀ (l : List Nd) (s : List (List UInt8)), walksF bStep l s = boundsP l s
  | [], s => by simp [walksF, boundsP]
  | x :: xs, s => by
    unfold walksF boundsP
    rw [boundP_walk x, boundsP_walk xs]
end
/-- the list that Bound grows, in the cell of block B -/
def BoJ (w0 : World) (B : Nat) (ls : List (List UInt8)) (r : Nat) (O : List Nat) (u : World) : Prop := ∃ (va : Option Addr) (m vc : Nat), u.heap[B]? = some (.cells #[.slice va m vc] 22 (0, 0)) ∧ u.ownsRow 0 9 1 (.slice va m vc) ls.length (ls.map sV) ∧ m = ls.length ∧ O = (Value.slice va m vc).ownBlock.toList ∧ w0.heap.size ≤ u.heap.size ∧ (∀ g ∈ O, w0.heap.size ≤ g) ∧ ls.length + r ≤ 200000
theorem BoJ.one {w0 : World} {B : Nat} {s : List (List UInt8)} {r : Nat} {O : List Nat} {u : World} (h : BoJ w0 B s r O u) : w0.heap.size ≤ u.heap.size ∧ ∀ g ∈ O, g < u.heap.size ∧ w0.heap.size ≤ g := by
  obtain ⟨va, m, vc, h1, h2, h3, rfl, h5, h6, h7⟩ := h
  exact ⟨h5, fun g hg => ⟨own_lt h2 g hg, h6 g hg⟩⟩
theorem BoJ.ext {w0 : World} {B : Nat} {s : List (List UInt8)} {r : Nat} {O : List Nat} {u u' : World} (h : BoJ w0 B s r O u) (hu : Upto [] u u') : BoJ w0 B s r O u' := by
  obtain ⟨va, m, vc, h1, h2, h3, h4, h5, h6, h7⟩ := h
  exact ⟨va, m, vc, hu.at h1 (by simp), ownsRow_upto h2 hu (by simp), h3, h4, Nat.le_trans h5 hu.size, h6, h7⟩
theorem BoJ.less {w0 : World} {B : Nat} {s : List (List UInt8)} {r r' : Nat} {O : List Nat} {u : World} (h : BoJ w0 B s r O u) (hr : r' ≤ r) : BoJ w0 B s r' O u := by
  obtain ⟨va, m, vc, h1, h2, h3, h4, h5, h6, h7⟩ := h
  exact ⟨va, m, vc, h1, h2, h3, h4, h5, h6, by omega⟩
def BoPost (w0 : World) (B : Nat) (O : List Nat) (s' : List (List UInt8)) (r : Nat) (u : World) (e : Ending) (w' : World) : Prop := e = .returned (.tuple #[]) ∧ ∃ O', Upto ([B] ++ O) u w' ∧ (∀ g ∈ O', g ∈ O ∨ u.heap.size ≤ g) ∧ ∀ r', r' + 1 ≤ r → BoJ w0 B s' r' O' w'
set_option maxRecDepth 100000 in
set_option maxHeartbeats 6400000 in
theorem bclos_calls (w0 : World) (B : Nat) (hB : B < w0.heap.size) (s : List (List UInt8)) (r : Nat) (O : List Nat) (w : World) (P : Nat → Prop) (nd : Nd) (v : Value) (hr : 1 ≤ r) (hJ : BoJ w0 B s r O w) (h : NdV w P nd v) : Calls Tryz.prog 56 #[v, .pointer (some ⟨B, 0, none⟩)] w (BoPost w0 B O (bStep s nd) r w) := by
  obtain ⟨op, nms, so, nn, mm, l⟩ := nd
  obtain ⟨a1, c1, a2, c2, rfl, hs, -⟩ := h.open
  obtain ⟨W, hW⟩ : ∃ W, W = w.alloc (.cells #[.int .i64 op, .slice a1 nms.length c1, .int .i64 so, .int .i64 nn, .int .i64 mm, .slice a2 l.length c2] 30) := ⟨_, rfl⟩
  have HU1 : Hid (Upto [] w W) := Lib.hid (by rw [hW]; exact (Upto.refl [] w).alloc _)
  have HB1 : Hid (W.heap[w.heap.size]? = some (.cells #[.int .i64 op, .slice a1 nms.length c1, .int .i64 so, .int .i64 nn, .int .i64 mm, .slice a2 l.length c2] 30 (0, 0))) := Lib.hid (by rw [hW]; exact new_at w _)
  have HSN := Lib.hid (fun u (hu : Upto [] w u) => hs.ext hu)
  have HBI := Lib.hid (fun u => binds_calls op a1 nms.length c1 so nn mm a2 l.length c2 u)
  have HNL : Hid (bindsF op nms.length = true → 0 < nms.length) := Lib.hid (fun hb => by unfold bindsF at hb; simp at hb; omega)
  have HND : Hid (0 < nms.length → nms[0]? = some (nms.headD [])) := Lib.hid (fun h0 => by cases nms with
    | nil => simp at h0
    | cons x r => rfl)
  have HE : Hid (bStep s (.mk op nms so nn mm l) = if bindsF op nms.length = true ∧ s.contains (nms.headD []) = false then s ++ [nms.headD []] else s) := Lib.hid rfl
  generalize bStep s (.mk op nms so nn mm l) = s' at *
  have HJ := Lib.hid hJ
  obtain ⟨va, m, vc, j1, j2, j3, j4, j5, j6, j7⟩ := hJ
  have HJB := Lib.hid (HU1.out.at j1 (by simp))
  have HJR := Lib.hid (ownsRow_upto j2 HU1.out (by simp))
  have HJM := Lib.hid j3
  have HJO := Lib.hid j4
  have HJL := Lib.hid j7
  have HJS := Lib.hid (And.intro hB (And.intro j5 j6))
  have HCO := Lib.hid (fun u (hu : Upto [] W u) (x : List UInt8) => containsS_calls s x (.slice va m vc) u (fun _ => True) (SlP.of_row (ownsRow_upto HJR.out hu (by simp)) (fun _ _ => trivial)) (by omega))
  generalize hbb : bindsF op nms.length = bb at *
  generalize hnm0 : nms.headD [] = nm at *
  obtain ⟨i0, hi0, hz0, hz1, hz2⟩ := info9'
  have HI0 := Lib.hid hi0
  have HZ0 := Lib.hid hz0
  have HZ1 := Lib.hid hz1
  have HZ2 := Lib.hid hz2
  generalize hnl : nms.length = nl at *
  have HNN := Lib.hid hnl
  generalize hll : l.length = ll at *
  have hm0 : (0 : Int) ≤ m := by omega
  have hm1 : (m : Int) ≤ 200000 := by omega
  have e0 : ∀ u : Ext W, u.w.cell? ⟨w.heap.size, 0, none⟩ = some (.int .i64 op) := fun u => u.cell (cell_of HB1.out 0)
  have e1 : ∀ u : Ext W, u.w.cell? ⟨w.heap.size, 1, none⟩ = some (.slice a1 nl c1) := fun u => u.cell (cell_of HB1.out 1)
  have e2 : ∀ u : Ext W, u.w.cell? ⟨w.heap.size, 2, none⟩ = some (.int .i64 so) := fun u => u.cell (cell_of HB1.out 2)
  have e3 : ∀ u : Ext W, u.w.cell? ⟨w.heap.size, 3, none⟩ = some (.int .i64 nn) := fun u => u.cell (cell_of HB1.out 3)
  have e4 : ∀ u : Ext W, u.w.cell? ⟨w.heap.size, 4, none⟩ = some (.int .i64 mm) := fun u => u.cell (cell_of HB1.out 4)
  have e5 : ∀ u : Ext W, u.w.cell? ⟨w.heap.size, 5, none⟩ = some (.slice a2 ll c2) := fun u => u.cell (cell_of HB1.out 5)
  have e6 : ∀ u : Ext W, u.w.cell? ⟨B, 0, none⟩ = some (.slice va m vc) := fun u => u.cell (cell_of HJB.out 0)
  clear h hs hbb hnm0 hnl hll j1 j2 j3 j4 j5 j6 j7 hB hi0 hz0 hz1 hz2
  go_enter Tryz.func56, Tryz.ntmps56
  go_wp2_with fail
  simp only [← hW]
  clear hW
  cases bb with
  | false =>
    have HS' : Hid (s' = s) := Lib.hid (by rw [HE.out]; simp)
    refine wp_region_seg_all [1, 8] [] [0, 1, 2, 3, 4, 5, 6, 7, 8, 9, 10] (by kernel_rfl) (by kernel_rfl) ?_
    with_reducible refine seg_plain (o := ?o1) ?hi1 ?hA1 ?hC1 ?hp1 ?hw1 ?h1
    case hi1 => rfl
    case hA1 => rfl
    case hC1 => rfl
    case hp1 => rfl
    case hw1 => kernel_rfl
    intro K' hK'
    go_big_quiet_op
    go_big_quiet_on
    refine seg_call (f := 57) (args := #[.agg #[.int .i64 op, .slice a1 nl c1, .int .i64 so, .int .i64 nn, .int .i64 mm, .slice a2 ll c2]]) (v := .bool false) rfl rfl rfl rfl (fun w => by go_simp) (fun w hu hd => HBI.out w) ?_
    simp only [Act.put, List.setIfInBounds_toArray, List.set_cons_zero, List.set_cons_succ]
    with_reducible refine seg_plain (o := ?o2) ?hi2 ?hA2 ?hC2 ?hp2 ?hw2 ?h2
    case hi2 => rfl
    case hA2 => rfl
    case hC2 => rfl
    case hp2 => rfl
    case hw2 => kernel_rfl
    intro K' hK'
    go_big_quiet_op
    go_big_quiet_on
    with_reducible refine seg_skip (o := ?o3) ?hi3 ?hw3 ?h3
    case hi3 => rfl
    case hw3 => kernel_rfl
    simp only [Act.put, List.setIfInBounds_toArray, List.set_cons_zero, List.set_cons_succ]
    with_reducible refine seg_skip (o := ?o4) ?hi4 ?hw4 ?h4
    case hi4 => rfl
    case hw4 => kernel_rfl
    simp only [Act.put, List.setIfInBounds_toArray, List.set_cons_zero, List.set_cons_succ]
    with_reducible refine seg_skip (o := ?o5) ?hi5 ?hw5 ?h5
    case hi5 => rfl
    case hw5 => kernel_rfl
    simp only [Act.put, List.setIfInBounds_toArray, List.set_cons_zero, List.set_cons_succ]
    with_reducible refine seg_skip (o := ?o6) ?hi6 ?hw6 ?h6
    case hi6 => rfl
    case hw6 => kernel_rfl
    simp only [Act.put, List.setIfInBounds_toArray, List.set_cons_zero, List.set_cons_succ]
    with_reducible refine seg_skip (o := ?o7) ?hi7 ?hw7 ?h7
    case hi7 => rfl
    case hw7 => kernel_rfl
    simp only [Act.put, List.setIfInBounds_toArray, List.set_cons_zero, List.set_cons_succ]
    with_reducible refine seg_skip (o := ?o8) ?hi8 ?hw8 ?h8
    case hi8 => rfl
    case hw8 => kernel_rfl
    simp only [Act.put, List.setIfInBounds_toArray, List.set_cons_zero, List.set_cons_succ]
    with_reducible refine seg_skip (o := ?o9) ?hi9 ?hw9 ?h9
    case hi9 => rfl
    case hw9 => kernel_rfl
    simp only [Act.put, List.setIfInBounds_toArray, List.set_cons_zero, List.set_cons_succ]
    with_reducible refine seg_plain (o := ?o10) ?hi10 ?hA10 ?hC10 ?hp10 ?hw10 ?h10
    case hi10 => rfl
    case hA10 => rfl
    case hC10 => rfl
    case hp10 => rfl
    case hw10 => kernel_rfl
    intro K' hK'
    go_big_quiet_op
    go_big_quiet_on
    intro w9 hg
    have HU9 := Lib.hid (HU1.out.trans_ext hg.up)
    clear hg e0 e1 e2 e3 e4 e5 e6
    go_wp2_with fail
    refine bodyPost_end (v := .tuple #[]) (by simp [results, Tryz.results56, go_sem]) rfl ⟨rfl, O, HU9.out.mono (by simp), fun g hg => Or.inl hg, fun r' hr' => ?_⟩
    rw [HS'.out]
    exact (HJ.out.ext HU9.out).less (by omega)
  | true =>
    have hnl0 := HNL.out rfl
    have hnl1 : (0 : Int) < nl := by omega
    obtain ⟨gn, on, rfl, hcn⟩ := slp_cell (HSN.out W HU1.out) HNN.out 0 nm (HND.out hnl0)
    have e7 : ∀ u : Ext W, u.w.cell? ⟨gn, on, none⟩ = some (.string ⟨nm.toArray⟩) := fun u => hcn u.w u.up
    cases hcn0 : s.contains nm with
    | true =>
      have HS' : Hid (s' = s) := Lib.hid (by rw [HE.out, hcn0]; simp)
      refine wp_region_seg_all [1, 8] [] [0, 1, 2, 3, 4, 5, 6, 7, 8, 9, 10] (by kernel_rfl) (by kernel_rfl) ?_
      with_reducible refine seg_plain (o := ?o11) ?hi11 ?hA11 ?hC11 ?hp11 ?hw11 ?h11
      case hi11 => rfl
      case hA11 => rfl
      case hC11 => rfl
      case hp11 => rfl
      case hw11 => kernel_rfl
      intro K' hK'
      go_big_quiet_op
      go_big_quiet_on
      refine seg_call (f := 57) (args := #[.agg #[.int .i64 op, .slice (some ⟨gn, on, none⟩) nl c1, .int .i64 so, .int .i64 nn, .int .i64 mm, .slice a2 ll c2]]) (v := .bool true) rfl rfl rfl rfl (fun w => by go_simp) (fun w hu hd => HBI.out w) ?_
      simp only [Act.put, List.setIfInBounds_toArray, List.set_cons_zero, List.set_cons_succ]
      with_reducible refine seg_plain (o := ?o12) ?hi12 ?hA12 ?hC12 ?hp12 ?hw12 ?h12
      case hi12 => rfl
      case hA12 => rfl
      case hC12 => rfl
      case hp12 => rfl
      case hw12 => kernel_rfl
      intro K' hK'
      go_big_quiet_op
      go_big_quiet_on
      with_reducible refine seg_plain (o := ?o13) ?hi13 ?hA13 ?hC13 ?hp13 ?hw13 ?h13
      case hi13 => rfl
      case hA13 => rfl
      case hC13 => rfl
      case hp13 => rfl
      case hw13 => kernel_rfl
      intro K' hK'
      go_big_quiet_op
      go_big_quiet_on
      with_reducible refine seg_plain (o := ?o14) ?hi14 ?hA14 ?hC14 ?hp14 ?hw14 ?h14
      case hi14 => rfl
      case hA14 => rfl
      case hC14 => rfl
      case hp14 => rfl
      case hw14 => kernel_rfl
      intro K' hK'
      go_big_quiet_op
      go_big_quiet_on
      with_reducible refine seg_plain (o := ?o15) ?hi15 ?hA15 ?hC15 ?hp15 ?hw15 ?h15
      case hi15 => rfl
      case hA15 => rfl
      case hC15 => rfl
      case hp15 => rfl
      case hw15 => kernel_rfl
      intro K' hK'
      go_big_quiet_op
      go_big_quiet_on
      with_reducible refine seg_plain (o := ?o16) ?hi16 ?hA16 ?hC16 ?hp16 ?hw16 ?h16
      case hi16 => rfl
      case hA16 => rfl
      case hC16 => rfl
      case hp16 => rfl
      case hw16 => kernel_rfl
      intro K' hK'
      go_big_quiet_op
      go_big_quiet_on
      with_reducible refine seg_plain (o := ?o17) ?hi17 ?hA17 ?hC17 ?hp17 ?hw17 ?h17
      case hi17 => rfl
      case hA17 => rfl
      case hC17 => rfl
      case hp17 => rfl
      case hw17 => kernel_rfl
      intro K' hK'
      go_big_quiet_op
      go_big_quiet_on
      with_reducible refine seg_call (o := ?o18) (f := 52) (args := #[.slice va m vc, .string ⟨nm.toArray⟩]) (v := .bool true) ?hi18 ?hA18 ?hC18 ?hw18 ?hr18 (fun w hu hd => (HCO.out w hu nm).mono fun e w' hh => ⟨by rw [hh.1, hcn0], hh.2 ▸ Upto.refl _ _⟩) ?h18
      case hi18 => rfl
      case hA18 => rfl
      case hC18 => rfl
      case hw18 => kernel_rfl
      case hr18 => exact fun w => by go_simp
      simp only [Act.put, List.setIfInBounds_toArray, List.set_cons_zero, List.set_cons_succ]
      with_reducible refine seg_plain (o := ?o19) ?hi19 ?hA19 ?hC19 ?hp19 ?hw19 ?h19
      case hi19 => rfl
      case hA19 => rfl
      case hC19 => rfl
      case hp19 => rfl
      case hw19 => kernel_rfl
      intro K' hK'
      go_big_quiet_op
      go_big_quiet_on
      with_reducible refine seg_plain (o := ?o20) ?hi20 ?hA20 ?hC20 ?hp20 ?hw20 ?h20
      case hi20 => rfl
      case hA20 => rfl
      case hC20 => rfl
      case hp20 => rfl
      case hw20 => kernel_rfl
      intro K' hK'
      go_big_quiet_op
      go_big_quiet_on
      intro w9 hg
      have HU9 := Lib.hid (HU1.out.trans_ext hg.up)
      clear hg e0 e1 e2 e3 e4 e5 e6 e7 hcn hcn0
      go_wp2_with fail
      refine bodyPost_end (v := .tuple #[]) (by simp [results, Tryz.results56, go_sem]) rfl ⟨rfl, O, HU9.out.mono (by simp), fun g hg => Or.inl hg, fun r' hr' => ?_⟩
      rw [HS'.out]
      exact (HJ.out.ext HU9.out).less (by omega)
    | false =>
      have HS' : Hid (s' = s ++ [nm]) := Lib.hid (by rw [HE.out, hcn0]; simp)
      refine wp_region_seg_all [1, 8] [] [0, 1, 2, 3, 4, 5, 6, 7, 8, 9, 10] (by kernel_rfl) (by kernel_rfl) ?_
      with_reducible refine seg_plain (o := ?o21) ?hi21 ?hA21 ?hC21 ?hp21 ?hw21 ?h21
      case hi21 => rfl
      case hA21 => rfl
      case hC21 => rfl
      case hp21 => rfl
      case hw21 => kernel_rfl
      intro K' hK'
      go_big_quiet_op
      go_big_quiet_on
      refine seg_call (f := 57) (args := #[.agg #[.int .i64 op, .slice (some ⟨gn, on, none⟩) nl c1, .int .i64 so, .int .i64 nn, .int .i64 mm, .slice a2 ll c2]]) (v := .bool true) rfl rfl rfl rfl (fun w => by go_simp) (fun w hu hd => HBI.out w) ?_
      simp only [Act.put, List.setIfInBounds_toArray, List.set_cons_zero, List.set_cons_succ]
      with_reducible refine seg_plain (o := ?o22) ?hi22 ?hA22 ?hC22 ?hp22 ?hw22 ?h22
      case hi22 => rfl
      case hA22 => rfl
      case hC22 => rfl
      case hp22 => rfl
      case hw22 => kernel_rfl
      intro K' hK'
      go_big_quiet_op
      go_big_quiet_on
      with_reducible refine seg_plain (o := ?o23) ?hi23 ?hA23 ?hC23 ?hp23 ?hw23 ?h23
      case hi23 => rfl
      case hA23 => rfl
      case hC23 => rfl
      case hp23 => rfl
      case hw23 => kernel_rfl
      intro K' hK'
      go_big_quiet_op
      go_big_quiet_on
      with_reducible refine seg_plain (o := ?o24) ?hi24 ?hA24 ?hC24 ?hp24 ?hw24 ?h24
      case hi24 => rfl
      case hA24 => rfl
      case hC24 => rfl
      case hp24 => rfl
      case hw24 => kernel_rfl
      intro K' hK'
      go_big_quiet_op
      go_big_quiet_on
      with_reducible refine seg_plain (o := ?o25) ?hi25 ?hA25 ?hC25 ?hp25 ?hw25 ?h25
      case hi25 => rfl
      case hA25 => rfl
      case hC25 => rfl
      case hp25 => rfl
      case hw25 => kernel_rfl
      intro K' hK'
      go_big_quiet_op
      go_big_quiet_on
      with_reducible refine seg_plain (o := ?o26) ?hi26 ?hA26 ?hC26 ?hp26 ?hw26 ?h26
      case hi26 => rfl
      case hA26 => rfl
      case hC26 => rfl
      case hp26 => rfl
      case hw26 => kernel_rfl
      intro K' hK'
      go_big_quiet_op
      go_big_quiet_on
      with_reducible refine seg_plain (o := ?o27) ?hi27 ?hA27 ?hC27 ?hp27 ?hw27 ?h27
      case hi27 => rfl
      case hA27 => rfl
      case hC27 => rfl
      case hp27 => rfl
      case hw27 => kernel_rfl
      intro K' hK'
      go_big_quiet_op
      go_big_quiet_on
      with_reducible refine seg_call (o := ?o28) (f := 52) (args := #[.slice va m vc, .string ⟨nm.toArray⟩]) (v := .bool false) ?hi28 ?hA28 ?hC28 ?hw28 ?hr28 (fun w hu hd => (HCO.out w hu nm).mono fun e w' hh => ⟨by rw [hh.1, hcn0], hh.2 ▸ Upto.refl _ _⟩) ?h28
      case hi28 => rfl
      case hA28 => rfl
      case hC28 => rfl
      case hw28 => kernel_rfl
      case hr28 => exact fun w => by go_simp
      simp only [Act.put, List.setIfInBounds_toArray, List.set_cons_zero, List.set_cons_succ]
      with_reducible refine seg_plain (o := ?o29) ?hi29 ?hA29 ?hC29 ?hp29 ?hw29 ?h29
      case hi29 => rfl
      case hA29 => rfl
      case hC29 => rfl
      case hp29 => rfl
      case hw29 => kernel_rfl
      intro K' hK'
      go_big_quiet_op
      go_big_quiet_on
      with_reducible refine seg_plain (o := ?o30) ?hi30 ?hA30 ?hC30 ?hp30 ?hw30 ?h30
      case hi30 => rfl
      case hA30 => rfl
      case hC30 => rfl
      case hp30 => rfl
      case hw30 => kernel_rfl
      intro K' hK'
      go_big_quiet_op
      go_big_quiet_on
      intro w9 hg
      have HU9 := Lib.hid hg.up
      have HBX := Lib.hid (hg.up.at HB1.out (by simp))
      have HBY := Lib.hid (hg.up.at HJB.out (by simp))
      have e7 : ∀ u : Ext w9, u.w.cell? ⟨gn, on, none⟩ = some (.string ⟨nm.toArray⟩) := fun u => hcn u.w (HU9.out.trans_ext u.up)
      clear hg e0 e1 e2 e3 e4 e5 e6 hcn hcn0
      have e1 : ∀ u : Ext w9, u.w.cell? ⟨w.heap.size, 1, none⟩ = some (.slice (some ⟨gn, on, none⟩) nl c1) := fun u => u.cell (cell_of HBX.out 1)
      have e6 : ∀ u : Ext w9, u.w.cell? ⟨B, 0, none⟩ = some (.slice va m vc) := fun u => u.cell (cell_of HBY.out 0)
      go_wp2_with fail
      refine wp_region_seg_at [] [5] [0, 1, 2, 3, 4, 5] [6, 7] 6 (by kernel_rfl) (by kernel_rfl) (by kernel_rfl) ?_
      with_reducible refine seg_plain (o := ?o31) ?hi31 ?hA31 ?hC31 ?hp31 ?hw31 ?h31
      case hi31 => rfl
      case hA31 => rfl
      case hC31 => rfl
      case hp31 => rfl
      case hw31 => kernel_rfl
      intro K' hK'
      go_big_quiet_op
      go_big_quiet_on
      with_reducible refine seg_plain (o := ?o32) ?hi32 ?hA32 ?hC32 ?hp32 ?hw32 ?h32
      case hi32 => rfl
      case hA32 => rfl
      case hC32 => rfl
      case hp32 => rfl
      case hw32 => kernel_rfl
      intro K' hK'
      go_big_quiet_op
      go_big_quiet_on
      with_reducible refine seg_plain (o := ?o33) ?hi33 ?hA33 ?hC33 ?hp33 ?hw33 ?h33
      case hi33 => rfl
      case hA33 => rfl
      case hC33 => rfl
      case hp33 => rfl
      case hw33 => kernel_rfl
      intro K' hK'
      go_big_quiet_op
      go_big_quiet_on
      with_reducible refine seg_plain (o := ?o34) ?hi34 ?hA34 ?hC34 ?hp34 ?hw34 ?h34
      case hi34 => rfl
      case hA34 => rfl
      case hC34 => rfl
      case hp34 => rfl
      case hw34 => kernel_rfl
      intro K' hK'
      go_big_quiet_op
      go_big_quiet_on
      with_reducible refine seg_plain (o := ?o35) ?hi35 ?hA35 ?hC35 ?hp35 ?hw35 ?h35
      case hi35 => rfl
      case hA35 => rfl
      case hC35 => rfl
      case hp35 => rfl
      case hw35 => kernel_rfl
      intro K' hK'
      go_big_quiet_op
      go_big_quiet_on
      refine seg_made (.cells #[.string ⟨nm.toArray⟩] 9) (fun b => .slice (some ⟨b, 0, none⟩) 1 1) rfl rfl rfl (fun w => by go_simp) ?_
      intro b8
      simp only [Act.put, List.setIfInBounds_toArray, List.set_cons_zero, List.set_cons_succ]
      intro wA hg
      have HUA := Lib.hid hg.up
      have HB8 : Hid (wA.heap[b8]? = some (.cells #[.string ⟨nm.toArray⟩] 9 (0, 0))) := Lib.hid hg.hold.1
      have HRA := Lib.hid (ownsRow_upto HJR.out (HU9.out.trans_ext HUA.out) (by simp))
      simp only [List.drop_succ_cons, List.drop_zero]
      have hrow := HRA.out
      rw [← HJM.out] at hrow
      have hsrc := cells_at (l := [sV nm]) HB8.out
      clear hg e1 e6 e7
      go_wp2_with (at_builtin; refine wpList_app _ rfl (.tmp 14) (.tmp 19) 22 rfl 9 i0 (.string ⟨#[]⟩) 1 16 Tryz.underlying22 HI0.out HZ0.out HZ1.out HZ2.out rfl (by decide) (.slice va m vc) m _ rfl hrow ⟨b8, 0, none⟩ 1 1 [sV nm] rfl rfl hsrc (by simp [Value.oneCell', sV]) (by unfold maxLen; omega) (by omega) ?_; intro vb vd w5 ho5 hu5 hw5; have HO5 := Lib.hid (And.intro ho5 (And.intro hu5 hw5)); have HBN : Hid (B ∉ (Value.slice va m vc).ownBlock.toList) := Lib.hid (fun hm => by have h1 := HJS.out.2.2 B (by rw [HJO.out]; exact hm); have h2 := HJS.out.1; omega); have HB5 := Lib.hid (hu5.at (HUA.out.at HBY.out (by simp)) HBN.out); have y0 := cell_of HB5.out 0; have f0 := free_of HB5.out 0; simp only [List.getElem?_toArray, List.getElem?_cons_zero] at y0; clear hrow hsrc ho5 hu5 hw5)
      have hst := set_same HB5.out 0 (.slice vb (m + 1) vd)
      simp only [List.setIfInBounds_toArray, List.set_cons_zero] at hst
      have hself : Upto [B] w5 (w5.setCell ⟨B, 0, none⟩ (.slice vb (m + 1) vd)) := (Upto.refl [B] w5).setCell (Or.inl (by simp)) _
      have hA : Upto O w w5 := ((HU1.out.trans_ext (HU9.out.trans_ext HUA.out)).mono (by simp)).trans HO5.out.2.1 (fun k hk => Or.inl (by rw [HJO.out]; exact hk))
      have hwh : ∀ g, (Value.slice vb (m + 1) vd).ownBlock = some g → g ∈ O ∨ w.heap.size ≤ g := fun g hg => (HO5.out.2.2 g hg).imp (fun h1 => by rw [HJO.out]; exact Option.mem_toList.2 h1) (fun h1 => Nat.le_trans (HU1.out.trans_ext (HU9.out.trans_ext HUA.out)).size h1)
      have hBne : ∀ g, (Value.slice vb (m + 1) vd).ownBlock = some g → g ∉ [B] := fun g hg hm => by
        have hB2 := HJS.out.1
        have hB3 := HJS.out.2.1
        simp at hm
        rcases hwh g hg with h1 | h1
        · have := HJS.out.2.2 g h1; omega
        · omega
      refine bodyPost_end (v := .tuple #[]) (by simp [results, Tryz.results56, go_sem]) rfl ⟨rfl, (Value.slice vb (m + 1) vd).ownBlock.toList, ?_, fun g hg => hwh g (Option.mem_toList.1 hg), fun r' hr' => ?_⟩
      · exact (hA.mono (fun k hk => by simp [hk])).trans hself (fun k hk => Or.inl (by simp at hk; simp [hk]))
      · rw [HS'.out]
        refine ⟨vb, m + 1, vd, hst, ?_, by rw [List.length_append, HJM.out]; rfl, rfl, ?_, fun g hg => ?_, ?_⟩
        · have h1 := ownsRow_upto HO5.out.1 hself hBne
          rw [List.length_append, List.map_append, ← HJM.out]
          exact h1
        · exact Nat.le_trans HJS.out.2.1 (Nat.le_trans hA.size hself.size)
        · rcases hwh g (Option.mem_toList.1 hg) with h1 | h1
          · exact HJS.out.2.2 g h1
          · exact Nat.le_trans HJS.out.2.1 h1
        · have := HJL.out
          rw [List.length_append]
          simp
          omega
end Go.Proofs.YtbnebkkpmcjmbaaGreatDoor


namespace Go.Proofs.YtbnebkkpmcjmbaaGreatDoor
open Go.RowKit Go.PL Go.Maps
set_option maxRecDepth 100000 in
set_option maxHeartbeats 3200000 in
theorem Bound_calls (nd : Nd) (v : Value) (w : World) (P : Nat → Prop) (h : NdV w P nd v) (hk : sizeF nd ≤ 100000) (hg : goodN nd) : Calls Tryz.prog 20 #[v] w (FqPost w (boundP nd [])) := by
  obtain ⟨op, a1, n1, c1, so, nn, mm, a2, n2, c2, rfl⟩ := h.six
  obtain ⟨W, hW⟩ : ∃ W, W = (w.alloc (.cells #[.int .i64 op, .slice a1 n1 c1, .int .i64 so, .int .i64 nn, .int .i64 mm, .slice a2 n2 c2] 30)).alloc (.cells #[.slice none 0 0] 22) := ⟨_, rfl⟩
  have HU1 : Hid (Upto [] w W) := Lib.hid (by rw [hW]; exact ((Upto.refl [] w).alloc _).alloc _)
  have HB1 : Hid (W.heap[w.heap.size]? = some (.cells #[.int .i64 op, .slice a1 n1 c1, .int .i64 so, .int .i64 nn, .int .i64 mm, .slice a2 n2 c2] 30 (0, 0))) := Lib.hid (by rw [hW]; exact alloc_old (new_at w _) _)
  have HB2 : Hid (W.heap[w.heap.size + 1]? = some (.cells #[.slice none 0 0] 22 (0, 0))) := Lib.hid (by rw [hW]; exact new_at1 w _ _)
  have HLT := Lib.hid (lt_of_heap HB2.out)
  have HW := Lib.hid (walkB_calls (.pointer (some ⟨w.heap.size + 1, 0, none⟩)) bStep W [w.heap.size + 1] (fun b => b < w.heap.size) (BoJ W (w.heap.size + 1)) (fun b hb => ⟨Nat.lt_of_lt_of_le hb HU1.out.size, by simp; omega⟩) (fun g hg => by simp at hg; subst hg; exact HLT.out)
    (fun _ _ _ _ hJ => hJ.one) (fun _ _ _ _ _ hJ hu => hJ.ext hu) (fun s r O u x v hJ _ hv => bclos_calls W (w.heap.size + 1) HLT.out s (r + sizeF x) O u _ x v (by have := sizeF_pos x; omega) hJ hv)
    100000 nd hk (by omega) hg _ [] 0 [] W ⟨none, 0, 0, HB2.out, by simpa using World.ownsRow_nil W 0 9 1, rfl, rfl, Nat.le_refl _, by simp, by simp; omega⟩ (h.here.ext HU1.out))
  obtain ⟨x0, x1, x2, x3, x4, x5⟩ := cells6 HB1.out
  clear h
  go_enter Tryz.func20, Tryz.ntmps20
  go_wp2_with fail
  simp only [← hW]
  clear hW
  try go_wp2_with fail
  refine HW.out.mono ?_
  rintro e w2 ⟨rfl, O', hj, hu, -⟩
  rw [boundP_walk] at hj
  obtain ⟨va, m, vc, j1, j2, j3, j4, j5, j6, j7⟩ := hj
  have HU2 : Hid (Upto [] w w2) := Lib.hid (HU1.out.trans hu (fun k hk => Or.inr (by simp at hk; omega)))
  have HS : Hid (RowW w (boundP nd []) (.slice va m vc) w2) := Lib.hid ⟨SlP.of_row j2 (fun g hg => Nat.le_trans HU1.out.size (j6 g (by rw [j4]; exact Option.mem_toList.2 hg))), HU2.out⟩
  have z0 := cell_of j1 0
  simp only [List.getElem?_toArray, List.getElem?_cons_zero] at z0
  clear j1 j2 j3 j4 j5 j6 j7 hu x0 x1 x2 x3 x4 x5
  go_wp2_with fail
  go_ret
  exact ⟨_, rfl, HS.out⟩
end Go.Proofs.YtbnebkkpmcjmbaaGreatDoor

