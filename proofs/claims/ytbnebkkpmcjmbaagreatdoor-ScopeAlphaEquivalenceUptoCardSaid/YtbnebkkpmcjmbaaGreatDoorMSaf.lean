/- Texts merged, in build order: Z7, Z8, Z9, Z10, Z11, Z12, Z13, Kf, Kg, Zc, Kl, Km, Gl, Uq, Ue, Wb, Wd, Va, Wk, Xa, Wg. -/
import Derived.Test.YtbnebkkpmcjmbaaGreatDoorMSae
import Derived.Test.YtbnebkkpmcjmbaaGreatDoorRows
import Derived.WalkKit
import Derived.WalkSpells
import Derived.WalkLawsBesides
import Derived.Maps.OwnSet
import Derived.Lib.Hide
import Derived.Laws.BytesArg
import Derived.Deep.QuietTactic
import Derived.BigQuiet
import Derived.Test.YtbnebkkpmcjmbaaGreatDoorProg
import Derived.Shelf.Small.Strs
import Derived.Shelf.LaysM
import Derived.Shelf.Strings.SplitShaped
import Derived.Deep.DeepCutAuto
import Derived.Deep.CutBlock
import Derived.Lib.Strings
import Derived.Lib.Walk
import Derived.Lib.ConvBytes
import Derived.Lib.ParseIntBMem
import Derived.Lib.AtoiErrMem
import Derived.Lib.BufferWrite
import Derived.Lib.UnsafeStr
import Derived.Lib.IfaceEq
import Derived.Laws.MakeOwn
import Derived.Laws.Strings3
import Derived.Laws.Closers25
import Derived.Laws.Closers25b
import Derived.RegionTactic
import Derived.Deep.RegionWith
import Derived.BigCall
import Derived.BigGuard
import Derived.Lib.AppendIntMem
import Derived.Carry
import Derived.OrdersHeld
import Derived.Deep.RegionHeld3
import Derived.Shelf.Strconv.Itoa3
import Derived.Shelf.Slices.Turned
import Derived.Shelf.Slices.Clone
import Derived.Deep.RegionLaw
import Derived.Lib.ItoaNum
import Derived.RangeFuncNested
import Derived.RangeFuncBound
import Derived.RangeFuncCalls
import Derived.RangeFuncLeaves
import Derived.RangeFuncBox
import Derived.Shelf.Abstract
import Derived.OwnWalkIn
import Derived.TacticsInMore
import Derived.LoopNIn
import Derived.LoopIn
import Derived.Laws.EntriesVeiled
import Derived.Laws.AppendOwn
import Derived.Test.YtbnebkkpmcjmbaaGreatDoorCards
import Derived.Test.YtbnebkkpmcjmbaaGreatDoorTie
import Derived.ProofKit
import Derived.OpenShut
import Derived.Deep.DeepHandedRow
import Derived.Deep.Slices
import Derived.Lay
import Derived.ChangeCalls
import Derived.LaidSub
import Derived.MakeChecks
import Derived.LaidLaws
import Derived.Lib.LaidTab
import Derived.Shelf.SlMaps.Clone
namespace Go.Proofs.YtbnebkkpmcjmbaaGreatDoor
open Go.RowKit Go.PL Go.Maps
set_option maxRecDepth 100000 in
set_option maxHeartbeats 6400000 in
theorem has_7a (so nn mm : Int) (nms : List (List UInt8)) (l : List Nd) (hin : inN 10000000 (.mk 7 nms so nn mm l)) (v : Value) (w : World) (P : Nat → Prop) (h : NdV w P (.mk 7 nms so nn mm l) v) (he : Env w) (hf : FEnv w) (hk0 : (0 : Int) ≤ 7) (_hk1 : (7 : Int) ≤ 17) (hsb : shapeBad 7 nms.length l.length = false) (hall : nms.all identF = true) (hz : so ≠ 0) : Calls Tryz.prog 91 #[v] w fun e w' => e = .returned (.bool false) ∧ Upto [] w w' := by
  obtain ⟨a1, c1, a2, c2, rfl, hs, hg⟩ := h.open
  unfold inN at hin
  obtain ⟨a1', c1', ev, hnm⟩ := hs.get
  obtain ⟨rfl, rfl⟩ : a1 = a1' ∧ c1 = c1' := by simpa using ev
  have hu1 : Upto [] w (w.alloc (.cells #[.int .i64 7, .slice a1 nms.length c1, .int .i64 so, .int .i64 nn, .int .i64 mm, .slice a2 l.length c2] 30)) := (Upto.refl [] w).alloc _
  have hll := hin.2.2.1
  have hnl := hin.1
  have HCF := Lib.hid (fun u (hu : Upto [] w u) => containsf_calls nms a1 c1 u (he.ext hu) hnl hin.2.1 (fun i x hi => by
    obtain ⟨g, o, e1, e2⟩ := hnm i _ (by rw [List.getElem?_map, hi]; rfl)
    exact ⟨g, o, e1, (hu.cell (p := ⟨g, o + i, none⟩) (World.block_lt_of_cell? w _ e2) (by simp)).trans e2⟩))
  have hL0 : (0 : Int) ≤ l.length := by omega
  have hL1 : (l.length : Int) ≤ 10000000 := by omega
  have hN0 : (0 : Int) ≤ nms.length := by omega
  have hN1 : (nms.length : Int) ≤ 10000000 := by omega
  obtain ⟨a, b, c, habc, ha17, hb17, hc17⟩ : ∃ a b c : Nat, hasF 7 = (a, b, c) ∧ a ≤ 17 ∧ b ≤ 17 ∧ c ≤ 17 := by
    unfold hasF
    repeat' split
    all_goals exact ⟨_, _, _, rfl, by decide, by decide, by decide⟩
  obtain ⟨t0, t1, t2, t3⟩ := (hf.ext hu1).at_ 7 (by omega)
  try simp only [Nat.reduceMul, Nat.reduceAdd] at t0 t1 t2 t3
  rw [show hasF (7 : Nat) = (a, b, c) from habc] at t0 t1 t2
  simp only at t0 t1 t2
  have ha0 : (0 : Int) ≤ a := by omega
  have hb0 : (0 : Int) ≤ b := by omega
  have hc0 : (0 : Int) ≤ c := by omega
  have ha1 : (a : Int) ≤ 17 := by omega
  have hb1 : (b : Int) ≤ 17 := by omega
  have hc1 : (c : Int) ≤ 17 := by omega
  obtain ⟨hs0, hs1, hs2⟩ : ¬ nms.length < a ∧ ¬ b < nms.length ∧ l.length = c := by
    unfold shapeBad at hsb
    rw [habc] at hsb
    simp at hsb
    omega
  have q0 : ¬ (nms.length : Int) < a := by omega
  have q1 : ¬ (b : Int) < nms.length := by omega
  have q2 : ((l.length : Int) == (c : Int)) = true := by rw [hs2, beq_iff_eq]
  have q2b : ((l.length : Int) != (c : Int)) = false := by rw [bne, q2]; rfl
  have HB1 := Lib.hid (new_at w (.cells #[.int .i64 7, .slice a1 nms.length c1, .int .i64 so, .int .i64 nn, .int .i64 mm, .slice a2 l.length c2] 30))
  have HU1 := Lib.hid hu1
  have hb := new_at w (.cells #[.int .i64 7, .slice a1 nms.length c1, .int .i64 so, .int .i64 nn, .int .i64 mm, .slice a2 l.length c2] 30)
  obtain ⟨y0, y1, y2, y3, y4, y5⟩ := cells6 hb

  rw [hall] at HCF
  have HBF := Lib.hid (new_at1 w (.cells #[.int .i64 7, .slice a1 nms.length c1, .int .i64 so, .int .i64 nn, .int .i64 mm, .slice a2 l.length c2] 30) (.cells #[.int .i64 a, .int .i64 b, .int .i64 c, .bool false] 136))
  have HU2 : Hid (Upto [] w ((w.alloc (.cells #[.int .i64 7, .slice a1 nms.length c1, .int .i64 so, .int .i64 nn, .int .i64 mm, .slice a2 l.length c2] 30)).alloc (.cells #[.int .i64 a, .int .i64 b, .int .i64 c, .bool false] 136))) := Lib.hid (hu1.alloc _)
  have HBO := Lib.hid (alloc_old hb (.cells #[.int .i64 a, .int .i64 b, .int .i64 c, .bool false] 136))
  have eso0 : (so == (0 : Int)) = false := by rw [beq_eq_false_iff_ne]; exact hz
  have fso0 : (so != (0 : Int)) = true := by rw [bne, eso0]; rfl
  clear habc hsb hall h hs hg hu1 hnm ev hin hb hs2 he hf
  go_enter Tryz.func91, Tryz.ntmps91
  go_wp2_with fail
  refine (HCF.out _ HU2.out).mono ?_
  rintro e w5 ⟨rfl, hu5⟩
  have HU5 := Lib.hid (HU2.out.trans_ext hu5)
  have hb5 := hu5.at HBO.out (by simp)
  have hf5 := hu5.at HBF.out (by simp)
  have z0 := cell_of hb5 0
  have z1 := cell_of hb5 1
  have z2 := cell_of hb5 2
  have z3 := cell_of hb5 3
  have z4 := cell_of hb5 4
  have z5 := cell_of hb5 5
  have x3 := cell_of hf5 3
  simp only [List.getElem?_toArray, List.getElem?_cons_zero, List.getElem?_cons_succ] at z0 z1 z2 z3 z4 z5 x3
  clear hu5 hb5 hf5 y0 y1 y2 y3 y4 y5 t0 t1 t2 t3
  go_wp2_with fail
  go_ret
  exact ⟨rfl, HU5.out⟩

set_option maxRecDepth 100000 in
set_option maxHeartbeats 6400000 in
theorem has_7b (nn mm : Int) (nms : List (List UInt8)) (l : List Nd) (hin : inN 10000000 (.mk 7 nms 0 nn mm l)) (v : Value) (w : World) (P : Nat → Prop) (h : NdV w P (.mk 7 nms 0 nn mm l) v) (he : Env w) (hf : FEnv w) (hk0 : (0 : Int) ≤ 7) (_hk1 : (7 : Int) ≤ 17) (hsb : shapeBad 7 nms.length l.length = false) (hall : nms.all identF = true) (hz : mm ≠ 0) : Calls Tryz.prog 91 #[v] w fun e w' => e = .returned (.bool false) ∧ Upto [] w w' := by
  obtain ⟨a1, c1, a2, c2, rfl, hs, hg⟩ := h.open
  unfold inN at hin
  obtain ⟨a1', c1', ev, hnm⟩ := hs.get
  obtain ⟨rfl, rfl⟩ : a1 = a1' ∧ c1 = c1' := by simpa using ev
  have hu1 : Upto [] w (w.alloc (.cells #[.int .i64 7, .slice a1 nms.length c1, .int .i64 0, .int .i64 nn, .int .i64 mm, .slice a2 l.length c2] 30)) := (Upto.refl [] w).alloc _
  have hll := hin.2.2.1
  have hnl := hin.1
  have HCF := Lib.hid (fun u (hu : Upto [] w u) => containsf_calls nms a1 c1 u (he.ext hu) hnl hin.2.1 (fun i x hi => by
    obtain ⟨g, o, e1, e2⟩ := hnm i _ (by rw [List.getElem?_map, hi]; rfl)
    exact ⟨g, o, e1, (hu.cell (p := ⟨g, o + i, none⟩) (World.block_lt_of_cell? w _ e2) (by simp)).trans e2⟩))
  have hL0 : (0 : Int) ≤ l.length := by omega
  have hL1 : (l.length : Int) ≤ 10000000 := by omega
  have hN0 : (0 : Int) ≤ nms.length := by omega
  have hN1 : (nms.length : Int) ≤ 10000000 := by omega
  obtain ⟨a, b, c, habc, ha17, hb17, hc17⟩ : ∃ a b c : Nat, hasF 7 = (a, b, c) ∧ a ≤ 17 ∧ b ≤ 17 ∧ c ≤ 17 := by
    unfold hasF
    repeat' split
    all_goals exact ⟨_, _, _, rfl, by decide, by decide, by decide⟩
  obtain ⟨t0, t1, t2, t3⟩ := (hf.ext hu1).at_ 7 (by omega)
  try simp only [Nat.reduceMul, Nat.reduceAdd] at t0 t1 t2 t3
  rw [show hasF (7 : Nat) = (a, b, c) from habc] at t0 t1 t2
  simp only at t0 t1 t2
  have ha0 : (0 : Int) ≤ a := by omega
  have hb0 : (0 : Int) ≤ b := by omega
  have hc0 : (0 : Int) ≤ c := by omega
  have ha1 : (a : Int) ≤ 17 := by omega
  have hb1 : (b : Int) ≤ 17 := by omega
  have hc1 : (c : Int) ≤ 17 := by omega
  obtain ⟨hs0, hs1, hs2⟩ : ¬ nms.length < a ∧ ¬ b < nms.length ∧ l.length = c := by
    unfold shapeBad at hsb
    rw [habc] at hsb
    simp at hsb
    omega
  have q0 : ¬ (nms.length : Int) < a := by omega
  have q1 : ¬ (b : Int) < nms.length := by omega
  have q2 : ((l.length : Int) == (c : Int)) = true := by rw [hs2, beq_iff_eq]
  have q2b : ((l.length : Int) != (c : Int)) = false := by rw [bne, q2]; rfl
  have HB1 := Lib.hid (new_at w (.cells #[.int .i64 7, .slice a1 nms.length c1, .int .i64 0, .int .i64 nn, .int .i64 mm, .slice a2 l.length c2] 30))
  have HU1 := Lib.hid hu1
  have hb := new_at w (.cells #[.int .i64 7, .slice a1 nms.length c1, .int .i64 0, .int .i64 nn, .int .i64 mm, .slice a2 l.length c2] 30)
  obtain ⟨y0, y1, y2, y3, y4, y5⟩ := cells6 hb

  rw [hall] at HCF
  have HBF := Lib.hid (new_at1 w (.cells #[.int .i64 7, .slice a1 nms.length c1, .int .i64 0, .int .i64 nn, .int .i64 mm, .slice a2 l.length c2] 30) (.cells #[.int .i64 a, .int .i64 b, .int .i64 c, .bool false] 136))
  have HU2 : Hid (Upto [] w ((w.alloc (.cells #[.int .i64 7, .slice a1 nms.length c1, .int .i64 0, .int .i64 nn, .int .i64 mm, .slice a2 l.length c2] 30)).alloc (.cells #[.int .i64 a, .int .i64 b, .int .i64 c, .bool false] 136))) := Lib.hid (hu1.alloc _)
  have HBO := Lib.hid (alloc_old hb (.cells #[.int .i64 a, .int .i64 b, .int .i64 c, .bool false] 136))
  have emm0 : (mm == (0 : Int)) = false := by rw [beq_eq_false_iff_ne]; exact hz
  have fmm0 : (mm != (0 : Int)) = true := by rw [bne, emm0]; rfl
  clear habc hsb hall h hs hg hu1 hnm ev hin hb hs2 he hf
  go_enter Tryz.func91, Tryz.ntmps91
  go_wp2_with fail
  refine (HCF.out _ HU2.out).mono ?_
  rintro e w5 ⟨rfl, hu5⟩
  have HU5 := Lib.hid (HU2.out.trans_ext hu5)
  have hb5 := hu5.at HBO.out (by simp)
  have hf5 := hu5.at HBF.out (by simp)
  have z0 := cell_of hb5 0
  have z1 := cell_of hb5 1
  have z2 := cell_of hb5 2
  have z3 := cell_of hb5 3
  have z4 := cell_of hb5 4
  have z5 := cell_of hb5 5
  have x3 := cell_of hf5 3
  simp only [List.getElem?_toArray, List.getElem?_cons_zero, List.getElem?_cons_succ] at z0 z1 z2 z3 z4 z5 x3
  clear hu5 hb5 hf5 y0 y1 y2 y3 y4 y5 t0 t1 t2 t3
  go_wp2_with fail
  go_ret
  exact ⟨rfl, HU5.out⟩

set_option maxRecDepth 100000 in
set_option maxHeartbeats 6400000 in
theorem has_7g (nn : Int) (nms : List (List UInt8)) (l : List Nd) (hin : inN 10000000 (.mk 7 nms 0 nn 0 l)) (v : Value) (w : World) (P : Nat → Prop) (h : NdV w P (.mk 7 nms 0 nn 0 l) v) (he : Env w) (hf : FEnv w) (hk0 : (0 : Int) ≤ 7) (_hk1 : (7 : Int) ≤ 17) (hsb : shapeBad 7 nms.length l.length = false) (hall : nms.all identF = true) : Calls Tryz.prog 91 #[v] w fun e w' => e = .returned (.bool true) ∧ Upto [] w w' := by
  obtain ⟨a1, c1, a2, c2, rfl, hs, hg⟩ := h.open
  unfold inN at hin
  obtain ⟨a1', c1', ev, hnm⟩ := hs.get
  obtain ⟨rfl, rfl⟩ : a1 = a1' ∧ c1 = c1' := by simpa using ev
  have hu1 : Upto [] w (w.alloc (.cells #[.int .i64 7, .slice a1 nms.length c1, .int .i64 0, .int .i64 nn, .int .i64 0, .slice a2 l.length c2] 30)) := (Upto.refl [] w).alloc _
  have hll := hin.2.2.1
  have hnl := hin.1
  have HCF := Lib.hid (fun u (hu : Upto [] w u) => containsf_calls nms a1 c1 u (he.ext hu) hnl hin.2.1 (fun i x hi => by
    obtain ⟨g, o, e1, e2⟩ := hnm i _ (by rw [List.getElem?_map, hi]; rfl)
    exact ⟨g, o, e1, (hu.cell (p := ⟨g, o + i, none⟩) (World.block_lt_of_cell? w _ e2) (by simp)).trans e2⟩))
  have hL0 : (0 : Int) ≤ l.length := by omega
  have hL1 : (l.length : Int) ≤ 10000000 := by omega
  have hN0 : (0 : Int) ≤ nms.length := by omega
  have hN1 : (nms.length : Int) ≤ 10000000 := by omega
  obtain ⟨a, b, c, habc, ha17, hb17, hc17⟩ : ∃ a b c : Nat, hasF 7 = (a, b, c) ∧ a ≤ 17 ∧ b ≤ 17 ∧ c ≤ 17 := by
    unfold hasF
    repeat' split
    all_goals exact ⟨_, _, _, rfl, by decide, by decide, by decide⟩
  obtain ⟨t0, t1, t2, t3⟩ := (hf.ext hu1).at_ 7 (by omega)
  try simp only [Nat.reduceMul, Nat.reduceAdd] at t0 t1 t2 t3
  rw [show hasF (7 : Nat) = (a, b, c) from habc] at t0 t1 t2
  simp only at t0 t1 t2
  have ha0 : (0 : Int) ≤ a := by omega
  have hb0 : (0 : Int) ≤ b := by omega
  have hc0 : (0 : Int) ≤ c := by omega
  have ha1 : (a : Int) ≤ 17 := by omega
  have hb1 : (b : Int) ≤ 17 := by omega
  have hc1 : (c : Int) ≤ 17 := by omega
  obtain ⟨hs0, hs1, hs2⟩ : ¬ nms.length < a ∧ ¬ b < nms.length ∧ l.length = c := by
    unfold shapeBad at hsb
    rw [habc] at hsb
    simp at hsb
    omega
  have q0 : ¬ (nms.length : Int) < a := by omega
  have q1 : ¬ (b : Int) < nms.length := by omega
  have q2 : ((l.length : Int) == (c : Int)) = true := by rw [hs2, beq_iff_eq]
  have q2b : ((l.length : Int) != (c : Int)) = false := by rw [bne, q2]; rfl
  have HB1 := Lib.hid (new_at w (.cells #[.int .i64 7, .slice a1 nms.length c1, .int .i64 0, .int .i64 nn, .int .i64 0, .slice a2 l.length c2] 30))
  have HU1 := Lib.hid hu1
  have hb := new_at w (.cells #[.int .i64 7, .slice a1 nms.length c1, .int .i64 0, .int .i64 nn, .int .i64 0, .slice a2 l.length c2] 30)
  obtain ⟨y0, y1, y2, y3, y4, y5⟩ := cells6 hb

  rw [hall] at HCF
  have HBF := Lib.hid (new_at1 w (.cells #[.int .i64 7, .slice a1 nms.length c1, .int .i64 0, .int .i64 nn, .int .i64 0, .slice a2 l.length c2] 30) (.cells #[.int .i64 a, .int .i64 b, .int .i64 c, .bool false] 136))
  have HU2 : Hid (Upto [] w ((w.alloc (.cells #[.int .i64 7, .slice a1 nms.length c1, .int .i64 0, .int .i64 nn, .int .i64 0, .slice a2 l.length c2] 30)).alloc (.cells #[.int .i64 a, .int .i64 b, .int .i64 c, .bool false] 136))) := Lib.hid (hu1.alloc _)
  have HBO := Lib.hid (alloc_old hb (.cells #[.int .i64 a, .int .i64 b, .int .i64 c, .bool false] 136))

  clear habc hsb hall h hs hg hu1 hnm ev hin hb hs2 he hf
  go_enter Tryz.func91, Tryz.ntmps91
  go_wp2_with fail
  refine (HCF.out _ HU2.out).mono ?_
  rintro e w5 ⟨rfl, hu5⟩
  have HU5 := Lib.hid (HU2.out.trans_ext hu5)
  have hb5 := hu5.at HBO.out (by simp)
  have hf5 := hu5.at HBF.out (by simp)
  have z0 := cell_of hb5 0
  have z1 := cell_of hb5 1
  have z2 := cell_of hb5 2
  have z3 := cell_of hb5 3
  have z4 := cell_of hb5 4
  have z5 := cell_of hb5 5
  have x3 := cell_of hf5 3
  simp only [List.getElem?_toArray, List.getElem?_cons_zero, List.getElem?_cons_succ] at z0 z1 z2 z3 z4 z5 x3
  clear hu5 hb5 hf5 y0 y1 y2 y3 y4 y5 t0 t1 t2 t3
  go_wp2_with fail
  go_ret
  exact ⟨rfl, HU5.out⟩

set_option maxRecDepth 100000 in
set_option maxHeartbeats 6400000 in
theorem has_8a (so nn mm : Int) (nms : List (List UInt8)) (l : List Nd) (hin : inN 10000000 (.mk 8 nms so nn mm l)) (v : Value) (w : World) (P : Nat → Prop) (h : NdV w P (.mk 8 nms so nn mm l) v) (he : Env w) (hf : FEnv w) (hk0 : (0 : Int) ≤ 8) (_hk1 : (8 : Int) ≤ 17) (hsb : shapeBad 8 nms.length l.length = false) (hall : nms.all identF = true) (hz : so ≠ 0) : Calls Tryz.prog 91 #[v] w fun e w' => e = .returned (.bool false) ∧ Upto [] w w' := by
  obtain ⟨a1, c1, a2, c2, rfl, hs, hg⟩ := h.open
  unfold inN at hin
  obtain ⟨a1', c1', ev, hnm⟩ := hs.get
  obtain ⟨rfl, rfl⟩ : a1 = a1' ∧ c1 = c1' := by simpa using ev
  have hu1 : Upto [] w (w.alloc (.cells #[.int .i64 8, .slice a1 nms.length c1, .int .i64 so, .int .i64 nn, .int .i64 mm, .slice a2 l.length c2] 30)) := (Upto.refl [] w).alloc _
  have hll := hin.2.2.1
  have hnl := hin.1
  have HCF := Lib.hid (fun u (hu : Upto [] w u) => containsf_calls nms a1 c1 u (he.ext hu) hnl hin.2.1 (fun i x hi => by
    obtain ⟨g, o, e1, e2⟩ := hnm i _ (by rw [List.getElem?_map, hi]; rfl)
    exact ⟨g, o, e1, (hu.cell (p := ⟨g, o + i, none⟩) (World.block_lt_of_cell? w _ e2) (by simp)).trans e2⟩))
  have hL0 : (0 : Int) ≤ l.length := by omega
  have hL1 : (l.length : Int) ≤ 10000000 := by omega
  have hN0 : (0 : Int) ≤ nms.length := by omega
  have hN1 : (nms.length : Int) ≤ 10000000 := by omega
  obtain ⟨a, b, c, habc, ha17, hb17, hc17⟩ : ∃ a b c : Nat, hasF 8 = (a, b, c) ∧ a ≤ 17 ∧ b ≤ 17 ∧ c ≤ 17 := by
    unfold hasF
    repeat' split
    all_goals exact ⟨_, _, _, rfl, by decide, by decide, by decide⟩
  obtain ⟨t0, t1, t2, t3⟩ := (hf.ext hu1).at_ 8 (by omega)
  try simp only [Nat.reduceMul, Nat.reduceAdd] at t0 t1 t2 t3
  rw [show hasF (8 : Nat) = (a, b, c) from habc] at t0 t1 t2
  simp only at t0 t1 t2
  have ha0 : (0 : Int) ≤ a := by omega
  have hb0 : (0 : Int) ≤ b := by omega
  have hc0 : (0 : Int) ≤ c := by omega
  have ha1 : (a : Int) ≤ 17 := by omega
  have hb1 : (b : Int) ≤ 17 := by omega
  have hc1 : (c : Int) ≤ 17 := by omega
  obtain ⟨hs0, hs1, hs2⟩ : ¬ nms.length < a ∧ ¬ b < nms.length ∧ l.length = c := by
    unfold shapeBad at hsb
    rw [habc] at hsb
    simp at hsb
    omega
  have q0 : ¬ (nms.length : Int) < a := by omega
  have q1 : ¬ (b : Int) < nms.length := by omega
  have q2 : ((l.length : Int) == (c : Int)) = true := by rw [hs2, beq_iff_eq]
  have q2b : ((l.length : Int) != (c : Int)) = false := by rw [bne, q2]; rfl
  have HB1 := Lib.hid (new_at w (.cells #[.int .i64 8, .slice a1 nms.length c1, .int .i64 so, .int .i64 nn, .int .i64 mm, .slice a2 l.length c2] 30))
  have HU1 := Lib.hid hu1
  have hb := new_at w (.cells #[.int .i64 8, .slice a1 nms.length c1, .int .i64 so, .int .i64 nn, .int .i64 mm, .slice a2 l.length c2] 30)
  obtain ⟨y0, y1, y2, y3, y4, y5⟩ := cells6 hb

  rw [hall] at HCF
  have HBF := Lib.hid (new_at1 w (.cells #[.int .i64 8, .slice a1 nms.length c1, .int .i64 so, .int .i64 nn, .int .i64 mm, .slice a2 l.length c2] 30) (.cells #[.int .i64 a, .int .i64 b, .int .i64 c, .bool false] 136))
  have HU2 : Hid (Upto [] w ((w.alloc (.cells #[.int .i64 8, .slice a1 nms.length c1, .int .i64 so, .int .i64 nn, .int .i64 mm, .slice a2 l.length c2] 30)).alloc (.cells #[.int .i64 a, .int .i64 b, .int .i64 c, .bool false] 136))) := Lib.hid (hu1.alloc _)
  have HBO := Lib.hid (alloc_old hb (.cells #[.int .i64 a, .int .i64 b, .int .i64 c, .bool false] 136))
  have eso0 : (so == (0 : Int)) = false := by rw [beq_eq_false_iff_ne]; exact hz
  have fso0 : (so != (0 : Int)) = true := by rw [bne, eso0]; rfl
  clear habc hsb hall h hs hg hu1 hnm ev hin hb hs2 he hf
  go_enter Tryz.func91, Tryz.ntmps91
  go_wp2_with fail
  refine (HCF.out _ HU2.out).mono ?_
  rintro e w5 ⟨rfl, hu5⟩
  have HU5 := Lib.hid (HU2.out.trans_ext hu5)
  have hb5 := hu5.at HBO.out (by simp)
  have hf5 := hu5.at HBF.out (by simp)
  have z0 := cell_of hb5 0
  have z1 := cell_of hb5 1
  have z2 := cell_of hb5 2
  have z3 := cell_of hb5 3
  have z4 := cell_of hb5 4
  have z5 := cell_of hb5 5
  have x3 := cell_of hf5 3
  simp only [List.getElem?_toArray, List.getElem?_cons_zero, List.getElem?_cons_succ] at z0 z1 z2 z3 z4 z5 x3
  clear hu5 hb5 hf5 y0 y1 y2 y3 y4 y5 t0 t1 t2 t3
  go_wp2_with fail
  go_ret
  exact ⟨rfl, HU5.out⟩

set_option maxRecDepth 100000 in
set_option maxHeartbeats 6400000 in
theorem has_8g (nn mm : Int) (nms : List (List UInt8)) (l : List Nd) (hin : inN 10000000 (.mk 8 nms 0 nn mm l)) (v : Value) (w : World) (P : Nat → Prop) (h : NdV w P (.mk 8 nms 0 nn mm l) v) (he : Env w) (hf : FEnv w) (hk0 : (0 : Int) ≤ 8) (_hk1 : (8 : Int) ≤ 17) (hsb : shapeBad 8 nms.length l.length = false) (hall : nms.all identF = true) : Calls Tryz.prog 91 #[v] w fun e w' => e = .returned (.bool true) ∧ Upto [] w w' := by
  obtain ⟨a1, c1, a2, c2, rfl, hs, hg⟩ := h.open
  unfold inN at hin
  obtain ⟨a1', c1', ev, hnm⟩ := hs.get
  obtain ⟨rfl, rfl⟩ : a1 = a1' ∧ c1 = c1' := by simpa using ev
  have hu1 : Upto [] w (w.alloc (.cells #[.int .i64 8, .slice a1 nms.length c1, .int .i64 0, .int .i64 nn, .int .i64 mm, .slice a2 l.length c2] 30)) := (Upto.refl [] w).alloc _
  have hll := hin.2.2.1
  have hnl := hin.1
  have HCF := Lib.hid (fun u (hu : Upto [] w u) => containsf_calls nms a1 c1 u (he.ext hu) hnl hin.2.1 (fun i x hi => by
    obtain ⟨g, o, e1, e2⟩ := hnm i _ (by rw [List.getElem?_map, hi]; rfl)
    exact ⟨g, o, e1, (hu.cell (p := ⟨g, o + i, none⟩) (World.block_lt_of_cell? w _ e2) (by simp)).trans e2⟩))
  have hL0 : (0 : Int) ≤ l.length := by omega
  have hL1 : (l.length : Int) ≤ 10000000 := by omega
  have hN0 : (0 : Int) ≤ nms.length := by omega
  have hN1 : (nms.length : Int) ≤ 10000000 := by omega
  obtain ⟨a, b, c, habc, ha17, hb17, hc17⟩ : ∃ a b c : Nat, hasF 8 = (a, b, c) ∧ a ≤ 17 ∧ b ≤ 17 ∧ c ≤ 17 := by
    unfold hasF
    repeat' split
    all_goals exact ⟨_, _, _, rfl, by decide, by decide, by decide⟩
  obtain ⟨t0, t1, t2, t3⟩ := (hf.ext hu1).at_ 8 (by omega)
  try simp only [Nat.reduceMul, Nat.reduceAdd] at t0 t1 t2 t3
  rw [show hasF (8 : Nat) = (a, b, c) from habc] at t0 t1 t2
  simp only at t0 t1 t2
  have ha0 : (0 : Int) ≤ a := by omega
  have hb0 : (0 : Int) ≤ b := by omega
  have hc0 : (0 : Int) ≤ c := by omega
  have ha1 : (a : Int) ≤ 17 := by omega
  have hb1 : (b : Int) ≤ 17 := by omega
  have hc1 : (c : Int) ≤ 17 := by omega
  obtain ⟨hs0, hs1, hs2⟩ : ¬ nms.length < a ∧ ¬ b < nms.length ∧ l.length = c := by
    unfold shapeBad at hsb
    rw [habc] at hsb
    simp at hsb
    omega
  have q0 : ¬ (nms.length : Int) < a := by omega
  have q1 : ¬ (b : Int) < nms.length := by omega
  have q2 : ((l.length : Int) == (c : Int)) = true := by rw [hs2, beq_iff_eq]
  have q2b : ((l.length : Int) != (c : Int)) = false := by rw [bne, q2]; rfl
  have HB1 := Lib.hid (new_at w (.cells #[.int .i64 8, .slice a1 nms.length c1, .int .i64 0, .int .i64 nn, .int .i64 mm, .slice a2 l.length c2] 30))
  have HU1 := Lib.hid hu1
  have hb := new_at w (.cells #[.int .i64 8, .slice a1 nms.length c1, .int .i64 0, .int .i64 nn, .int .i64 mm, .slice a2 l.length c2] 30)
  obtain ⟨y0, y1, y2, y3, y4, y5⟩ := cells6 hb

  rw [hall] at HCF
  have HBF := Lib.hid (new_at1 w (.cells #[.int .i64 8, .slice a1 nms.length c1, .int .i64 0, .int .i64 nn, .int .i64 mm, .slice a2 l.length c2] 30) (.cells #[.int .i64 a, .int .i64 b, .int .i64 c, .bool false] 136))
  have HU2 : Hid (Upto [] w ((w.alloc (.cells #[.int .i64 8, .slice a1 nms.length c1, .int .i64 0, .int .i64 nn, .int .i64 mm, .slice a2 l.length c2] 30)).alloc (.cells #[.int .i64 a, .int .i64 b, .int .i64 c, .bool false] 136))) := Lib.hid (hu1.alloc _)
  have HBO := Lib.hid (alloc_old hb (.cells #[.int .i64 a, .int .i64 b, .int .i64 c, .bool false] 136))

  clear habc hsb hall h hs hg hu1 hnm ev hin hb hs2 he hf
  go_enter Tryz.func91, Tryz.ntmps91
  go_wp2_with fail
  refine (HCF.out _ HU2.out).mono ?_
  rintro e w5 ⟨rfl, hu5⟩
  have HU5 := Lib.hid (HU2.out.trans_ext hu5)
  have hb5 := hu5.at HBO.out (by simp)
  have hf5 := hu5.at HBF.out (by simp)
  have z0 := cell_of hb5 0
  have z1 := cell_of hb5 1
  have z2 := cell_of hb5 2
  have z3 := cell_of hb5 3
  have z4 := cell_of hb5 4
  have z5 := cell_of hb5 5
  have x3 := cell_of hf5 3
  simp only [List.getElem?_toArray, List.getElem?_cons_zero, List.getElem?_cons_succ] at z0 z1 z2 z3 z4 z5 x3
  clear hu5 hb5 hf5 y0 y1 y2 y3 y4 y5 t0 t1 t2 t3
  go_wp2_with fail
  go_ret
  exact ⟨rfl, HU5.out⟩

set_option maxRecDepth 100000 in
set_option maxHeartbeats 6400000 in
theorem has_oa (k : Nat) (so nn mm : Int) (nms : List (List UInt8)) (l : List Nd) (hin : inN 10000000 (.mk (k : Int) nms so nn mm l)) (v : Value) (w : World) (P : Nat → Prop) (h : NdV w P (.mk (k : Int) nms so nn mm l) v) (he : Env w) (hf : FEnv w) (hk0 : (0 : Int) ≤ (k : Int)) (hk1 : ((k : Int) : Int) ≤ 17) (hsb : shapeBad (k : Int) nms.length l.length = false) (hall : nms.all identF = true) (o7 : (k : Int) ≠ 7) (o8 : (k : Int) ≠ 8) (o16 : k < 16) (hz : so ≠ 0) : Calls Tryz.prog 91 #[v] w fun e w' => e = .returned (.bool false) ∧ Upto [] w w' := by
  obtain ⟨a1, c1, a2, c2, rfl, hs, hg⟩ := h.open
  unfold inN at hin
  obtain ⟨a1', c1', ev, hnm⟩ := hs.get
  obtain ⟨rfl, rfl⟩ : a1 = a1' ∧ c1 = c1' := by simpa using ev
  have hu1 : Upto [] w (w.alloc (.cells #[.int .i64 (k : Int), .slice a1 nms.length c1, .int .i64 so, .int .i64 nn, .int .i64 mm, .slice a2 l.length c2] 30)) := (Upto.refl [] w).alloc _
  have hll := hin.2.2.1
  have hnl := hin.1
  have HCF := Lib.hid (fun u (hu : Upto [] w u) => containsf_calls nms a1 c1 u (he.ext hu) hnl hin.2.1 (fun i x hi => by
    obtain ⟨g, o, e1, e2⟩ := hnm i _ (by rw [List.getElem?_map, hi]; rfl)
    exact ⟨g, o, e1, (hu.cell (p := ⟨g, o + i, none⟩) (World.block_lt_of_cell? w _ e2) (by simp)).trans e2⟩))
  have hL0 : (0 : Int) ≤ l.length := by omega
  have hL1 : (l.length : Int) ≤ 10000000 := by omega
  have hN0 : (0 : Int) ≤ nms.length := by omega
  have hN1 : (nms.length : Int) ≤ 10000000 := by omega
  obtain ⟨a, b, c, habc, ha17, hb17, hc17⟩ : ∃ a b c : Nat, hasF (k : Int) = (a, b, c) ∧ a ≤ 17 ∧ b ≤ 17 ∧ c ≤ 17 := by
    unfold hasF
    repeat' split
    all_goals exact ⟨_, _, _, rfl, by decide, by decide, by decide⟩
  obtain ⟨t0, t1, t2, t3⟩ := (hf.ext hu1).at_ k (by omega)
  try simp only [Nat.reduceMul, Nat.reduceAdd] at t0 t1 t2 t3
  rw [show hasF (k : Nat) = (a, b, c) from habc] at t0 t1 t2
  simp only at t0 t1 t2
  have ha0 : (0 : Int) ≤ a := by omega
  have hb0 : (0 : Int) ≤ b := by omega
  have hc0 : (0 : Int) ≤ c := by omega
  have ha1 : (a : Int) ≤ 17 := by omega
  have hb1 : (b : Int) ≤ 17 := by omega
  have hc1 : (c : Int) ≤ 17 := by omega
  obtain ⟨hs0, hs1, hs2⟩ : ¬ nms.length < a ∧ ¬ b < nms.length ∧ l.length = c := by
    unfold shapeBad at hsb
    rw [habc] at hsb
    simp at hsb
    omega
  have q0 : ¬ (nms.length : Int) < a := by omega
  have q1 : ¬ (b : Int) < nms.length := by omega
  have q2 : ((l.length : Int) == (c : Int)) = true := by rw [hs2, beq_iff_eq]
  have q2b : ((l.length : Int) != (c : Int)) = false := by rw [bne, q2]; rfl
  have HB1 := Lib.hid (new_at w (.cells #[.int .i64 (k : Int), .slice a1 nms.length c1, .int .i64 so, .int .i64 nn, .int .i64 mm, .slice a2 l.length c2] 30))
  have HU1 := Lib.hid hu1
  have hb := new_at w (.cells #[.int .i64 (k : Int), .slice a1 nms.length c1, .int .i64 so, .int .i64 nn, .int .i64 mm, .slice a2 l.length c2] 30)
  obtain ⟨y0, y1, y2, y3, y4, y5⟩ := cells6 hb
  rw [show decide (16 ≤ k) = false from decide_eq_false (by omega)] at t3
  rw [hall] at HCF
  have HBF := Lib.hid (new_at1 w (.cells #[.int .i64 (k : Int), .slice a1 nms.length c1, .int .i64 so, .int .i64 nn, .int .i64 mm, .slice a2 l.length c2] 30) (.cells #[.int .i64 a, .int .i64 b, .int .i64 c, .bool false] 136))
  have HU2 : Hid (Upto [] w ((w.alloc (.cells #[.int .i64 (k : Int), .slice a1 nms.length c1, .int .i64 so, .int .i64 nn, .int .i64 mm, .slice a2 l.length c2] 30)).alloc (.cells #[.int .i64 a, .int .i64 b, .int .i64 c, .bool false] 136))) := Lib.hid (hu1.alloc _)
  have HBO := Lib.hid (alloc_old hb (.cells #[.int .i64 a, .int .i64 b, .int .i64 c, .bool false] 136))
  have e7 : ((k : Int) == (7 : Int)) = false := by rw [beq_eq_false_iff_ne]; exact o7
  have f7 : ((k : Int) != (7 : Int)) = true := by rw [bne, e7]; rfl
  have e8 : ((k : Int) == (8 : Int)) = false := by rw [beq_eq_false_iff_ne]; exact o8
  have f8 : ((k : Int) != (8 : Int)) = true := by rw [bne, e8]; rfl
  have eso0 : (so == (0 : Int)) = false := by rw [beq_eq_false_iff_ne]; exact hz
  have fso0 : (so != (0 : Int)) = true := by rw [bne, eso0]; rfl
  clear habc hsb hall h hs hg hu1 hnm ev hin hb hs2 he hf
  go_enter Tryz.func91, Tryz.ntmps91
  go_wp2_with fail
  refine (HCF.out _ HU2.out).mono ?_
  rintro e w5 ⟨rfl, hu5⟩
  have HU5 := Lib.hid (HU2.out.trans_ext hu5)
  have hb5 := hu5.at HBO.out (by simp)
  have hf5 := hu5.at HBF.out (by simp)
  have z0 := cell_of hb5 0
  have z1 := cell_of hb5 1
  have z2 := cell_of hb5 2
  have z3 := cell_of hb5 3
  have z4 := cell_of hb5 4
  have z5 := cell_of hb5 5
  have x3 := cell_of hf5 3
  simp only [List.getElem?_toArray, List.getElem?_cons_zero, List.getElem?_cons_succ] at z0 z1 z2 z3 z4 z5 x3
  clear hu5 hb5 hf5 y0 y1 y2 y3 y4 y5 t0 t1 t2 t3
  go_wp2_with fail
  go_ret
  exact ⟨rfl, HU5.out⟩

set_option maxRecDepth 100000 in
set_option maxHeartbeats 6400000 in
theorem has_ob (k : Nat) (nn mm : Int) (nms : List (List UInt8)) (l : List Nd) (hin : inN 10000000 (.mk (k : Int) nms 0 nn mm l)) (v : Value) (w : World) (P : Nat → Prop) (h : NdV w P (.mk (k : Int) nms 0 nn mm l) v) (he : Env w) (hf : FEnv w) (hk0 : (0 : Int) ≤ (k : Int)) (hk1 : ((k : Int) : Int) ≤ 17) (hsb : shapeBad (k : Int) nms.length l.length = false) (hall : nms.all identF = true) (o7 : (k : Int) ≠ 7) (o8 : (k : Int) ≠ 8) (o16 : k < 16) (hz : nn ≠ 0) : Calls Tryz.prog 91 #[v] w fun e w' => e = .returned (.bool false) ∧ Upto [] w w' := by
  obtain ⟨a1, c1, a2, c2, rfl, hs, hg⟩ := h.open
  unfold inN at hin
  obtain ⟨a1', c1', ev, hnm⟩ := hs.get
  obtain ⟨rfl, rfl⟩ : a1 = a1' ∧ c1 = c1' := by simpa using ev
  have hu1 : Upto [] w (w.alloc (.cells #[.int .i64 (k : Int), .slice a1 nms.length c1, .int .i64 0, .int .i64 nn, .int .i64 mm, .slice a2 l.length c2] 30)) := (Upto.refl [] w).alloc _
  have hll := hin.2.2.1
  have hnl := hin.1
  have HCF := Lib.hid (fun u (hu : Upto [] w u) => containsf_calls nms a1 c1 u (he.ext hu) hnl hin.2.1 (fun i x hi => by
    obtain ⟨g, o, e1, e2⟩ := hnm i _ (by rw [List.getElem?_map, hi]; rfl)
    exact ⟨g, o, e1, (hu.cell (p := ⟨g, o + i, none⟩) (World.block_lt_of_cell? w _ e2) (by simp)).trans e2⟩))
  have hL0 : (0 : Int) ≤ l.length := by omega
  have hL1 : (l.length : Int) ≤ 10000000 := by omega
  have hN0 : (0 : Int) ≤ nms.length := by omega
  have hN1 : (nms.length : Int) ≤ 10000000 := by omega
  obtain ⟨a, b, c, habc, ha17, hb17, hc17⟩ : ∃ a b c : Nat, hasF (k : Int) = (a, b, c) ∧ a ≤ 17 ∧ b ≤ 17 ∧ c ≤ 17 := by
    unfold hasF
    repeat' split
    all_goals exact ⟨_, _, _, rfl, by decide, by decide, by decide⟩
  obtain ⟨t0, t1, t2, t3⟩ := (hf.ext hu1).at_ k (by omega)
  try simp only [Nat.reduceMul, Nat.reduceAdd] at t0 t1 t2 t3
  rw [show hasF (k : Nat) = (a, b, c) from habc] at t0 t1 t2
  simp only at t0 t1 t2
  have ha0 : (0 : Int) ≤ a := by omega
  have hb0 : (0 : Int) ≤ b := by omega
  have hc0 : (0 : Int) ≤ c := by omega
  have ha1 : (a : Int) ≤ 17 := by omega
  have hb1 : (b : Int) ≤ 17 := by omega
  have hc1 : (c : Int) ≤ 17 := by omega
  obtain ⟨hs0, hs1, hs2⟩ : ¬ nms.length < a ∧ ¬ b < nms.length ∧ l.length = c := by
    unfold shapeBad at hsb
    rw [habc] at hsb
    simp at hsb
    omega
  have q0 : ¬ (nms.length : Int) < a := by omega
  have q1 : ¬ (b : Int) < nms.length := by omega
  have q2 : ((l.length : Int) == (c : Int)) = true := by rw [hs2, beq_iff_eq]
  have q2b : ((l.length : Int) != (c : Int)) = false := by rw [bne, q2]; rfl
  have HB1 := Lib.hid (new_at w (.cells #[.int .i64 (k : Int), .slice a1 nms.length c1, .int .i64 0, .int .i64 nn, .int .i64 mm, .slice a2 l.length c2] 30))
  have HU1 := Lib.hid hu1
  have hb := new_at w (.cells #[.int .i64 (k : Int), .slice a1 nms.length c1, .int .i64 0, .int .i64 nn, .int .i64 mm, .slice a2 l.length c2] 30)
  obtain ⟨y0, y1, y2, y3, y4, y5⟩ := cells6 hb
  rw [show decide (16 ≤ k) = false from decide_eq_false (by omega)] at t3
  rw [hall] at HCF
  have HBF := Lib.hid (new_at1 w (.cells #[.int .i64 (k : Int), .slice a1 nms.length c1, .int .i64 0, .int .i64 nn, .int .i64 mm, .slice a2 l.length c2] 30) (.cells #[.int .i64 a, .int .i64 b, .int .i64 c, .bool false] 136))
  have HU2 : Hid (Upto [] w ((w.alloc (.cells #[.int .i64 (k : Int), .slice a1 nms.length c1, .int .i64 0, .int .i64 nn, .int .i64 mm, .slice a2 l.length c2] 30)).alloc (.cells #[.int .i64 a, .int .i64 b, .int .i64 c, .bool false] 136))) := Lib.hid (hu1.alloc _)
  have HBO := Lib.hid (alloc_old hb (.cells #[.int .i64 a, .int .i64 b, .int .i64 c, .bool false] 136))
  have e7 : ((k : Int) == (7 : Int)) = false := by rw [beq_eq_false_iff_ne]; exact o7
  have f7 : ((k : Int) != (7 : Int)) = true := by rw [bne, e7]; rfl
  have e8 : ((k : Int) == (8 : Int)) = false := by rw [beq_eq_false_iff_ne]; exact o8
  have f8 : ((k : Int) != (8 : Int)) = true := by rw [bne, e8]; rfl
  have enn0 : (nn == (0 : Int)) = false := by rw [beq_eq_false_iff_ne]; exact hz
  have fnn0 : (nn != (0 : Int)) = true := by rw [bne, enn0]; rfl
  clear habc hsb hall h hs hg hu1 hnm ev hin hb hs2 he hf
  go_enter Tryz.func91, Tryz.ntmps91
  go_wp2_with fail
  refine (HCF.out _ HU2.out).mono ?_
  rintro e w5 ⟨rfl, hu5⟩
  have HU5 := Lib.hid (HU2.out.trans_ext hu5)
  have hb5 := hu5.at HBO.out (by simp)
  have hf5 := hu5.at HBF.out (by simp)
  have z0 := cell_of hb5 0
  have z1 := cell_of hb5 1
  have z2 := cell_of hb5 2
  have z3 := cell_of hb5 3
  have z4 := cell_of hb5 4
  have z5 := cell_of hb5 5
  have x3 := cell_of hf5 3
  simp only [List.getElem?_toArray, List.getElem?_cons_zero, List.getElem?_cons_succ] at z0 z1 z2 z3 z4 z5 x3
  clear hu5 hb5 hf5 y0 y1 y2 y3 y4 y5 t0 t1 t2 t3
  go_wp2_with fail
  go_ret
  exact ⟨rfl, HU5.out⟩

set_option maxRecDepth 100000 in
set_option maxHeartbeats 6400000 in
theorem has_oc (k : Nat) (mm : Int) (nms : List (List UInt8)) (l : List Nd) (hin : inN 10000000 (.mk (k : Int) nms 0 0 mm l)) (v : Value) (w : World) (P : Nat → Prop) (h : NdV w P (.mk (k : Int) nms 0 0 mm l) v) (he : Env w) (hf : FEnv w) (hk0 : (0 : Int) ≤ (k : Int)) (hk1 : ((k : Int) : Int) ≤ 17) (hsb : shapeBad (k : Int) nms.length l.length = false) (hall : nms.all identF = true) (o7 : (k : Int) ≠ 7) (o8 : (k : Int) ≠ 8) (o16 : k < 16) (hz : mm ≠ 0) : Calls Tryz.prog 91 #[v] w fun e w' => e = .returned (.bool false) ∧ Upto [] w w' := by
  obtain ⟨a1, c1, a2, c2, rfl, hs, hg⟩ := h.open
  unfold inN at hin
  obtain ⟨a1', c1', ev, hnm⟩ := hs.get
  obtain ⟨rfl, rfl⟩ : a1 = a1' ∧ c1 = c1' := by simpa using ev
  have hu1 : Upto [] w (w.alloc (.cells #[.int .i64 (k : Int), .slice a1 nms.length c1, .int .i64 0, .int .i64 0, .int .i64 mm, .slice a2 l.length c2] 30)) := (Upto.refl [] w).alloc _
  have hll := hin.2.2.1
  have hnl := hin.1
  have HCF := Lib.hid (fun u (hu : Upto [] w u) => containsf_calls nms a1 c1 u (he.ext hu) hnl hin.2.1 (fun i x hi => by
    obtain ⟨g, o, e1, e2⟩ := hnm i _ (by rw [List.getElem?_map, hi]; rfl)
    exact ⟨g, o, e1, (hu.cell (p := ⟨g, o + i, none⟩) (World.block_lt_of_cell? w _ e2) (by simp)).trans e2⟩))
  have hL0 : (0 : Int) ≤ l.length := by omega
  have hL1 : (l.length : Int) ≤ 10000000 := by omega
  have hN0 : (0 : Int) ≤ nms.length := by omega
  have hN1 : (nms.length : Int) ≤ 10000000 := by omega
  obtain ⟨a, b, c, habc, ha17, hb17, hc17⟩ : ∃ a b c : Nat, hasF (k : Int) = (a, b, c) ∧ a ≤ 17 ∧ b ≤ 17 ∧ c ≤ 17 := by
    unfold hasF
    repeat' split
    all_goals exact ⟨_, _, _, rfl, by decide, by decide, by decide⟩
  obtain ⟨t0, t1, t2, t3⟩ := (hf.ext hu1).at_ k (by omega)
  try simp only [Nat.reduceMul, Nat.reduceAdd] at t0 t1 t2 t3
  rw [show hasF (k : Nat) = (a, b, c) from habc] at t0 t1 t2
  simp only at t0 t1 t2
  have ha0 : (0 : Int) ≤ a := by omega
  have hb0 : (0 : Int) ≤ b := by omega
  have hc0 : (0 : Int) ≤ c := by omega
  have ha1 : (a : Int) ≤ 17 := by omega
  have hb1 : (b : Int) ≤ 17 := by omega
  have hc1 : (c : Int) ≤ 17 := by omega
  obtain ⟨hs0, hs1, hs2⟩ : ¬ nms.length < a ∧ ¬ b < nms.length ∧ l.length = c := by
    unfold shapeBad at hsb
    rw [habc] at hsb
    simp at hsb
    omega
  have q0 : ¬ (nms.length : Int) < a := by omega
  have q1 : ¬ (b : Int) < nms.length := by omega
  have q2 : ((l.length : Int) == (c : Int)) = true := by rw [hs2, beq_iff_eq]
  have q2b : ((l.length : Int) != (c : Int)) = false := by rw [bne, q2]; rfl
  have HB1 := Lib.hid (new_at w (.cells #[.int .i64 (k : Int), .slice a1 nms.length c1, .int .i64 0, .int .i64 0, .int .i64 mm, .slice a2 l.length c2] 30))
  have HU1 := Lib.hid hu1
  have hb := new_at w (.cells #[.int .i64 (k : Int), .slice a1 nms.length c1, .int .i64 0, .int .i64 0, .int .i64 mm, .slice a2 l.length c2] 30)
  obtain ⟨y0, y1, y2, y3, y4, y5⟩ := cells6 hb
  rw [show decide (16 ≤ k) = false from decide_eq_false (by omega)] at t3
  rw [hall] at HCF
  have HBF := Lib.hid (new_at1 w (.cells #[.int .i64 (k : Int), .slice a1 nms.length c1, .int .i64 0, .int .i64 0, .int .i64 mm, .slice a2 l.length c2] 30) (.cells #[.int .i64 a, .int .i64 b, .int .i64 c, .bool false] 136))
  have HU2 : Hid (Upto [] w ((w.alloc (.cells #[.int .i64 (k : Int), .slice a1 nms.length c1, .int .i64 0, .int .i64 0, .int .i64 mm, .slice a2 l.length c2] 30)).alloc (.cells #[.int .i64 a, .int .i64 b, .int .i64 c, .bool false] 136))) := Lib.hid (hu1.alloc _)
  have HBO := Lib.hid (alloc_old hb (.cells #[.int .i64 a, .int .i64 b, .int .i64 c, .bool false] 136))
  have e7 : ((k : Int) == (7 : Int)) = false := by rw [beq_eq_false_iff_ne]; exact o7
  have f7 : ((k : Int) != (7 : Int)) = true := by rw [bne, e7]; rfl
  have e8 : ((k : Int) == (8 : Int)) = false := by rw [beq_eq_false_iff_ne]; exact o8
  have f8 : ((k : Int) != (8 : Int)) = true := by rw [bne, e8]; rfl
  have emm0 : (mm == (0 : Int)) = false := by rw [beq_eq_false_iff_ne]; exact hz
  have fmm0 : (mm != (0 : Int)) = true := by rw [bne, emm0]; rfl
  clear habc hsb hall h hs hg hu1 hnm ev hin hb hs2 he hf
  go_enter Tryz.func91, Tryz.ntmps91
  go_wp2_with fail
  refine (HCF.out _ HU2.out).mono ?_
  rintro e w5 ⟨rfl, hu5⟩
  have HU5 := Lib.hid (HU2.out.trans_ext hu5)
  have hb5 := hu5.at HBO.out (by simp)
  have hf5 := hu5.at HBF.out (by simp)
  have z0 := cell_of hb5 0
  have z1 := cell_of hb5 1
  have z2 := cell_of hb5 2
  have z3 := cell_of hb5 3
  have z4 := cell_of hb5 4
  have z5 := cell_of hb5 5
  have x3 := cell_of hf5 3
  simp only [List.getElem?_toArray, List.getElem?_cons_zero, List.getElem?_cons_succ] at z0 z1 z2 z3 z4 z5 x3
  clear hu5 hb5 hf5 y0 y1 y2 y3 y4 y5 t0 t1 t2 t3
  go_wp2_with fail
  go_ret
  exact ⟨rfl, HU5.out⟩

set_option maxRecDepth 100000 in
set_option maxHeartbeats 6400000 in
theorem has_og (k : Nat) (nms : List (List UInt8)) (l : List Nd) (hin : inN 10000000 (.mk (k : Int) nms 0 0 0 l)) (v : Value) (w : World) (P : Nat → Prop) (h : NdV w P (.mk (k : Int) nms 0 0 0 l) v) (he : Env w) (hf : FEnv w) (hk0 : (0 : Int) ≤ (k : Int)) (hk1 : ((k : Int) : Int) ≤ 17) (hsb : shapeBad (k : Int) nms.length l.length = false) (hall : nms.all identF = true) (o7 : (k : Int) ≠ 7) (o8 : (k : Int) ≠ 8) (o16 : k < 16) : Calls Tryz.prog 91 #[v] w fun e w' => e = .returned (.bool true) ∧ Upto [] w w' := by
  obtain ⟨a1, c1, a2, c2, rfl, hs, hg⟩ := h.open
  unfold inN at hin
  obtain ⟨a1', c1', ev, hnm⟩ := hs.get
  obtain ⟨rfl, rfl⟩ : a1 = a1' ∧ c1 = c1' := by simpa using ev
  have hu1 : Upto [] w (w.alloc (.cells #[.int .i64 (k : Int), .slice a1 nms.length c1, .int .i64 0, .int .i64 0, .int .i64 0, .slice a2 l.length c2] 30)) := (Upto.refl [] w).alloc _
  have hll := hin.2.2.1
  have hnl := hin.1
  have HCF := Lib.hid (fun u (hu : Upto [] w u) => containsf_calls nms a1 c1 u (he.ext hu) hnl hin.2.1 (fun i x hi => by
    obtain ⟨g, o, e1, e2⟩ := hnm i _ (by rw [List.getElem?_map, hi]; rfl)
    exact ⟨g, o, e1, (hu.cell (p := ⟨g, o + i, none⟩) (World.block_lt_of_cell? w _ e2) (by simp)).trans e2⟩))
  have hL0 : (0 : Int) ≤ l.length := by omega
  have hL1 : (l.length : Int) ≤ 10000000 := by omega
  have hN0 : (0 : Int) ≤ nms.length := by omega
  have hN1 : (nms.length : Int) ≤ 10000000 := by omega
  obtain ⟨a, b, c, habc, ha17, hb17, hc17⟩ : ∃ a b c : Nat, hasF (k : Int) = (a, b, c) ∧ a ≤ 17 ∧ b ≤ 17 ∧ c ≤ 17 := by
    unfold hasF
    repeat' split
    all_goals exact ⟨_, _, _, rfl, by decide, by decide, by decide⟩
  obtain ⟨t0, t1, t2, t3⟩ := (hf.ext hu1).at_ k (by omega)
  try simp only [Nat.reduceMul, Nat.reduceAdd] at t0 t1 t2 t3
  rw [show hasF (k : Nat) = (a, b, c) from habc] at t0 t1 t2
  simp only at t0 t1 t2
  have ha0 : (0 : Int) ≤ a := by omega
  have hb0 : (0 : Int) ≤ b := by omega
  have hc0 : (0 : Int) ≤ c := by omega
  have ha1 : (a : Int) ≤ 17 := by omega
  have hb1 : (b : Int) ≤ 17 := by omega
  have hc1 : (c : Int) ≤ 17 := by omega
  obtain ⟨hs0, hs1, hs2⟩ : ¬ nms.length < a ∧ ¬ b < nms.length ∧ l.length = c := by
    unfold shapeBad at hsb
    rw [habc] at hsb
    simp at hsb
    omega
  have q0 : ¬ (nms.length : Int) < a := by omega
  have q1 : ¬ (b : Int) < nms.length := by omega
  have q2 : ((l.length : Int) == (c : Int)) = true := by rw [hs2, beq_iff_eq]
  have q2b : ((l.length : Int) != (c : Int)) = false := by rw [bne, q2]; rfl
  have HB1 := Lib.hid (new_at w (.cells #[.int .i64 (k : Int), .slice a1 nms.length c1, .int .i64 0, .int .i64 0, .int .i64 0, .slice a2 l.length c2] 30))
  have HU1 := Lib.hid hu1
  have hb := new_at w (.cells #[.int .i64 (k : Int), .slice a1 nms.length c1, .int .i64 0, .int .i64 0, .int .i64 0, .slice a2 l.length c2] 30)
  obtain ⟨y0, y1, y2, y3, y4, y5⟩ := cells6 hb
  rw [show decide (16 ≤ k) = false from decide_eq_false (by omega)] at t3
  rw [hall] at HCF
  have HBF := Lib.hid (new_at1 w (.cells #[.int .i64 (k : Int), .slice a1 nms.length c1, .int .i64 0, .int .i64 0, .int .i64 0, .slice a2 l.length c2] 30) (.cells #[.int .i64 a, .int .i64 b, .int .i64 c, .bool false] 136))
  have HU2 : Hid (Upto [] w ((w.alloc (.cells #[.int .i64 (k : Int), .slice a1 nms.length c1, .int .i64 0, .int .i64 0, .int .i64 0, .slice a2 l.length c2] 30)).alloc (.cells #[.int .i64 a, .int .i64 b, .int .i64 c, .bool false] 136))) := Lib.hid (hu1.alloc _)
  have HBO := Lib.hid (alloc_old hb (.cells #[.int .i64 a, .int .i64 b, .int .i64 c, .bool false] 136))
  have e7 : ((k : Int) == (7 : Int)) = false := by rw [beq_eq_false_iff_ne]; exact o7
  have f7 : ((k : Int) != (7 : Int)) = true := by rw [bne, e7]; rfl
  have e8 : ((k : Int) == (8 : Int)) = false := by rw [beq_eq_false_iff_ne]; exact o8
  have f8 : ((k : Int) != (8 : Int)) = true := by rw [bne, e8]; rfl
  clear habc hsb hall h hs hg hu1 hnm ev hin hb hs2 he hf
  go_enter Tryz.func91, Tryz.ntmps91
  go_wp2_with fail
  refine (HCF.out _ HU2.out).mono ?_
  rintro e w5 ⟨rfl, hu5⟩
  have HU5 := Lib.hid (HU2.out.trans_ext hu5)
  have hb5 := hu5.at HBO.out (by simp)
  have hf5 := hu5.at HBF.out (by simp)
  have z0 := cell_of hb5 0
  have z1 := cell_of hb5 1
  have z2 := cell_of hb5 2
  have z3 := cell_of hb5 3
  have z4 := cell_of hb5 4
  have z5 := cell_of hb5 5
  have x3 := cell_of hf5 3
  simp only [List.getElem?_toArray, List.getElem?_cons_zero, List.getElem?_cons_succ] at z0 z1 z2 z3 z4 z5 x3
  clear hu5 hb5 hf5 y0 y1 y2 y3 y4 y5 t0 t1 t2 t3
  go_wp2_with fail
  go_ret
  exact ⟨rfl, HU5.out⟩

set_option maxRecDepth 100000 in
set_option maxHeartbeats 6400000 in
theorem has_hb (k : Nat) (so nn mm : Int) (nms : List (List UInt8)) (l : List Nd) (hin : inN 10000000 (.mk (k : Int) nms so nn mm l)) (v : Value) (w : World) (P : Nat → Prop) (h : NdV w P (.mk (k : Int) nms so nn mm l) v) (he : Env w) (hf : FEnv w) (hk0 : (0 : Int) ≤ (k : Int)) (hk1 : ((k : Int) : Int) ≤ 17) (hsb : shapeBad (k : Int) nms.length l.length = false) (hall : nms.all identF = true) (o7 : (k : Int) ≠ 7) (o8 : (k : Int) ≠ 8) (o16 : ¬ k < 16) (hz : nn ≠ 0) : Calls Tryz.prog 91 #[v] w fun e w' => e = .returned (.bool false) ∧ Upto [] w w' := by
  obtain ⟨a1, c1, a2, c2, rfl, hs, hg⟩ := h.open
  unfold inN at hin
  obtain ⟨a1', c1', ev, hnm⟩ := hs.get
  obtain ⟨rfl, rfl⟩ : a1 = a1' ∧ c1 = c1' := by simpa using ev
  have hu1 : Upto [] w (w.alloc (.cells #[.int .i64 (k : Int), .slice a1 nms.length c1, .int .i64 so, .int .i64 nn, .int .i64 mm, .slice a2 l.length c2] 30)) := (Upto.refl [] w).alloc _
  have hll := hin.2.2.1
  have hnl := hin.1
  have HCF := Lib.hid (fun u (hu : Upto [] w u) => containsf_calls nms a1 c1 u (he.ext hu) hnl hin.2.1 (fun i x hi => by
    obtain ⟨g, o, e1, e2⟩ := hnm i _ (by rw [List.getElem?_map, hi]; rfl)
    exact ⟨g, o, e1, (hu.cell (p := ⟨g, o + i, none⟩) (World.block_lt_of_cell? w _ e2) (by simp)).trans e2⟩))
  have hL0 : (0 : Int) ≤ l.length := by omega
  have hL1 : (l.length : Int) ≤ 10000000 := by omega
  have hN0 : (0 : Int) ≤ nms.length := by omega
  have hN1 : (nms.length : Int) ≤ 10000000 := by omega
  obtain ⟨a, b, c, habc, ha17, hb17, hc17⟩ : ∃ a b c : Nat, hasF (k : Int) = (a, b, c) ∧ a ≤ 17 ∧ b ≤ 17 ∧ c ≤ 17 := by
    unfold hasF
    repeat' split
    all_goals exact ⟨_, _, _, rfl, by decide, by decide, by decide⟩
  obtain ⟨t0, t1, t2, t3⟩ := (hf.ext hu1).at_ k (by omega)
  try simp only [Nat.reduceMul, Nat.reduceAdd] at t0 t1 t2 t3
  rw [show hasF (k : Nat) = (a, b, c) from habc] at t0 t1 t2
  simp only at t0 t1 t2
  have ha0 : (0 : Int) ≤ a := by omega
  have hb0 : (0 : Int) ≤ b := by omega
  have hc0 : (0 : Int) ≤ c := by omega
  have ha1 : (a : Int) ≤ 17 := by omega
  have hb1 : (b : Int) ≤ 17 := by omega
  have hc1 : (c : Int) ≤ 17 := by omega
  obtain ⟨hs0, hs1, hs2⟩ : ¬ nms.length < a ∧ ¬ b < nms.length ∧ l.length = c := by
    unfold shapeBad at hsb
    rw [habc] at hsb
    simp at hsb
    omega
  have q0 : ¬ (nms.length : Int) < a := by omega
  have q1 : ¬ (b : Int) < nms.length := by omega
  have q2 : ((l.length : Int) == (c : Int)) = true := by rw [hs2, beq_iff_eq]
  have q2b : ((l.length : Int) != (c : Int)) = false := by rw [bne, q2]; rfl
  have HB1 := Lib.hid (new_at w (.cells #[.int .i64 (k : Int), .slice a1 nms.length c1, .int .i64 so, .int .i64 nn, .int .i64 mm, .slice a2 l.length c2] 30))
  have HU1 := Lib.hid hu1
  have hb := new_at w (.cells #[.int .i64 (k : Int), .slice a1 nms.length c1, .int .i64 so, .int .i64 nn, .int .i64 mm, .slice a2 l.length c2] 30)
  obtain ⟨y0, y1, y2, y3, y4, y5⟩ := cells6 hb
  rw [show decide (16 ≤ k) = true from decide_eq_true (by omega)] at t3
  rw [hall] at HCF
  have HBF := Lib.hid (new_at1 w (.cells #[.int .i64 (k : Int), .slice a1 nms.length c1, .int .i64 so, .int .i64 nn, .int .i64 mm, .slice a2 l.length c2] 30) (.cells #[.int .i64 a, .int .i64 b, .int .i64 c, .bool true] 136))
  have HU2 : Hid (Upto [] w ((w.alloc (.cells #[.int .i64 (k : Int), .slice a1 nms.length c1, .int .i64 so, .int .i64 nn, .int .i64 mm, .slice a2 l.length c2] 30)).alloc (.cells #[.int .i64 a, .int .i64 b, .int .i64 c, .bool true] 136))) := Lib.hid (hu1.alloc _)
  have HBO := Lib.hid (alloc_old hb (.cells #[.int .i64 a, .int .i64 b, .int .i64 c, .bool true] 136))
  have e7 : ((k : Int) == (7 : Int)) = false := by rw [beq_eq_false_iff_ne]; exact o7
  have f7 : ((k : Int) != (7 : Int)) = true := by rw [bne, e7]; rfl
  have e8 : ((k : Int) == (8 : Int)) = false := by rw [beq_eq_false_iff_ne]; exact o8
  have f8 : ((k : Int) != (8 : Int)) = true := by rw [bne, e8]; rfl
  have enn0 : (nn == (0 : Int)) = false := by rw [beq_eq_false_iff_ne]; exact hz
  have fnn0 : (nn != (0 : Int)) = true := by rw [bne, enn0]; rfl
  clear habc hsb hall h hs hg hu1 hnm ev hin hb hs2 he hf
  go_enter Tryz.func91, Tryz.ntmps91
  go_wp2_with fail
  refine (HCF.out _ HU2.out).mono ?_
  rintro e w5 ⟨rfl, hu5⟩
  have HU5 := Lib.hid (HU2.out.trans_ext hu5)
  have hb5 := hu5.at HBO.out (by simp)
  have hf5 := hu5.at HBF.out (by simp)
  have z0 := cell_of hb5 0
  have z1 := cell_of hb5 1
  have z2 := cell_of hb5 2
  have z3 := cell_of hb5 3
  have z4 := cell_of hb5 4
  have z5 := cell_of hb5 5
  have x3 := cell_of hf5 3
  simp only [List.getElem?_toArray, List.getElem?_cons_zero, List.getElem?_cons_succ] at z0 z1 z2 z3 z4 z5 x3
  clear hu5 hb5 hf5 y0 y1 y2 y3 y4 y5 t0 t1 t2 t3
  go_wp2_with fail
  go_ret
  exact ⟨rfl, HU5.out⟩

set_option maxRecDepth 100000 in
set_option maxHeartbeats 6400000 in
theorem has_hc (k : Nat) (so mm : Int) (nms : List (List UInt8)) (l : List Nd) (hin : inN 10000000 (.mk (k : Int) nms so 0 mm l)) (v : Value) (w : World) (P : Nat → Prop) (h : NdV w P (.mk (k : Int) nms so 0 mm l) v) (he : Env w) (hf : FEnv w) (hk0 : (0 : Int) ≤ (k : Int)) (hk1 : ((k : Int) : Int) ≤ 17) (hsb : shapeBad (k : Int) nms.length l.length = false) (hall : nms.all identF = true) (o7 : (k : Int) ≠ 7) (o8 : (k : Int) ≠ 8) (o16 : ¬ k < 16) (hz : mm ≠ 0) : Calls Tryz.prog 91 #[v] w fun e w' => e = .returned (.bool false) ∧ Upto [] w w' := by
  obtain ⟨a1, c1, a2, c2, rfl, hs, hg⟩ := h.open
  unfold inN at hin
  obtain ⟨a1', c1', ev, hnm⟩ := hs.get
  obtain ⟨rfl, rfl⟩ : a1 = a1' ∧ c1 = c1' := by simpa using ev
  have hu1 : Upto [] w (w.alloc (.cells #[.int .i64 (k : Int), .slice a1 nms.length c1, .int .i64 so, .int .i64 0, .int .i64 mm, .slice a2 l.length c2] 30)) := (Upto.refl [] w).alloc _
  have hll := hin.2.2.1
  have hnl := hin.1
  have HCF := Lib.hid (fun u (hu : Upto [] w u) => containsf_calls nms a1 c1 u (he.ext hu) hnl hin.2.1 (fun i x hi => by
    obtain ⟨g, o, e1, e2⟩ := hnm i _ (by rw [List.getElem?_map, hi]; rfl)
    exact ⟨g, o, e1, (hu.cell (p := ⟨g, o + i, none⟩) (World.block_lt_of_cell? w _ e2) (by simp)).trans e2⟩))
  have hL0 : (0 : Int) ≤ l.length := by omega
  have hL1 : (l.length : Int) ≤ 10000000 := by omega
  have hN0 : (0 : Int) ≤ nms.length := by omega
  have hN1 : (nms.length : Int) ≤ 10000000 := by omega
  obtain ⟨a, b, c, habc, ha17, hb17, hc17⟩ : ∃ a b c : Nat, hasF (k : Int) = (a, b, c) ∧ a ≤ 17 ∧ b ≤ 17 ∧ c ≤ 17 := by
    unfold hasF
    repeat' split
    all_goals exact ⟨_, _, _, rfl, by decide, by decide, by decide⟩
  obtain ⟨t0, t1, t2, t3⟩ := (hf.ext hu1).at_ k (by omega)
  try simp only [Nat.reduceMul, Nat.reduceAdd] at t0 t1 t2 t3
  rw [show hasF (k : Nat) = (a, b, c) from habc] at t0 t1 t2
  simp only at t0 t1 t2
  have ha0 : (0 : Int) ≤ a := by omega
  have hb0 : (0 : Int) ≤ b := by omega
  have hc0 : (0 : Int) ≤ c := by omega
  have ha1 : (a : Int) ≤ 17 := by omega
  have hb1 : (b : Int) ≤ 17 := by omega
  have hc1 : (c : Int) ≤ 17 := by omega
  obtain ⟨hs0, hs1, hs2⟩ : ¬ nms.length < a ∧ ¬ b < nms.length ∧ l.length = c := by
    unfold shapeBad at hsb
    rw [habc] at hsb
    simp at hsb
    omega
  have q0 : ¬ (nms.length : Int) < a := by omega
  have q1 : ¬ (b : Int) < nms.length := by omega
  have q2 : ((l.length : Int) == (c : Int)) = true := by rw [hs2, beq_iff_eq]
  have q2b : ((l.length : Int) != (c : Int)) = false := by rw [bne, q2]; rfl
  have HB1 := Lib.hid (new_at w (.cells #[.int .i64 (k : Int), .slice a1 nms.length c1, .int .i64 so, .int .i64 0, .int .i64 mm, .slice a2 l.length c2] 30))
  have HU1 := Lib.hid hu1
  have hb := new_at w (.cells #[.int .i64 (k : Int), .slice a1 nms.length c1, .int .i64 so, .int .i64 0, .int .i64 mm, .slice a2 l.length c2] 30)
  obtain ⟨y0, y1, y2, y3, y4, y5⟩ := cells6 hb
  rw [show decide (16 ≤ k) = true from decide_eq_true (by omega)] at t3
  rw [hall] at HCF
  have HBF := Lib.hid (new_at1 w (.cells #[.int .i64 (k : Int), .slice a1 nms.length c1, .int .i64 so, .int .i64 0, .int .i64 mm, .slice a2 l.length c2] 30) (.cells #[.int .i64 a, .int .i64 b, .int .i64 c, .bool true] 136))
  have HU2 : Hid (Upto [] w ((w.alloc (.cells #[.int .i64 (k : Int), .slice a1 nms.length c1, .int .i64 so, .int .i64 0, .int .i64 mm, .slice a2 l.length c2] 30)).alloc (.cells #[.int .i64 a, .int .i64 b, .int .i64 c, .bool true] 136))) := Lib.hid (hu1.alloc _)
  have HBO := Lib.hid (alloc_old hb (.cells #[.int .i64 a, .int .i64 b, .int .i64 c, .bool true] 136))
  have e7 : ((k : Int) == (7 : Int)) = false := by rw [beq_eq_false_iff_ne]; exact o7
  have f7 : ((k : Int) != (7 : Int)) = true := by rw [bne, e7]; rfl
  have e8 : ((k : Int) == (8 : Int)) = false := by rw [beq_eq_false_iff_ne]; exact o8
  have f8 : ((k : Int) != (8 : Int)) = true := by rw [bne, e8]; rfl
  have emm0 : (mm == (0 : Int)) = false := by rw [beq_eq_false_iff_ne]; exact hz
  have fmm0 : (mm != (0 : Int)) = true := by rw [bne, emm0]; rfl
  clear habc hsb hall h hs hg hu1 hnm ev hin hb hs2 he hf
  go_enter Tryz.func91, Tryz.ntmps91
  go_wp2_with fail
  refine (HCF.out _ HU2.out).mono ?_
  rintro e w5 ⟨rfl, hu5⟩
  have HU5 := Lib.hid (HU2.out.trans_ext hu5)
  have hb5 := hu5.at HBO.out (by simp)
  have hf5 := hu5.at HBF.out (by simp)
  have z0 := cell_of hb5 0
  have z1 := cell_of hb5 1
  have z2 := cell_of hb5 2
  have z3 := cell_of hb5 3
  have z4 := cell_of hb5 4
  have z5 := cell_of hb5 5
  have x3 := cell_of hf5 3
  simp only [List.getElem?_toArray, List.getElem?_cons_zero, List.getElem?_cons_succ] at z0 z1 z2 z3 z4 z5 x3
  clear hu5 hb5 hf5 y0 y1 y2 y3 y4 y5 t0 t1 t2 t3
  go_wp2_with fail
  go_ret
  exact ⟨rfl, HU5.out⟩

set_option maxRecDepth 100000 in
set_option maxHeartbeats 6400000 in
theorem has_hg (k : Nat) (so : Int) (nms : List (List UInt8)) (l : List Nd) (hin : inN 10000000 (.mk (k : Int) nms so 0 0 l)) (v : Value) (w : World) (P : Nat → Prop) (h : NdV w P (.mk (k : Int) nms so 0 0 l) v) (he : Env w) (hf : FEnv w) (hk0 : (0 : Int) ≤ (k : Int)) (hk1 : ((k : Int) : Int) ≤ 17) (hsb : shapeBad (k : Int) nms.length l.length = false) (hall : nms.all identF = true) (o7 : (k : Int) ≠ 7) (o8 : (k : Int) ≠ 8) (o16 : ¬ k < 16) : Calls Tryz.prog 91 #[v] w fun e w' => e = .returned (.bool true) ∧ Upto [] w w' := by
  obtain ⟨a1, c1, a2, c2, rfl, hs, hg⟩ := h.open
  unfold inN at hin
  obtain ⟨a1', c1', ev, hnm⟩ := hs.get
  obtain ⟨rfl, rfl⟩ : a1 = a1' ∧ c1 = c1' := by simpa using ev
  have hu1 : Upto [] w (w.alloc (.cells #[.int .i64 (k : Int), .slice a1 nms.length c1, .int .i64 so, .int .i64 0, .int .i64 0, .slice a2 l.length c2] 30)) := (Upto.refl [] w).alloc _
  have hll := hin.2.2.1
  have hnl := hin.1
  have HCF := Lib.hid (fun u (hu : Upto [] w u) => containsf_calls nms a1 c1 u (he.ext hu) hnl hin.2.1 (fun i x hi => by
    obtain ⟨g, o, e1, e2⟩ := hnm i _ (by rw [List.getElem?_map, hi]; rfl)
    exact ⟨g, o, e1, (hu.cell (p := ⟨g, o + i, none⟩) (World.block_lt_of_cell? w _ e2) (by simp)).trans e2⟩))
  have hL0 : (0 : Int) ≤ l.length := by omega
  have hL1 : (l.length : Int) ≤ 10000000 := by omega
  have hN0 : (0 : Int) ≤ nms.length := by omega
  have hN1 : (nms.length : Int) ≤ 10000000 := by omega
  obtain ⟨a, b, c, habc, ha17, hb17, hc17⟩ : ∃ a b c : Nat, hasF (k : Int) = (a, b, c) ∧ a ≤ 17 ∧ b ≤ 17 ∧ c ≤ 17 := by
    unfold hasF
    repeat' split
    all_goals exact ⟨_, _, _, rfl, by decide, by decide, by decide⟩
  obtain ⟨t0, t1, t2, t3⟩ := (hf.ext hu1).at_ k (by omega)
  try simp only [Nat.reduceMul, Nat.reduceAdd] at t0 t1 t2 t3
  rw [show hasF (k : Nat) = (a, b, c) from habc] at t0 t1 t2
  simp only at t0 t1 t2
  have ha0 : (0 : Int) ≤ a := by omega
  have hb0 : (0 : Int) ≤ b := by omega
  have hc0 : (0 : Int) ≤ c := by omega
  have ha1 : (a : Int) ≤ 17 := by omega
  have hb1 : (b : Int) ≤ 17 := by omega
  have hc1 : (c : Int) ≤ 17 := by omega
  obtain ⟨hs0, hs1, hs2⟩ : ¬ nms.length < a ∧ ¬ b < nms.length ∧ l.length = c := by
    unfold shapeBad at hsb
    rw [habc] at hsb
    simp at hsb
    omega
  have q0 : ¬ (nms.length : Int) < a := by omega
  have q1 : ¬ (b : Int) < nms.length := by omega
  have q2 : ((l.length : Int) == (c : Int)) = true := by rw [hs2, beq_iff_eq]
  have q2b : ((l.length : Int) != (c : Int)) = false := by rw [bne, q2]; rfl
  have HB1 := Lib.hid (new_at w (.cells #[.int .i64 (k : Int), .slice a1 nms.length c1, .int .i64 so, .int .i64 0, .int .i64 0, .slice a2 l.length c2] 30))
  have HU1 := Lib.hid hu1
  have hb := new_at w (.cells #[.int .i64 (k : Int), .slice a1 nms.length c1, .int .i64 so, .int .i64 0, .int .i64 0, .slice a2 l.length c2] 30)
  obtain ⟨y0, y1, y2, y3, y4, y5⟩ := cells6 hb
  rw [show decide (16 ≤ k) = true from decide_eq_true (by omega)] at t3
  rw [hall] at HCF
  have HBF := Lib.hid (new_at1 w (.cells #[.int .i64 (k : Int), .slice a1 nms.length c1, .int .i64 so, .int .i64 0, .int .i64 0, .slice a2 l.length c2] 30) (.cells #[.int .i64 a, .int .i64 b, .int .i64 c, .bool true] 136))
  have HU2 : Hid (Upto [] w ((w.alloc (.cells #[.int .i64 (k : Int), .slice a1 nms.length c1, .int .i64 so, .int .i64 0, .int .i64 0, .slice a2 l.length c2] 30)).alloc (.cells #[.int .i64 a, .int .i64 b, .int .i64 c, .bool true] 136))) := Lib.hid (hu1.alloc _)
  have HBO := Lib.hid (alloc_old hb (.cells #[.int .i64 a, .int .i64 b, .int .i64 c, .bool true] 136))
  have e7 : ((k : Int) == (7 : Int)) = false := by rw [beq_eq_false_iff_ne]; exact o7
  have f7 : ((k : Int) != (7 : Int)) = true := by rw [bne, e7]; rfl
  have e8 : ((k : Int) == (8 : Int)) = false := by rw [beq_eq_false_iff_ne]; exact o8
  have f8 : ((k : Int) != (8 : Int)) = true := by rw [bne, e8]; rfl
  clear habc hsb hall h hs hg hu1 hnm ev hin hb hs2 he hf
  go_enter Tryz.func91, Tryz.ntmps91
  go_wp2_with fail
  refine (HCF.out _ HU2.out).mono ?_
  rintro e w5 ⟨rfl, hu5⟩
  have HU5 := Lib.hid (HU2.out.trans_ext hu5)
  have hb5 := hu5.at HBO.out (by simp)
  have hf5 := hu5.at HBF.out (by simp)
  have z0 := cell_of hb5 0
  have z1 := cell_of hb5 1
  have z2 := cell_of hb5 2
  have z3 := cell_of hb5 3
  have z4 := cell_of hb5 4
  have z5 := cell_of hb5 5
  have x3 := cell_of hf5 3
  simp only [List.getElem?_toArray, List.getElem?_cons_zero, List.getElem?_cons_succ] at z0 z1 z2 z3 z4 z5 x3
  clear hu5 hb5 hf5 y0 y1 y2 y3 y4 y5 t0 t1 t2 t3
  go_wp2_with fail
  go_ret
  exact ⟨rfl, HU5.out⟩

end Go.Proofs.YtbnebkkpmcjmbaaGreatDoor


namespace Go.Proofs.YtbnebkkpmcjmbaaGreatDoor
open Go.RowKit Go.PL Go.Maps
set_option maxRecDepth 100000 in
set_option maxHeartbeats 6400000 in
theorem has_n (k : Nat) (so nn mm : Int) (nms : List (List UInt8)) (l : List Nd) (hin : inN 10000000 (.mk (k : Int) nms so nn mm l)) (v : Value) (w : World) (P : Nat → Prop) (h : NdV w P (.mk (k : Int) nms so nn mm l) v) (he : Env w) (hf : FEnv w) (hk0 : (0 : Int) ≤ (k : Int)) (hk1 : ((k : Int) : Int) ≤ 17) (hsb : shapeBad (k : Int) nms.length l.length = false) (hall : nms.all identF = false) : Calls Tryz.prog 91 #[v] w fun e w' => e = .returned (.bool false) ∧ Upto [] w w' := by
  obtain ⟨a1, c1, a2, c2, rfl, hs, hg⟩ := h.open
  unfold inN at hin
  obtain ⟨a1', c1', ev, hnm⟩ := hs.get
  obtain ⟨rfl, rfl⟩ : a1 = a1' ∧ c1 = c1' := by simpa using ev
  have hu1 : Upto [] w (w.alloc (.cells #[.int .i64 (k : Int), .slice a1 nms.length c1, .int .i64 so, .int .i64 nn, .int .i64 mm, .slice a2 l.length c2] 30)) := (Upto.refl [] w).alloc _
  have hll := hin.2.2.1
  have hnl := hin.1
  have HCF := Lib.hid (fun u (hu : Upto [] w u) => containsf_calls nms a1 c1 u (he.ext hu) hnl hin.2.1 (fun i x hi => by
    obtain ⟨g, o, e1, e2⟩ := hnm i _ (by rw [List.getElem?_map, hi]; rfl)
    exact ⟨g, o, e1, (hu.cell (p := ⟨g, o + i, none⟩) (World.block_lt_of_cell? w _ e2) (by simp)).trans e2⟩))
  have hL0 : (0 : Int) ≤ l.length := by omega
  have hL1 : (l.length : Int) ≤ 10000000 := by omega
  have hN0 : (0 : Int) ≤ nms.length := by omega
  have hN1 : (nms.length : Int) ≤ 10000000 := by omega
  obtain ⟨a, b, c, habc, ha17, hb17, hc17⟩ : ∃ a b c : Nat, hasF (k : Int) = (a, b, c) ∧ a ≤ 17 ∧ b ≤ 17 ∧ c ≤ 17 := by
    unfold hasF
    repeat' split
    all_goals exact ⟨_, _, _, rfl, by decide, by decide, by decide⟩
  obtain ⟨t0, t1, t2, t3⟩ := (hf.ext hu1).at_ k (by omega)
  try simp only [Nat.reduceMul, Nat.reduceAdd] at t0 t1 t2 t3
  rw [show hasF (k : Nat) = (a, b, c) from habc] at t0 t1 t2
  simp only at t0 t1 t2
  have ha0 : (0 : Int) ≤ a := by omega
  have hb0 : (0 : Int) ≤ b := by omega
  have hc0 : (0 : Int) ≤ c := by omega
  have ha1 : (a : Int) ≤ 17 := by omega
  have hb1 : (b : Int) ≤ 17 := by omega
  have hc1 : (c : Int) ≤ 17 := by omega
  obtain ⟨hs0, hs1, hs2⟩ : ¬ nms.length < a ∧ ¬ b < nms.length ∧ l.length = c := by
    unfold shapeBad at hsb
    rw [habc] at hsb
    simp at hsb
    omega
  have q0 : ¬ (nms.length : Int) < a := by omega
  have q1 : ¬ (b : Int) < nms.length := by omega
  have q2 : ((l.length : Int) == (c : Int)) = true := by rw [hs2, beq_iff_eq]
  have q2b : ((l.length : Int) != (c : Int)) = false := by rw [bne, q2]; rfl
  have HB1 := Lib.hid (new_at w (.cells #[.int .i64 (k : Int), .slice a1 nms.length c1, .int .i64 so, .int .i64 nn, .int .i64 mm, .slice a2 l.length c2] 30))
  have HU1 := Lib.hid hu1
  have hb := new_at w (.cells #[.int .i64 (k : Int), .slice a1 nms.length c1, .int .i64 so, .int .i64 nn, .int .i64 mm, .slice a2 l.length c2] 30)
  obtain ⟨y0, y1, y2, y3, y4, y5⟩ := cells6 hb
  rw [hall] at HCF
  have HBF := Lib.hid (new_at1 w (.cells #[.int .i64 (k : Int), .slice a1 nms.length c1, .int .i64 so, .int .i64 nn, .int .i64 mm, .slice a2 l.length c2] 30) (.cells #[.int .i64 a, .int .i64 b, .int .i64 c, .bool (decide (16 ≤ k))] 136))
  have HU2 : Hid (Upto [] w ((w.alloc (.cells #[.int .i64 (k : Int), .slice a1 nms.length c1, .int .i64 so, .int .i64 nn, .int .i64 mm, .slice a2 l.length c2] 30)).alloc (.cells #[.int .i64 a, .int .i64 b, .int .i64 c, .bool (decide (16 ≤ k))] 136))) := Lib.hid (hu1.alloc _)
  have HBO := Lib.hid (alloc_old hb (.cells #[.int .i64 a, .int .i64 b, .int .i64 c, .bool (decide (16 ≤ k))] 136))

  clear habc hsb hall h hs hg hu1 hnm ev hin hb hs2 he hf
  go_enter Tryz.func91, Tryz.ntmps91
  go_wp2_with fail
  refine (HCF.out _ HU2.out).mono ?_
  rintro e w5 ⟨rfl, hu5⟩
  have HU5 := Lib.hid (HU2.out.trans_ext hu5)
  have hb5 := hu5.at HBO.out (by simp)
  have hf5 := hu5.at HBF.out (by simp)
  clear hu5 hb5 hf5 y0 y1 y2 y3 y4 y5 t0 t1 t2 t3
  go_wp2_with fail
  go_ret
  exact ⟨rfl, HU5.out⟩

set_option maxRecDepth 100000 in
set_option maxHeartbeats 6400000 in
theorem has_s1 (k : Nat) (so nn mm : Int) (nms : List (List UInt8)) (l : List Nd) (hin : inN 10000000 (.mk (k : Int) nms so nn mm l)) (v : Value) (w : World) (P : Nat → Prop) (h : NdV w P (.mk (k : Int) nms so nn mm l) v) (he : Env w) (hf : FEnv w) (hk0 : (0 : Int) ≤ (k : Int)) (hk1 : ((k : Int) : Int) ≤ 17) (_hsb : shapeBad (k : Int) nms.length l.length = true) (hs0 : nms.length < (hasF (k : Int)).1) : Calls Tryz.prog 91 #[v] w fun e w' => e = .returned (.bool false) ∧ Upto [] w w' := by
  obtain ⟨a1, c1, a2, c2, rfl, hs, hg⟩ := h.open
  unfold inN at hin
  obtain ⟨a1', c1', ev, hnm⟩ := hs.get
  obtain ⟨rfl, rfl⟩ : a1 = a1' ∧ c1 = c1' := by simpa using ev
  have hu1 : Upto [] w (w.alloc (.cells #[.int .i64 (k : Int), .slice a1 nms.length c1, .int .i64 so, .int .i64 nn, .int .i64 mm, .slice a2 l.length c2] 30)) := (Upto.refl [] w).alloc _
  have hll := hin.2.2.1
  have hnl := hin.1
  have HCF := Lib.hid (fun u (hu : Upto [] w u) => containsf_calls nms a1 c1 u (he.ext hu) hnl hin.2.1 (fun i x hi => by
    obtain ⟨g, o, e1, e2⟩ := hnm i _ (by rw [List.getElem?_map, hi]; rfl)
    exact ⟨g, o, e1, (hu.cell (p := ⟨g, o + i, none⟩) (World.block_lt_of_cell? w _ e2) (by simp)).trans e2⟩))
  have hL0 : (0 : Int) ≤ l.length := by omega
  have hL1 : (l.length : Int) ≤ 10000000 := by omega
  have hN0 : (0 : Int) ≤ nms.length := by omega
  have hN1 : (nms.length : Int) ≤ 10000000 := by omega
  obtain ⟨a, b, c, habc, ha17, hb17, hc17⟩ : ∃ a b c : Nat, hasF (k : Int) = (a, b, c) ∧ a ≤ 17 ∧ b ≤ 17 ∧ c ≤ 17 := by
    unfold hasF
    repeat' split
    all_goals exact ⟨_, _, _, rfl, by decide, by decide, by decide⟩
  obtain ⟨t0, t1, t2, t3⟩ := (hf.ext hu1).at_ k (by omega)
  try simp only [Nat.reduceMul, Nat.reduceAdd] at t0 t1 t2 t3
  rw [show hasF (k : Nat) = (a, b, c) from habc] at t0 t1 t2
  simp only at t0 t1 t2
  have ha0 : (0 : Int) ≤ a := by omega
  have hb0 : (0 : Int) ≤ b := by omega
  have hc0 : (0 : Int) ≤ c := by omega
  have ha1 : (a : Int) ≤ 17 := by omega
  have hb1 : (b : Int) ≤ 17 := by omega
  have hc1 : (c : Int) ≤ 17 := by omega
  rw [habc] at hs0
  simp only at hs0
  have q0 : (nms.length : Int) < a := by omega
  have HB1 := Lib.hid (new_at w (.cells #[.int .i64 (k : Int), .slice a1 nms.length c1, .int .i64 so, .int .i64 nn, .int .i64 mm, .slice a2 l.length c2] 30))
  have HU1 := Lib.hid hu1
  have hb := new_at w (.cells #[.int .i64 (k : Int), .slice a1 nms.length c1, .int .i64 so, .int .i64 nn, .int .i64 mm, .slice a2 l.length c2] 30)
  obtain ⟨y0, y1, y2, y3, y4, y5⟩ := cells6 hb
  have HBF := Lib.hid (new_at1 w (.cells #[.int .i64 (k : Int), .slice a1 nms.length c1, .int .i64 so, .int .i64 nn, .int .i64 mm, .slice a2 l.length c2] 30) (.cells #[.int .i64 a, .int .i64 b, .int .i64 c, .bool (decide (16 ≤ k))] 136))
  have HU2 : Hid (Upto [] w ((w.alloc (.cells #[.int .i64 (k : Int), .slice a1 nms.length c1, .int .i64 so, .int .i64 nn, .int .i64 mm, .slice a2 l.length c2] 30)).alloc (.cells #[.int .i64 a, .int .i64 b, .int .i64 c, .bool (decide (16 ≤ k))] 136))) := Lib.hid (hu1.alloc _)
  have HBO := Lib.hid (alloc_old hb (.cells #[.int .i64 a, .int .i64 b, .int .i64 c, .bool (decide (16 ≤ k))] 136))

  clear habc _hsb h hs hg hu1 hnm ev hin hb he hf
  go_enter Tryz.func91, Tryz.ntmps91
  go_wp2_with fail
  go_ret
  exact ⟨rfl, HU2.out⟩
set_option maxRecDepth 100000 in
set_option maxHeartbeats 6400000 in
theorem has_s2 (k : Nat) (so nn mm : Int) (nms : List (List UInt8)) (l : List Nd) (hin : inN 10000000 (.mk (k : Int) nms so nn mm l)) (v : Value) (w : World) (P : Nat → Prop) (h : NdV w P (.mk (k : Int) nms so nn mm l) v) (he : Env w) (hf : FEnv w) (hk0 : (0 : Int) ≤ (k : Int)) (hk1 : ((k : Int) : Int) ≤ 17) (_hsb : shapeBad (k : Int) nms.length l.length = true) (hs0 : ¬ nms.length < (hasF (k : Int)).1) (hs1 : (hasF (k : Int)).2.1 < nms.length) : Calls Tryz.prog 91 #[v] w fun e w' => e = .returned (.bool false) ∧ Upto [] w w' := by
  obtain ⟨a1, c1, a2, c2, rfl, hs, hg⟩ := h.open
  unfold inN at hin
  obtain ⟨a1', c1', ev, hnm⟩ := hs.get
  obtain ⟨rfl, rfl⟩ : a1 = a1' ∧ c1 = c1' := by simpa using ev
  have hu1 : Upto [] w (w.alloc (.cells #[.int .i64 (k : Int), .slice a1 nms.length c1, .int .i64 so, .int .i64 nn, .int .i64 mm, .slice a2 l.length c2] 30)) := (Upto.refl [] w).alloc _
  have hll := hin.2.2.1
  have hnl := hin.1
  have HCF := Lib.hid (fun u (hu : Upto [] w u) => containsf_calls nms a1 c1 u (he.ext hu) hnl hin.2.1 (fun i x hi => by
    obtain ⟨g, o, e1, e2⟩ := hnm i _ (by rw [List.getElem?_map, hi]; rfl)
    exact ⟨g, o, e1, (hu.cell (p := ⟨g, o + i, none⟩) (World.block_lt_of_cell? w _ e2) (by simp)).trans e2⟩))
  have hL0 : (0 : Int) ≤ l.length := by omega
  have hL1 : (l.length : Int) ≤ 10000000 := by omega
  have hN0 : (0 : Int) ≤ nms.length := by omega
  have hN1 : (nms.length : Int) ≤ 10000000 := by omega
  obtain ⟨a, b, c, habc, ha17, hb17, hc17⟩ : ∃ a b c : Nat, hasF (k : Int) = (a, b, c) ∧ a ≤ 17 ∧ b ≤ 17 ∧ c ≤ 17 := by
    unfold hasF
    repeat' split
    all_goals exact ⟨_, _, _, rfl, by decide, by decide, by decide⟩
  obtain ⟨t0, t1, t2, t3⟩ := (hf.ext hu1).at_ k (by omega)
  try simp only [Nat.reduceMul, Nat.reduceAdd] at t0 t1 t2 t3
  rw [show hasF (k : Nat) = (a, b, c) from habc] at t0 t1 t2
  simp only at t0 t1 t2
  have ha0 : (0 : Int) ≤ a := by omega
  have hb0 : (0 : Int) ≤ b := by omega
  have hc0 : (0 : Int) ≤ c := by omega
  have ha1 : (a : Int) ≤ 17 := by omega
  have hb1 : (b : Int) ≤ 17 := by omega
  have hc1 : (c : Int) ≤ 17 := by omega
  rw [habc] at hs0 hs1
  simp only at hs0 hs1
  have q0 : ¬ (nms.length : Int) < a := by omega
  have q1 : (b : Int) < nms.length := by omega
  have HB1 := Lib.hid (new_at w (.cells #[.int .i64 (k : Int), .slice a1 nms.length c1, .int .i64 so, .int .i64 nn, .int .i64 mm, .slice a2 l.length c2] 30))
  have HU1 := Lib.hid hu1
  have hb := new_at w (.cells #[.int .i64 (k : Int), .slice a1 nms.length c1, .int .i64 so, .int .i64 nn, .int .i64 mm, .slice a2 l.length c2] 30)
  obtain ⟨y0, y1, y2, y3, y4, y5⟩ := cells6 hb
  have HBF := Lib.hid (new_at1 w (.cells #[.int .i64 (k : Int), .slice a1 nms.length c1, .int .i64 so, .int .i64 nn, .int .i64 mm, .slice a2 l.length c2] 30) (.cells #[.int .i64 a, .int .i64 b, .int .i64 c, .bool (decide (16 ≤ k))] 136))
  have HU2 : Hid (Upto [] w ((w.alloc (.cells #[.int .i64 (k : Int), .slice a1 nms.length c1, .int .i64 so, .int .i64 nn, .int .i64 mm, .slice a2 l.length c2] 30)).alloc (.cells #[.int .i64 a, .int .i64 b, .int .i64 c, .bool (decide (16 ≤ k))] 136))) := Lib.hid (hu1.alloc _)
  have HBO := Lib.hid (alloc_old hb (.cells #[.int .i64 a, .int .i64 b, .int .i64 c, .bool (decide (16 ≤ k))] 136))

  clear habc _hsb h hs hg hu1 hnm ev hin hb he hf
  go_enter Tryz.func91, Tryz.ntmps91
  go_wp2_with fail
  go_ret
  exact ⟨rfl, HU2.out⟩
set_option maxRecDepth 100000 in
set_option maxHeartbeats 6400000 in
theorem has_s3 (k : Nat) (so nn mm : Int) (nms : List (List UInt8)) (l : List Nd) (hin : inN 10000000 (.mk (k : Int) nms so nn mm l)) (v : Value) (w : World) (P : Nat → Prop) (h : NdV w P (.mk (k : Int) nms so nn mm l) v) (he : Env w) (hf : FEnv w) (hk0 : (0 : Int) ≤ (k : Int)) (hk1 : ((k : Int) : Int) ≤ 17) (_hsb : shapeBad (k : Int) nms.length l.length = true) (hs0 : ¬ nms.length < (hasF (k : Int)).1) (hs1 : ¬ (hasF (k : Int)).2.1 < nms.length) (hs3 : l.length ≠ (hasF (k : Int)).2.2) : Calls Tryz.prog 91 #[v] w fun e w' => e = .returned (.bool false) ∧ Upto [] w w' := by
  obtain ⟨a1, c1, a2, c2, rfl, hs, hg⟩ := h.open
  unfold inN at hin
  obtain ⟨a1', c1', ev, hnm⟩ := hs.get
  obtain ⟨rfl, rfl⟩ : a1 = a1' ∧ c1 = c1' := by simpa using ev
  have hu1 : Upto [] w (w.alloc (.cells #[.int .i64 (k : Int), .slice a1 nms.length c1, .int .i64 so, .int .i64 nn, .int .i64 mm, .slice a2 l.length c2] 30)) := (Upto.refl [] w).alloc _
  have hll := hin.2.2.1
  have hnl := hin.1
  have HCF := Lib.hid (fun u (hu : Upto [] w u) => containsf_calls nms a1 c1 u (he.ext hu) hnl hin.2.1 (fun i x hi => by
    obtain ⟨g, o, e1, e2⟩ := hnm i _ (by rw [List.getElem?_map, hi]; rfl)
    exact ⟨g, o, e1, (hu.cell (p := ⟨g, o + i, none⟩) (World.block_lt_of_cell? w _ e2) (by simp)).trans e2⟩))
  have hL0 : (0 : Int) ≤ l.length := by omega
  have hL1 : (l.length : Int) ≤ 10000000 := by omega
  have hN0 : (0 : Int) ≤ nms.length := by omega
  have hN1 : (nms.length : Int) ≤ 10000000 := by omega
  obtain ⟨a, b, c, habc, ha17, hb17, hc17⟩ : ∃ a b c : Nat, hasF (k : Int) = (a, b, c) ∧ a ≤ 17 ∧ b ≤ 17 ∧ c ≤ 17 := by
    unfold hasF
    repeat' split
    all_goals exact ⟨_, _, _, rfl, by decide, by decide, by decide⟩
  obtain ⟨t0, t1, t2, t3⟩ := (hf.ext hu1).at_ k (by omega)
  try simp only [Nat.reduceMul, Nat.reduceAdd] at t0 t1 t2 t3
  rw [show hasF (k : Nat) = (a, b, c) from habc] at t0 t1 t2
  simp only at t0 t1 t2
  have ha0 : (0 : Int) ≤ a := by omega
  have hb0 : (0 : Int) ≤ b := by omega
  have hc0 : (0 : Int) ≤ c := by omega
  have ha1 : (a : Int) ≤ 17 := by omega
  have hb1 : (b : Int) ≤ 17 := by omega
  have hc1 : (c : Int) ≤ 17 := by omega
  rw [habc] at hs0 hs1 hs3
  simp only at hs0 hs1 hs3
  have q0 : ¬ (nms.length : Int) < a := by omega
  have q1 : ¬ (b : Int) < nms.length := by omega
  have q2 : ((l.length : Int) == (c : Int)) = false := by rw [beq_eq_false_iff_ne]; omega
  have q2b : ((l.length : Int) != (c : Int)) = true := by rw [bne, q2]; rfl
  have HB1 := Lib.hid (new_at w (.cells #[.int .i64 (k : Int), .slice a1 nms.length c1, .int .i64 so, .int .i64 nn, .int .i64 mm, .slice a2 l.length c2] 30))
  have HU1 := Lib.hid hu1
  have hb := new_at w (.cells #[.int .i64 (k : Int), .slice a1 nms.length c1, .int .i64 so, .int .i64 nn, .int .i64 mm, .slice a2 l.length c2] 30)
  obtain ⟨y0, y1, y2, y3, y4, y5⟩ := cells6 hb
  have HBF := Lib.hid (new_at1 w (.cells #[.int .i64 (k : Int), .slice a1 nms.length c1, .int .i64 so, .int .i64 nn, .int .i64 mm, .slice a2 l.length c2] 30) (.cells #[.int .i64 a, .int .i64 b, .int .i64 c, .bool (decide (16 ≤ k))] 136))
  have HU2 : Hid (Upto [] w ((w.alloc (.cells #[.int .i64 (k : Int), .slice a1 nms.length c1, .int .i64 so, .int .i64 nn, .int .i64 mm, .slice a2 l.length c2] 30)).alloc (.cells #[.int .i64 a, .int .i64 b, .int .i64 c, .bool (decide (16 ≤ k))] 136))) := Lib.hid (hu1.alloc _)
  have HBO := Lib.hid (alloc_old hb (.cells #[.int .i64 a, .int .i64 b, .int .i64 c, .bool (decide (16 ≤ k))] 136))

  clear habc _hsb h hs hg hu1 hnm ev hin hb he hf
  go_enter Tryz.func91, Tryz.ntmps91
  go_wp2_with fail
  go_ret
  exact ⟨rfl, HU2.out⟩
end Go.Proofs.YtbnebkkpmcjmbaaGreatDoor


namespace Go.Proofs.YtbnebkkpmcjmbaaGreatDoor
open Go.RowKit Go.PL Go.Maps
theorem hasf_calls (op so nn mm : Int) (nms : List (List UInt8)) (l : List Nd) (hin : inN 10000000 (.mk op nms so nn mm l)) (v : Value) (w : World) (P : Nat → Prop) (h : NdV w P (.mk op nms so nn mm l) v) (he : Env w) (hf : FEnv w) (hk0 : (0 : Int) ≤ op) (hk1 : op ≤ 17) :
    Calls Tryz.prog 91 #[v] w fun e w' => e = .returned (.bool (!shapeBad op nms.length l.length && nms.all identF && !zeroBad op so nn mm)) ∧ Upto [] w w' := by
  obtain ⟨k, rfl⟩ := Int.eq_ofNat_of_zero_le hk0
  cases hs : shapeBad (k : Int) nms.length l.length with
  | true =>
    rw [show (!true && nms.all identF && !zeroBad (k : Int) so nn mm) = false from rfl]
    by_cases s1 : nms.length < (hasF (k : Int)).1
    · exact has_s1 k so nn mm nms l hin v w P h he hf hk0 hk1 hs s1
    by_cases s2 : (hasF (k : Int)).2.1 < nms.length
    · exact has_s2 k so nn mm nms l hin v w P h he hf hk0 hk1 hs s1 s2
    refine has_s3 k so nn mm nms l hin v w P h he hf hk0 hk1 hs s1 s2 ?_
    intro s3
    unfold shapeBad at hs
    simp at hs
    omega
  | false =>
    cases ha : nms.all identF with
    | false => exact has_n k so nn mm nms l hin v w P h he hf hk0 hk1 hs ha
    | true =>
      have T : zeroBad (k : Int) so nn mm = true → (!false && true && !zeroBad (k : Int) so nn mm) = false := fun h => by rw [h]; rfl
      have G : zeroBad (k : Int) so nn mm = false → (!false && true && !zeroBad (k : Int) so nn mm) = true := fun h => by rw [h]; rfl
      by_cases c7 : k = 7
      · subst c7
        by_cases t1 : so ≠ 0
        · rw [T (by simp [zeroBad, *])]; exact has_7a so nn mm nms l hin v w P h he hf hk0 hk1 hs ha t1
        obtain rfl : so = 0 := Decidable.not_not.1 t1
        by_cases t2 : mm ≠ 0
        · rw [T (by simp [zeroBad, *])]; exact has_7b nn mm nms l hin v w P h he hf hk0 hk1 hs ha t2
        obtain rfl : mm = 0 := Decidable.not_not.1 t2
        rw [G (by simp [zeroBad])]; exact has_7g nn nms l hin v w P h he hf hk0 hk1 hs ha
      by_cases c8 : k = 8
      · subst c8
        by_cases t1 : so ≠ 0
        · rw [T (by simp [zeroBad, *])]; exact has_8a so nn mm nms l hin v w P h he hf hk0 hk1 hs ha t1
        obtain rfl : so = 0 := Decidable.not_not.1 t1
        rw [G (by simp [zeroBad])]; exact has_8g nn mm nms l hin v w P h he hf hk0 hk1 hs ha
      have o7 : (k : Int) ≠ 7 := by omega
      have o8 : (k : Int) ≠ 8 := by omega
      by_cases c16 : k < 16
      · have c16' : (k : Int) < 16 := by omega
        by_cases t1 : so ≠ 0
        · rw [T (by simp [zeroBad, *])]; exact has_oa k so nn mm nms l hin v w P h he hf hk0 hk1 hs ha o7 o8 c16 t1
        obtain rfl : so = 0 := Decidable.not_not.1 t1
        by_cases t2 : nn ≠ 0
        · rw [T (by simp [zeroBad, *])]; exact has_ob k nn mm nms l hin v w P h he hf hk0 hk1 hs ha o7 o8 c16 t2
        obtain rfl : nn = 0 := Decidable.not_not.1 t2
        by_cases t3 : mm ≠ 0
        · rw [T (by simp [zeroBad, *])]; exact has_oc k mm nms l hin v w P h he hf hk0 hk1 hs ha o7 o8 c16 t3
        obtain rfl : mm = 0 := Decidable.not_not.1 t3
        rw [G (by simp [zeroBad])]; exact has_og k nms l hin v w P h he hf hk0 hk1 hs ha o7 o8 c16
      have c16' : ¬ (k : Int) < 16 := by omega
      by_cases t2 : nn ≠ 0
      · rw [T (by simp [zeroBad, *])]; exact has_hb k so nn mm nms l hin v w P h he hf hk0 hk1 hs ha o7 o8 c16 t2
      obtain rfl : nn = 0 := Decidable.not_not.1 t2
      by_cases t3 : mm ≠ 0
      · rw [T (by simp [zeroBad, *])]; exact has_hc k so mm nms l hin v w P h he hf hk0 hk1 hs ha o7 o8 c16 t3
      obtain rfl : mm = 0 := Decidable.not_not.1 t3
      rw [G (by simp [zeroBad, *])]; exact has_hg k so nms l hin v w P h he hf hk0 hk1 hs ha o7 o8 c16
end Go.Proofs.YtbnebkkpmcjmbaaGreatDoor


namespace Go.Proofs.YtbnebkkpmcjmbaaGreatDoor
open Go.RowKit Go.PL Go.Maps
set_option maxRecDepth 100000 in
set_option maxHeartbeats 1600000 in
theorem rg_7a (so nn mm : Int) (a1 a2 : Option Addr) (n1 n2 c1 c2 : Nat) (w : World) (h : nn < 0) : Calls Tryz.prog 92 #[.agg #[.int .i64 7, .slice a1 n1 c1, .int .i64 so, .int .i64 nn, .int .i64 mm, .slice a2 n2 c2]] w fun e w' => e = .returned (.bool false) ∧ Upto [] w w' := by
  have hu : Upto [] w (w.alloc (.cells #[.int .i64 7, .slice a1 n1 c1, .int .i64 so, .int .i64 nn, .int .i64 mm, .slice a2 n2 c2] 30)) := (Upto.refl [] w).alloc _
  have hb := new_at w (.cells #[.int .i64 7, .slice a1 n1 c1, .int .i64 so, .int .i64 nn, .int .i64 mm, .slice a2 n2 c2] 30)
  obtain ⟨y0, y1, y2, y3, y4, y5⟩ := cells6 hb
  have HU := Lib.hid hu
  clear hb hu
  have q : ¬ (0 : Int) ≤ nn := by omega
  go_enter Tryz.func92, Tryz.ntmps92
  go_wp2_with fail
  go_ret
  exact ⟨rfl, HU.out⟩
set_option maxRecDepth 100000 in
set_option maxHeartbeats 1600000 in
theorem rg_7b (so nn mm : Int) (a1 a2 : Option Addr) (n1 n2 c1 c2 : Nat) (w : World) (h : (0 : Int) ≤ nn) (h2 : 7 < nn) : Calls Tryz.prog 92 #[.agg #[.int .i64 7, .slice a1 n1 c1, .int .i64 so, .int .i64 nn, .int .i64 mm, .slice a2 n2 c2]] w fun e w' => e = .returned (.bool false) ∧ Upto [] w w' := by
  have hu : Upto [] w (w.alloc (.cells #[.int .i64 7, .slice a1 n1 c1, .int .i64 so, .int .i64 nn, .int .i64 mm, .slice a2 n2 c2] 30)) := (Upto.refl [] w).alloc _
  have hb := new_at w (.cells #[.int .i64 7, .slice a1 n1 c1, .int .i64 so, .int .i64 nn, .int .i64 mm, .slice a2 n2 c2] 30)
  obtain ⟨y0, y1, y2, y3, y4, y5⟩ := cells6 hb
  have HU := Lib.hid hu
  clear hb hu
  have q : ¬ nn ≤ (7 : Int) := by omega
  go_enter Tryz.func92, Tryz.ntmps92
  go_wp2_with fail
  go_ret
  exact ⟨rfl, HU.out⟩
set_option maxRecDepth 100000 in
set_option maxHeartbeats 1600000 in
theorem rg_7g (so nn mm : Int) (a1 a2 : Option Addr) (n1 n2 c1 c2 : Nat) (w : World) (h : (0 : Int) ≤ nn) (h2 : nn ≤ 7) : Calls Tryz.prog 92 #[.agg #[.int .i64 7, .slice a1 n1 c1, .int .i64 so, .int .i64 nn, .int .i64 mm, .slice a2 n2 c2]] w fun e w' => e = .returned (.bool true) ∧ Upto [] w w' := by
  have hu : Upto [] w (w.alloc (.cells #[.int .i64 7, .slice a1 n1 c1, .int .i64 so, .int .i64 nn, .int .i64 mm, .slice a2 n2 c2] 30)) := (Upto.refl [] w).alloc _
  have hb := new_at w (.cells #[.int .i64 7, .slice a1 n1 c1, .int .i64 so, .int .i64 nn, .int .i64 mm, .slice a2 n2 c2] 30)
  obtain ⟨y0, y1, y2, y3, y4, y5⟩ := cells6 hb
  have HU := Lib.hid hu
  clear hb hu
  go_enter Tryz.func92, Tryz.ntmps92
  go_wp2_with fail
  go_ret
  exact ⟨rfl, HU.out⟩
set_option maxRecDepth 100000 in
set_option maxHeartbeats 1600000 in
theorem rg_8a (so nn mm : Int) (a1 a2 : Option Addr) (n1 n2 c1 c2 : Nat) (w : World) (h : mm < 1) : Calls Tryz.prog 92 #[.agg #[.int .i64 8, .slice a1 n1 c1, .int .i64 so, .int .i64 nn, .int .i64 mm, .slice a2 n2 c2]] w fun e w' => e = .returned (.bool false) ∧ Upto [] w w' := by
  have hu : Upto [] w (w.alloc (.cells #[.int .i64 8, .slice a1 n1 c1, .int .i64 so, .int .i64 nn, .int .i64 mm, .slice a2 n2 c2] 30)) := (Upto.refl [] w).alloc _
  have hb := new_at w (.cells #[.int .i64 8, .slice a1 n1 c1, .int .i64 so, .int .i64 nn, .int .i64 mm, .slice a2 n2 c2] 30)
  obtain ⟨y0, y1, y2, y3, y4, y5⟩ := cells6 hb
  have HU := Lib.hid hu
  clear hb hu
  have q : ¬ (1 : Int) ≤ mm := by omega
  go_enter Tryz.func92, Tryz.ntmps92
  go_wp2_with fail
  go_ret
  exact ⟨rfl, HU.out⟩
set_option maxRecDepth 100000 in
set_option maxHeartbeats 1600000 in
theorem rg_8b (so nn mm : Int) (a1 a2 : Option Addr) (n1 n2 c1 c2 : Nat) (w : World) (h : (1 : Int) ≤ mm) (h2 : 64 < mm) : Calls Tryz.prog 92 #[.agg #[.int .i64 8, .slice a1 n1 c1, .int .i64 so, .int .i64 nn, .int .i64 mm, .slice a2 n2 c2]] w fun e w' => e = .returned (.bool false) ∧ Upto [] w w' := by
  have hu : Upto [] w (w.alloc (.cells #[.int .i64 8, .slice a1 n1 c1, .int .i64 so, .int .i64 nn, .int .i64 mm, .slice a2 n2 c2] 30)) := (Upto.refl [] w).alloc _
  have hb := new_at w (.cells #[.int .i64 8, .slice a1 n1 c1, .int .i64 so, .int .i64 nn, .int .i64 mm, .slice a2 n2 c2] 30)
  obtain ⟨y0, y1, y2, y3, y4, y5⟩ := cells6 hb
  have HU := Lib.hid hu
  clear hb hu
  have q : ¬ mm ≤ (64 : Int) := by omega
  go_enter Tryz.func92, Tryz.ntmps92
  go_wp2_with fail
  go_ret
  exact ⟨rfl, HU.out⟩
set_option maxRecDepth 100000 in
set_option maxHeartbeats 1600000 in
theorem rg_8c (so nn mm : Int) (a1 a2 : Option Addr) (n1 n2 c1 c2 : Nat) (w : World) (h : (1 : Int) ≤ mm) (h2 : mm ≤ 64) (h3 : nn < 0) : Calls Tryz.prog 92 #[.agg #[.int .i64 8, .slice a1 n1 c1, .int .i64 so, .int .i64 nn, .int .i64 mm, .slice a2 n2 c2]] w fun e w' => e = .returned (.bool false) ∧ Upto [] w w' := by
  have hu : Upto [] w (w.alloc (.cells #[.int .i64 8, .slice a1 n1 c1, .int .i64 so, .int .i64 nn, .int .i64 mm, .slice a2 n2 c2] 30)) := (Upto.refl [] w).alloc _
  have hb := new_at w (.cells #[.int .i64 8, .slice a1 n1 c1, .int .i64 so, .int .i64 nn, .int .i64 mm, .slice a2 n2 c2] 30)
  obtain ⟨y0, y1, y2, y3, y4, y5⟩ := cells6 hb
  have HU := Lib.hid hu
  clear hb hu
  have q : ¬ (0 : Int) ≤ nn := by omega
  go_enter Tryz.func92, Tryz.ntmps92
  go_wp2_with fail
  go_ret
  exact ⟨rfl, HU.out⟩
set_option maxRecDepth 100000 in
set_option maxHeartbeats 1600000 in
theorem rg_8d (so nn mm : Int) (a1 a2 : Option Addr) (n1 n2 c1 c2 : Nat) (w : World) (h : (1 : Int) ≤ mm) (h2 : mm ≤ 64) (h3 : (0 : Int) ≤ nn) (h4 : mm ≤ nn) : Calls Tryz.prog 92 #[.agg #[.int .i64 8, .slice a1 n1 c1, .int .i64 so, .int .i64 nn, .int .i64 mm, .slice a2 n2 c2]] w fun e w' => e = .returned (.bool false) ∧ Upto [] w w' := by
  have hu : Upto [] w (w.alloc (.cells #[.int .i64 8, .slice a1 n1 c1, .int .i64 so, .int .i64 nn, .int .i64 mm, .slice a2 n2 c2] 30)) := (Upto.refl [] w).alloc _
  have hb := new_at w (.cells #[.int .i64 8, .slice a1 n1 c1, .int .i64 so, .int .i64 nn, .int .i64 mm, .slice a2 n2 c2] 30)
  obtain ⟨y0, y1, y2, y3, y4, y5⟩ := cells6 hb
  have HU := Lib.hid hu
  clear hb hu
  have q : ¬ nn < mm := by omega
  go_enter Tryz.func92, Tryz.ntmps92
  go_wp2_with fail
  go_ret
  exact ⟨rfl, HU.out⟩
set_option maxRecDepth 100000 in
set_option maxHeartbeats 1600000 in
theorem rg_8g (so nn mm : Int) (a1 a2 : Option Addr) (n1 n2 c1 c2 : Nat) (w : World) (h : (1 : Int) ≤ mm) (h2 : mm ≤ 64) (h3 : (0 : Int) ≤ nn) (h4 : nn < mm) : Calls Tryz.prog 92 #[.agg #[.int .i64 8, .slice a1 n1 c1, .int .i64 so, .int .i64 nn, .int .i64 mm, .slice a2 n2 c2]] w fun e w' => e = .returned (.bool true) ∧ Upto [] w w' := by
  have hu : Upto [] w (w.alloc (.cells #[.int .i64 8, .slice a1 n1 c1, .int .i64 so, .int .i64 nn, .int .i64 mm, .slice a2 n2 c2] 30)) := (Upto.refl [] w).alloc _
  have hb := new_at w (.cells #[.int .i64 8, .slice a1 n1 c1, .int .i64 so, .int .i64 nn, .int .i64 mm, .slice a2 n2 c2] 30)
  obtain ⟨y0, y1, y2, y3, y4, y5⟩ := cells6 hb
  have HU := Lib.hid hu
  clear hb hu
  go_enter Tryz.func92, Tryz.ntmps92
  go_wp2_with fail
  go_ret
  exact ⟨rfl, HU.out⟩
set_option maxRecDepth 100000 in
set_option maxHeartbeats 1600000 in
theorem rg_oa (op so nn mm : Int) (a1 a2 : Option Addr) (n1 n2 c1 c2 : Nat) (w : World) (o7 : op ≠ 7) (o8 : op ≠ 8) (h : so < 0) : Calls Tryz.prog 92 #[.agg #[.int .i64 op, .slice a1 n1 c1, .int .i64 so, .int .i64 nn, .int .i64 mm, .slice a2 n2 c2]] w fun e w' => e = .returned (.bool false) ∧ Upto [] w w' := by
  have hu : Upto [] w (w.alloc (.cells #[.int .i64 op, .slice a1 n1 c1, .int .i64 so, .int .i64 nn, .int .i64 mm, .slice a2 n2 c2] 30)) := (Upto.refl [] w).alloc _
  have hb := new_at w (.cells #[.int .i64 op, .slice a1 n1 c1, .int .i64 so, .int .i64 nn, .int .i64 mm, .slice a2 n2 c2] 30)
  obtain ⟨y0, y1, y2, y3, y4, y5⟩ := cells6 hb
  have HU := Lib.hid hu
  clear hb hu
  have e7 : (op == (7 : Int)) = false := by rw [beq_eq_false_iff_ne]; exact o7
  have e8 : (op == (8 : Int)) = false := by rw [beq_eq_false_iff_ne]; exact o8
  have q : ¬ (0 : Int) ≤ so := by omega
  go_enter Tryz.func92, Tryz.ntmps92
  go_wp2_with fail
  go_ret
  exact ⟨rfl, HU.out⟩
set_option maxRecDepth 100000 in
set_option maxHeartbeats 1600000 in
theorem rg_ob (op so nn mm : Int) (a1 a2 : Option Addr) (n1 n2 c1 c2 : Nat) (w : World) (o7 : op ≠ 7) (o8 : op ≠ 8) (h : (0 : Int) ≤ so) (h2 : 3 < so) : Calls Tryz.prog 92 #[.agg #[.int .i64 op, .slice a1 n1 c1, .int .i64 so, .int .i64 nn, .int .i64 mm, .slice a2 n2 c2]] w fun e w' => e = .returned (.bool false) ∧ Upto [] w w' := by
  have hu : Upto [] w (w.alloc (.cells #[.int .i64 op, .slice a1 n1 c1, .int .i64 so, .int .i64 nn, .int .i64 mm, .slice a2 n2 c2] 30)) := (Upto.refl [] w).alloc _
  have hb := new_at w (.cells #[.int .i64 op, .slice a1 n1 c1, .int .i64 so, .int .i64 nn, .int .i64 mm, .slice a2 n2 c2] 30)
  obtain ⟨y0, y1, y2, y3, y4, y5⟩ := cells6 hb
  have HU := Lib.hid hu
  clear hb hu
  have e7 : (op == (7 : Int)) = false := by rw [beq_eq_false_iff_ne]; exact o7
  have e8 : (op == (8 : Int)) = false := by rw [beq_eq_false_iff_ne]; exact o8
  have q : ¬ so < (4 : Int) := by omega
  go_enter Tryz.func92, Tryz.ntmps92
  go_wp2_with fail
  go_ret
  exact ⟨rfl, HU.out⟩
set_option maxRecDepth 100000 in
set_option maxHeartbeats 1600000 in
theorem rg_og (op so nn mm : Int) (a1 a2 : Option Addr) (n1 n2 c1 c2 : Nat) (w : World) (o7 : op ≠ 7) (o8 : op ≠ 8) (h : (0 : Int) ≤ so) (h2 : so < 4) : Calls Tryz.prog 92 #[.agg #[.int .i64 op, .slice a1 n1 c1, .int .i64 so, .int .i64 nn, .int .i64 mm, .slice a2 n2 c2]] w fun e w' => e = .returned (.bool true) ∧ Upto [] w w' := by
  have hu : Upto [] w (w.alloc (.cells #[.int .i64 op, .slice a1 n1 c1, .int .i64 so, .int .i64 nn, .int .i64 mm, .slice a2 n2 c2] 30)) := (Upto.refl [] w).alloc _
  have hb := new_at w (.cells #[.int .i64 op, .slice a1 n1 c1, .int .i64 so, .int .i64 nn, .int .i64 mm, .slice a2 n2 c2] 30)
  obtain ⟨y0, y1, y2, y3, y4, y5⟩ := cells6 hb
  have HU := Lib.hid hu
  clear hb hu
  have e7 : (op == (7 : Int)) = false := by rw [beq_eq_false_iff_ne]; exact o7
  have e8 : (op == (8 : Int)) = false := by rw [beq_eq_false_iff_ne]; exact o8
  go_enter Tryz.func92, Tryz.ntmps92
  go_wp2_with fail
  go_ret
  exact ⟨rfl, HU.out⟩
end Go.Proofs.YtbnebkkpmcjmbaaGreatDoor


namespace Go.Proofs.YtbnebkkpmcjmbaaGreatDoor
open Go.RowKit Go.PL Go.Maps
theorem ranges_calls (op so nn mm : Int) (nms : List (List UInt8)) (l : List Nd) (v : Value) (w : World) (P : Nat → Prop) (h : NdV w P (.mk op nms so nn mm l) v) (hz : zeroBad op so nn mm = false) :
    Calls Tryz.prog 92 #[v] w fun e w' => e = .returned (.bool (!rangeBad op so nn mm)) ∧ Upto [] w w' := by
  obtain ⟨a1, c1, a2, c2, rfl, -, -⟩ := h.open
  have T : rangeBad op so nn mm = true → (!rangeBad op so nn mm) = false := fun h => by rw [h]; rfl
  have G : rangeBad op so nn mm = false → (!rangeBad op so nn mm) = true := fun h => by rw [h]; rfl
  by_cases c7 : op = 7
  · subst c7
    have hso : so = 0 := by
      unfold zeroBad at hz
      simp at hz
      exact hz.2
    by_cases t1 : nn < 0
    · rw [T (by simp [rangeBad, *])]; exact rg_7a so nn mm a1 a2 _ _ c1 c2 w t1
    by_cases t2 : 7 < nn
    · rw [T (by simp [rangeBad, *])]; exact rg_7b so nn mm a1 a2 _ _ c1 c2 w (by omega) t2
    rw [G (by simp [rangeBad]; omega)]; exact rg_7g so nn mm a1 a2 _ _ c1 c2 w (by omega) (by omega)
  by_cases c8 : op = 8
  · subst c8
    have hso : so = 0 := by
      unfold zeroBad at hz
      simp at hz
      exact hz
    by_cases t1 : mm < 1
    · rw [T (by simp [rangeBad, *])]; exact rg_8a so nn mm a1 a2 _ _ c1 c2 w t1
    by_cases t2 : 64 < mm
    · rw [T (by simp [rangeBad, *])]; exact rg_8b so nn mm a1 a2 _ _ c1 c2 w (by omega) t2
    by_cases t3 : nn < 0
    · rw [T (by simp [rangeBad, *])]; exact rg_8c so nn mm a1 a2 _ _ c1 c2 w (by omega) (by omega) t3
    by_cases t4 : mm ≤ nn
    · rw [T (by simp [rangeBad, *])]; exact rg_8d so nn mm a1 a2 _ _ c1 c2 w (by omega) (by omega) (by omega) t4
    rw [G (by simp [rangeBad]; omega)]; exact rg_8g so nn mm a1 a2 _ _ c1 c2 w (by omega) (by omega) (by omega) (by omega)
  by_cases t1 : so < 0
  · rw [T (by simp [rangeBad, *])]; exact rg_oa op so nn mm a1 a2 _ _ c1 c2 w c7 c8 t1
  by_cases t2 : 3 < so
  · rw [T (by simp [rangeBad, *])]; exact rg_ob op so nn mm a1 a2 _ _ c1 c2 w c7 c8 (by omega) t2
  rw [G (by simp [rangeBad, c7, c8]; omega)]; exact rg_og op so nn mm a1 a2 _ _ c1 c2 w c7 c8 (by omega) (by omega)
end Go.Proofs.YtbnebkkpmcjmbaaGreatDoor


namespace Go.Proofs.YtbnebkkpmcjmbaaGreatDoor
open Go.RowKit Go.PL Go.Maps
theorem ident_all (s : List UInt8) : identF s = nameF s := by
  by_cases h : s.length ≤ 65536
  · exact ident_name h
  · have h1 : identF s = false := by
      unfold identF
      cases ho : oneF s with
      | none => rfl
      | some kv =>
        obtain ⟨k, v⟩ := kv
        exact absurd (oneF_real.1 ho).1 h
    have h2 : nameF s = false := by
      rw [Bool.eq_false_iff]
      intro hn
      simp only [nameF, Bool.and_eq_true, decide_eq_true_eq] at hn
      obtain ⟨⟨n1, -⟩, n3⟩ := hn
      cases s with
      | nil => exact n1 rfl
      | cons b t =>
        cases hc : classify (b :: t) with
        | error e => rw [hc] at n3; cases n3
        | ok p =>
          rw [hc] at n3
          simp only [classify] at hc
          split at hc
          · split at hc
            · cases hc
            · split at hc
              · cases hc
              · cases hc; simp at n3
          · split at hc
            · cases hc
            · split at hc
              · cases hc; simp at n3
              · split at hc
                · cases hc
                · omega
    rw [h1, h2]
set_option maxRecDepth 100000 in
set_option maxHeartbeats 12800000 in
theorem nodes_calls : ∀ (k : Nat) (nd : Nd), sizeF nd ≤ k → inN 10000000 nd → k ≤ 10000000 → ∀ (v : Value) (w : World) (P : Nat → Prop), NdV w P nd v → Env w → FEnv w → Calls Tryz.prog 70 #[v] w fun e w' => e = .returned (.int .i64 (formF nameF nd : Nat)) ∧ Upto [] w w'
  | 0, nd, hk, _, _, _, _, _, _, _, _ => by have := sizeF_pos nd; omega
  | k + 1, .mk op nms so nn mm l, hk, hin, hk7, v, w, P, h, he, hf => by
    have hin0 := hin
    obtain ⟨a1, c1, a2, c2, rfl, -, hg⟩ := h.open
    unfold inN at hin
    have HG := Lib.hid hg
    have hsz : sizesF l ≤ k := by simp only [sizeF] at hk; omega
    have HSZ := Lib.hid hsz
    have HIN := Lib.hid hin
    have HE := Lib.hid (And.intro he hf)
    have hu1 : Upto [] w (w.alloc (.cells #[.int .i64 op, .slice a1 nms.length c1, .int .i64 so, .int .i64 nn, .int .i64 mm, .slice a2 l.length c2] 30)) := (Upto.refl [] w).alloc _
    have HB1 := Lib.hid (new_at w (.cells #[.int .i64 op, .slice a1 nms.length c1, .int .i64 so, .int .i64 nn, .int .i64 mm, .slice a2 l.length c2] 30))
    have HU1 := Lib.hid hu1
    have hll := hin.2.2.1
    have hL0 : (0 : Int) ≤ l.length := by omega
    have hL1 : (l.length : Int) ≤ 10000000 := by omega
    have HID : Hid (nms.all identF = nms.all nameF) := Lib.hid (by rw [show identF = nameF from funext ident_all])
    by_cases hk0 : op < 0
    · have HF : Hid (formF nameF (.mk op nms so nn mm l) = 11) := Lib.hid (by unfold formF kindBad; rw [if_pos (by simp [hk0])])
      rw [HF.out]
      clear h hg hsz hk hu1 hin hin0 he hf
      go_enter Tryz.func70, Tryz.ntmps70
      go_wp2_with fail
      go_ret
      exact ⟨rfl, HU1.out⟩
    by_cases hk1 : 17 < op
    · have HF : Hid (formF nameF (.mk op nms so nn mm l) = 11) := Lib.hid (by unfold formF kindBad; rw [if_pos (by simp [hk1])])
      have hq : (18 : Int) ≤ op := by omega
      rw [HF.out]
      clear h hg hsz hk hu1 hin hin0 he hf
      go_enter Tryz.func70, Tryz.ntmps70
      go_wp2_with fail
      go_ret
      exact ⟨rfl, HU1.out⟩
    have hq : ¬ (18 : Int) ≤ op := by omega
    have HKB : Hid (kindBad op = false) := Lib.hid (by unfold kindBad; simp; omega)
    have HH := Lib.hid (fun u (hu : Upto [] w u) => hasf_calls op so nn mm nms l hin0 _ u P (h.ext hu) (he.ext hu) (hf.ext hu) (by omega) (by omega))
    by_cases hh : (!shapeBad op nms.length l.length && nms.all identF && !zeroBad op so nn mm) = false
    · have HF : Hid (formF nameF (.mk op nms so nn mm l) = 3) := Lib.hid (by
        unfold formF
        rw [if_neg (by rw [HKB.out]; decide)]
        rw [HID.out] at hh
        cases e1 : shapeBad op nms.length l.length with
        | true => rw [if_pos rfl]
        | false =>
          rw [if_neg (by decide)]
          cases e2 : nms.all nameF with
          | false => rw [if_pos rfl]
          | true =>
            rw [if_neg (by decide)]
            cases e3 : zeroBad op so nn mm with
            | true => rw [if_pos rfl]
            | false => rw [e1, e2, e3] at hh; cases hh)
      rw [HF.out]
      rw [hh] at HH
      have hb := new_at w (.cells #[.int .i64 op, .slice a1 nms.length c1, .int .i64 so, .int .i64 nn, .int .i64 mm, .slice a2 l.length c2] 30)
      obtain ⟨y0, y1, y2, y3, y4, y5⟩ := cells6 hb
      clear h hg hsz hk hu1 hin hin0 he hf hh hb
      go_enter Tryz.func70, Tryz.ntmps70
      go_wp2_with fail
      refine (HH.out _ HU1.out).mono ?_
      rintro e w5 ⟨rfl, hu5⟩
      have HU5 := Lib.hid (HU1.out.trans_ext hu5)
      clear hu5
      go_wp2_with fail
      go_ret
      exact ⟨rfl, HU5.out⟩
    have hh := (Bool.not_eq_false _).mp hh
    obtain ⟨hs1, hs2, hs3⟩ : shapeBad op nms.length l.length = false ∧ nms.all nameF = true ∧ zeroBad op so nn mm = false := by
      have h2 := hh
      rw [HID.out] at h2
      simp only [Bool.and_eq_true, Bool.not_eq_true'] at h2
      exact ⟨h2.1.1, h2.1.2, h2.2⟩
    rw [hh] at HH
    have HT : Hid (∀ n : Nat, (if rangeBad op so nn mm then 2 else formsF nameF l) = n → formF nameF (.mk op nms so nn mm l) = n) := Lib.hid (fun n hn => by
      unfold formF
      rw [if_neg (by rw [HKB.out]; decide), if_neg (by rw [hs1]; decide), if_neg (by rw [hs2]; decide), if_neg (by rw [hs3]; decide)]
      exact hn)
    have HR := Lib.hid (fun u (hu : Upto [] w u) => ranges_calls op so nn mm nms l _ u P (h.ext hu) hs3)
    have IH : Hid (∀ (nd : Nd), sizeF nd ≤ k → inN 10000000 nd → ∀ (v : Value) (u : World) (P : Nat → Prop), Upto [] w u → NdV u P nd v → Calls Tryz.prog 70 #[v] u fun e w' => e = .returned (.int .i64 (formF nameF nd : Nat)) ∧ Upto [] u w') := Lib.hid (fun nd h1 h2 v u P hu hn => nodes_calls k nd h1 h2 (by omega) v u P hn (he.ext hu) (hf.ext hu))
    clear hh hs1 hs2 hs3
    have hb := new_at w (.cells #[.int .i64 op, .slice a1 nms.length c1, .int .i64 so, .int .i64 nn, .int .i64 mm, .slice a2 l.length c2] 30)
    obtain ⟨y0, y1, y2, y3, y4, y5⟩ := cells6 hb
    cases hr : rangeBad op so nn mm with
    | true =>
      rw [HT.out 2 (by rw [hr]; rfl)]
      rw [hr] at HR
      clear h hg hsz hk hu1 hin hin0 he hf hb
      go_enter Tryz.func70, Tryz.ntmps70
      go_wp2_with fail
      refine (HH.out _ HU1.out).mono ?_
      rintro e w5 ⟨rfl, hu5⟩
      have HU5 := Lib.hid (HU1.out.trans_ext hu5)
      have hb5 := hu5.at HB1.out (by simp)
      obtain ⟨z0, z1, z2, z3, z4, z5⟩ := cells6 hb5
      clear hu5 hb5 y0 y1 y2 y3 y4 y5
      go_wp2_with fail
      refine (HR.out _ HU5.out).mono ?_
      rintro e w6 ⟨rfl, hu6⟩
      have HU6 := Lib.hid (HU5.out.trans_ext hu6)
      clear hu6
      go_wp2_with fail
      go_ret
      exact ⟨rfl, HU6.out⟩
    | false =>
      rw [HT.out _ (by rw [hr])]
      rw [hr] at HR
      clear h hg hsz hk hu1 hin hin0 he hf hb HT
      go_enter Tryz.func70, Tryz.ntmps70
      go_wp2_with fail
      refine (HH.out _ HU1.out).mono ?_
      rintro e w5 ⟨rfl, hu5⟩
      have HU5 := Lib.hid (HU1.out.trans_ext hu5)
      have hb5 := hu5.at HB1.out (by simp)
      have HB5 := Lib.hid hb5
      obtain ⟨z0, z1, z2, z3, z4, z5⟩ := cells6 hb5
      clear hu5 hb5 y0 y1 y2 y3 y4 y5
      go_wp2_with fail
      refine (HR.out _ HU5.out).mono ?_
      rintro e w6 ⟨rfl, hu6⟩
      have HU6 := Lib.hid (HU5.out.trans_ext hu6)
      have hb6 := hu6.at HB5.out (by simp)
      clear z0 z1 z2 z3 z4 z5
      have z5 := cell_of hb6 5
      simp only [List.getElem?_toArray, List.getElem?_cons_zero, List.getElem?_cons_succ] at z5
      have HB6 := Lib.hid (hu6.at HB5.out (by simp))
      clear hu6 hb6
      go_wp2_with fail
      go_loopw [26] (fun i wr => ∃ m : Nat, m ≤ l.length ∧ i = .int .i64 m ∧ Hid (formsF nameF (l.drop m) = formsF nameF l) ∧ Hid (Upto [] w6 wr)) (fun i _ => l.length - (intOf i).toNat)
      case atStart => exact ⟨0, by omega, rfl, Lib.hid rfl, Lib.hid (Upto.refl _ _)⟩
      case round =>
        obtain ⟨m, hm, rfl, HB9, HV⟩ := hrel
        have hm0 : (0 : Int) ≤ m := by omega
        have HW2 := Lib.hid (HU6.out.trans_ext HV.out)
        rcases Nat.lt_or_ge m l.length with hlt | hge2
        · have hltI : (m : Int) < l.length := by omega
          obtain ⟨x, hx⟩ : ∃ x, l[m]? = some x := ⟨_, List.getElem?_eq_getElem hlt⟩
          have HDR : Hid (l.drop m = x :: l.drop (m + 1)) := Lib.hid (by
            obtain ⟨hi, h3⟩ := List.getElem?_eq_some_iff.1 hx
            rw [List.drop_eq_getElem_cons hi, h3])
          obtain ⟨g, o, xo, xn1, xn2, xn3, xs, xm, xq, xl1, xl2, xl3, rfl, d0, d1, d2, d3, d4, d5, hnx⟩ := HG.out m x hx
          replace d0 := up_cell HW2.out d0
          replace d1 := up_cell HW2.out d1
          replace d2 := up_cell HW2.out d2
          replace d3 := up_cell HW2.out d3
          replace d4 := up_cell HW2.out d4
          replace d5 := up_cell HW2.out d5
          have hxa : Upto [] wr (wr.alloc (.cells #[.int .i64 xo, .slice xn1 xn2 xn3, .int .i64 xs, .int .i64 xm, .int .i64 xq, .slice xl1 xl2 xl3] 30)) := (Upto.refl [] wr).alloc _
          have HXA := Lib.hid (HW2.out.trans_ext hxa)
          have HXV := Lib.hid (HV.out.trans_ext hxa)
          have hn := new_at wr (.cells #[.int .i64 xo, .slice xn1 xn2 xn3, .int .i64 xs, .int .i64 xm, .int .i64 xq, .slice xl1 xl2 xl3] 30)
          obtain ⟨n0, n1, n2, n3, n4, n5⟩ := cells6 hn
          have HC := Lib.hid (IH.out x (by have := HSZ.out; have := sizesF_mem (List.mem_of_getElem? hx); omega) (insN_mem HIN.out.2.2.2 (List.mem_of_getElem? hx)) _ (wr.alloc (.cells #[.int .i64 xo, .slice xn1 xn2 xn3, .int .i64 xs, .int .i64 xm, .int .i64 xq, .slice xl1 xl2 xl3] 30)) P HXA.out (hnx.ext HXA.out))
          by_cases hz : formF nameF x = 0
          · have HA2 : Hid (formsF nameF (l.drop (m + 1)) = formsF nameF l) := Lib.hid (by
              rw [← HB9.out, HDR.out]
              conv => rhs; unfold formsF
              rw [hz]
              rfl)
            rw [hz] at HC
            clear hx hz hnx hxa hn
            go_wp2_with fail
            refine HC.out.mono ?_
            rintro e w7 ⟨rfl, hu7⟩
            have HU7 := Lib.hid (HXV.out.trans_ext hu7)
            clear hu7
            go_wp2_with fail
            go_roundw
            case rel => exact ⟨m + 1, by omega, by go_num, HA2, HU7⟩
            case measure => simp [intOf]; omega
          · have HF : Hid (formsF nameF l = formF nameF x) := Lib.hid (by
              rw [← HB9.out, HDR.out]
              unfold formsF
              rw [if_pos hz])
            generalize hfx : formF nameF x = fx at *
            have ez : ((fx : Int) == 0) = false := by rw [beq_eq_false_iff_ne]; omega
            have ez2 : ((fx : Int) != 0) = true := by rw [bne, ez]; rfl
            clear hx hz hnx hfx hxa hn
            go_wp2_with fail
            refine HC.out.mono ?_
            rintro e w7 ⟨rfl, hu7⟩
            have HU7 := Lib.hid (HXA.out.trans_ext hu7)
            clear hu7
            go_wp2_with fail
            go_ret
            rw [HF.out]
            exact ⟨rfl, HU7.out⟩
        · have hgeJ : ¬ (m : Int) < l.length := by omega
          have HF : Hid (formsF nameF l = 0) := Lib.hid (by
            rw [← HB9.out, List.drop_of_length_le (by omega)]
            rfl)
          go_wp2_with fail
          go_ret
          rw [HF.out]
          exact ⟨rfl, HW2.out⟩
end Go.Proofs.YtbnebkkpmcjmbaaGreatDoor


namespace Go.Proofs.YtbnebkkpmcjmbaaGreatDoor
open Go.RowKit Go.PL Go.Maps
set_option maxRecDepth 100000 in
set_option maxHeartbeats 3200000 in
theorem checkf_calls (nd : Nd) (v : Value) (w : World) (P : Nat → Prop) (h : NdV w P nd v) (hk : sizeF nd ≤ 10000000) (hin : inN 10000000 nd) (he : Env w) (hf : FEnv w) : Calls Tryz.prog 40 #[v] w fun e w' => e = .returned (.int .i64 (checkF nameF nd : Nat)) ∧ Upto [] w w' := by
  obtain ⟨xo, xn1, xn2, xn3, xs, xm, xq, xl1, xl2, xl3, rfl⟩ := h.six
  have hua : Upto [] w (w.alloc (.cells #[.int .i64 xo, .slice xn1 xn2 xn3, .int .i64 xs, .int .i64 xm, .int .i64 xq, .slice xl1 xl2 xl3] 30)) := (Upto.refl [] w).alloc _
  have HS := Lib.hid (fun u (hu : Upto [] w u) => nodes_calls _ nd (Nat.le_refl _) hin hk _ u P (h.ext hu) (he.ext hu) (hf.ext hu))
  have HD := Lib.hid (fun u (hu : Upto [] w u) => great_calls nd _ u P (h.ext hu) hk)
  have HUA := Lib.hid hua
  have HNB := Lib.hid (new_at w (.cells #[.int .i64 xo, .slice xn1 xn2 xn3, .int .i64 xs, .int .i64 xm, .int .i64 xq, .slice xl1 xl2 xl3] 30))
  clear h hua hin he hf
  by_cases h1 : formF nameF nd = 0
  · have HF : Hid (checkF nameF nd = greatF nd) := Lib.hid (by unfold checkF; rw [h1]; rfl)
    rw [HF.out]
    rw [h1] at HS
    clear h1
    go_enter Tryz.func40, Tryz.ntmps40
    go_wp2_with fail
    refine (HS.out _ HUA.out).mono ?_
    rintro e w5 ⟨rfl, hu5⟩
    have HU5 := Lib.hid (HUA.out.trans_ext hu5)
    have hb5 := hu5.at HNB.out (by simp)
    obtain ⟨y0, y1, y2, y3, y4, y5⟩ := cells6 hb5
    clear hu5 hb5
    go_wp2_with fail
    refine (HD.out _ HU5.out).mono ?_
    rintro e w6 ⟨rfl, hu6⟩
    have HU6 := Lib.hid (HU5.out.trans_ext hu6)
    clear hu6
    go_wp2_with fail
    go_ret
    exact ⟨rfl, HU6.out⟩
  · have HF : Hid (checkF nameF nd = formF nameF nd) := Lib.hid (by unfold checkF; rw [if_pos h1])
    rw [HF.out]
    generalize hfx : formF nameF nd = fx at *
    have ez : ((fx : Int) == 0) = false := by rw [beq_eq_false_iff_ne]; omega
    have ez2 : ((fx : Int) != 0) = true := by rw [bne, ez]; rfl
    clear hfx h1
    go_enter Tryz.func40, Tryz.ntmps40
    go_wp2_with fail
    refine (HS.out _ HUA.out).mono ?_
    rintro e w5 ⟨rfl, hu5⟩
    have HU5 := Lib.hid (HUA.out.trans_ext hu5)
    clear hu5
    go_wp2_with fail
    go_ret
    exact ⟨rfl, HU5.out⟩
end Go.Proofs.YtbnebkkpmcjmbaaGreatDoor


namespace Go.Proofs.YtbnebkkpmcjmbaaGreatDoor
open Go.RowKit Go.PL Go.Maps
def adjN : Nd := .mk 16 [[121]] 0 0 0 [.mk 5 [[120], [121]] 0 0 0 []]
theorem adj_check : checkF nameF adjN = 0 := by kernel_rfl
theorem adj_in : inN 10000000 adjN := by
  unfold adjN
  simp [inN, insN]
theorem name_x : identF [120] = true := by rw [ident_is]; kernel_rfl
theorem name_y : identF [121] = true := by rw [ident_is]; kernel_rfl
/-- a clone of the formula lies in three blocks that are apart -/
theorem adj_apart {w : World} {e : Ending} {w' : World} (h : ClPost2 w 16 [[121]] 0 0 0 [.mk 5 [[120], [121]] 0 0 0 []] e w') : ∃ g1 o1 c1 gl ol cl g o c2 c3 : Nat, ∃ a3 : Option Addr, e = .returned (.agg #[.int .i64 16, .slice (some ⟨g1, o1, none⟩) 1 c1, .int .i64 0, .int .i64 0, .int .i64 0, .slice (some ⟨gl, ol, none⟩) 1 cl]) ∧ (g1 ≠ gl ∧ g1 ≠ g ∧ gl ≠ g) ∧ QnB w' g1 o1 gl ol g o c2 c3 0 0 0 a3 [121] [120] [121] ∧ Upto [] w w' ∧ w.heap.size ≤ g1 ∧ w.heap.size ≤ gl ∧ w.heap.size ≤ g := by
  obtain ⟨vn, vl, m, rfl, hu, hs, hl⟩ := h
  rcases hs with ⟨h0, -⟩ | ⟨g1, o1, c1, rfl, ⟨⟨hn1, hm1⟩, -, -⟩, hcell⟩
  · simp at h0
  rcases hl with ⟨h0, -⟩ | ⟨gl, ol, cl, rfl, ⟨⟨hnl, hml⟩, -⟩, hnds⟩
  · cases h0
  unfold NdsV at hnds
  obtain ⟨⟨v0, v1, v2, v3, v4, v5, k0, k1, k2, k3, k4, k5, hnd⟩, -⟩ := hnds
  unfold NdV at hnd
  obtain ⟨vn2, vl2, e2, hs2, hl2⟩ := hnd
  simp only [Value.agg.injEq, Array.mk.injEq, List.cons.injEq, and_true] at e2
  obtain ⟨rfl, rfl, rfl, rfl, rfl, rfl⟩ := e2
  rcases hs2 with ⟨h0, -⟩ | ⟨g, o, c2, rfl, ⟨⟨hng, hmg, hne⟩, -, hcap⟩, hcell2⟩
  · simp at h0
  obtain ⟨a3, c3, rfl⟩ : ∃ a c, v5 = .slice a 0 c := by
    rcases hl2 with ⟨-, a, c, rfl⟩ | ⟨g, o, c, rfl, -⟩
    · exact ⟨a, c, rfl⟩
    · exact ⟨_, c, rfl⟩
  obtain ⟨cs1, t1, hh1⟩ := hn1.2
  obtain ⟨csl, tl, hhl⟩ := hnl.2
  obtain ⟨cs, t, hh⟩ := hng.2
  have n0 := hcell 0 (sV [121]) rfl
  have q0 := hcell2 0 (sV [120]) rfl
  have q1 := hcell2 1 (sV [121]) rfl
  rw [cell_of hh1] at n0
  rw [cell_of hh] at q0 q1
  rw [cell_of hhl] at k0 k1 k2 k3 k4 k5
  have a1 := hn1.1
  have a2 := hnl.1
  have a4 := hng.1
  unfold New at a1 a2 a4
  exact ⟨g1, o1, c1, gl, ol, cl, g, o, c2, c3, a3, rfl, ⟨by omega, by omega, fun e => hne e.symm⟩, ⟨⟨cs1, t1, hh1, n0⟩, ⟨csl, tl, hhl, k0, k1, k2, k3, k4, k5⟩, ⟨t, cs, ⟨cs, hh, q0, q1, fun _ _ _ => rfl⟩⟩, hcap⟩, hu, a1, a2, a4⟩
end Go.Proofs.YtbnebkkpmcjmbaaGreatDoor


namespace Go.Proofs.YtbnebkkpmcjmbaaGreatDoor
open Go.RowKit Go.PL Go.Maps
def RnPost (w : World) (e : Ending) (w' : World) : Prop := ∃ g1 o1 c1 gl ol cl g o c2 c3 : Nat, ∃ a3 : Option Addr, e = .returned (.tuple #[.agg #[.int .i64 16, .slice (some ⟨g1, o1, none⟩) 1 c1, .int .i64 0, .int .i64 0, .int .i64 0, .slice (some ⟨gl, ol, none⟩) 1 cl], .int .i64 0]) ∧ QnB w' g1 o1 gl ol g o c2 c3 0 0 0 a3 [121, 50] [121] [121, 50] ∧ Upto [] w w'
set_option maxRecDepth 100000 in
set_option maxHeartbeats 3200000 in
theorem renameT_calls (b1 b2 : Option Addr) (d1 d2 : Nat) (P : Nat → Prop) (w : World) (he : Env w) (hf : FEnv w) (h : NdV w P adjN (.agg #[.int .i64 16, .slice b1 1 d1, .int .i64 0, .int .i64 0, .int .i64 0, .slice b2 1 d2])) : Calls Tryz.prog 11 #[.agg #[.int .i64 16, .slice b1 1 d1, .int .i64 0, .int .i64 0, .int .i64 0, .slice b2 1 d2], .string ⟨[120].toArray⟩, .string ⟨[121].toArray⟩] w (RnPost w) := by
  obtain ⟨W, hW⟩ : ∃ W, W = (w.alloc (.cells #[.int .i64 16, .slice b1 1 d1, .int .i64 0, .int .i64 0, .int .i64 0, .slice b2 1 d2] 30)).alloc (.cells #[.int .i64 0, .slice none 0 0, .int .i64 0, .int .i64 0, .int .i64 0, .slice none 0 0] 30) := ⟨_, rfl⟩
  have HU : Hid (Upto [] w W) := Lib.hid (by rw [hW]; exact ((Upto.refl [] w).alloc _).alloc _)
  have HB1 : Hid (W.heap[w.heap.size]? = some (.cells #[.int .i64 16, .slice b1 1 d1, .int .i64 0, .int .i64 0, .int .i64 0, .slice b2 1 d2] 30 (0, 0))) := Lib.hid (by rw [hW]; exact alloc_old (new_at w _) _)
  have HB2 : Hid (W.heap[w.heap.size + 1]? = some (.cells #[.int .i64 0, .slice none 0 0, .int .i64 0, .int .i64 0, .int .i64 0, .slice none 0 0] 30 (0, 0))) := Lib.hid (by rw [hW]; exact new_at1 w _ _)
  have HCK : Hid (∀ u, Upto [] w u → Calls Tryz.prog 40 #[.agg #[.int .i64 16, .slice b1 1 d1, .int .i64 0, .int .i64 0, .int .i64 0, .slice b2 1 d2]] u fun e w' => e = .returned (.int .i64 0) ∧ Upto [] u w') := Lib.hid (fun u hu => by
    have := checkf_calls adjN _ u P (h.ext hu) (by decide) adj_in (he.ext hu) (hf.ext hu)
    rw [adj_check] at this
    exact this)
  have HIX : Hid (∀ u, Upto [] w u → Calls Tryz.prog 41 #[.string ⟨#[120]⟩] u fun e w' => e = .returned (.bool true) ∧ Upto [] u w') := Lib.hid (fun u hu => by
    have := isIdent_calls [120] u (he.ext hu) (by simp)
    rw [name_x] at this
    exact this)
  have HIY : Hid (∀ u, Upto [] w u → Calls Tryz.prog 41 #[.string ⟨#[121]⟩] u fun e w' => e = .returned (.bool true) ∧ Upto [] u w') := Lib.hid (fun u hu => by
    have := isIdent_calls [121] u (he.ext hu) (by simp)
    rw [name_y] at this
    exact this)
  have HCL := Lib.hid (fun u (hu : Upto [] w u) => fclone2_calls 9 16 [[121]] 0 0 0 [.mk 5 [[120], [121]] 0 0 0 []] (by decide) (by decide) (by simp [bigN, bigsN]) P _ u (h.ext hu))
  have HE := Lib.hid he
  obtain ⟨x0, x1, x2, x3, x4, x5⟩ := cells6 HB1.out
  clear h he hf
  go_enter Tryz.func11, Tryz.ntmps11
  go_wp2_with fail
  simp only [← hW]
  clear hW
  go_wp2_with fail
  refine (HCK.out _ HU.out).mono ?_
  rintro e w1 ⟨rfl, hu1⟩
  have HU1 := Lib.hid hu1
  clear hu1
  go_wp2_with fail
  refine (HIX.out _ (HU.out.trans_ext HU1.out)).mono ?_
  rintro e w2 ⟨rfl, hu2⟩
  have HU2 := Lib.hid (HU1.out.trans_ext hu2)
  clear hu2
  go_wp2_with fail
  refine (HIY.out _ (HU.out.trans_ext HU2.out)).mono ?_
  rintro e w3 ⟨rfl, hu3⟩
  have HU3 := Lib.hid (HU2.out.trans_ext hu3)
  have HC3 := Lib.hid (HU3.out.at HB1.out (by simp))
  clear hu3 x0 x1 x2 x3 x4 x5
  obtain ⟨x0, x1, x2, x3, x4, x5⟩ := cells6 HC3.out
  go_wp2_with fail
  refine (HCL.out _ (HU.out.trans_ext HU3.out)).mono ?_
  rintro e w4 hcp
  obtain ⟨g1, o1, c1, gl, ol, cl, g, o, c2, c3, a3, rfl, hd, hq, hu4, s1, s2, s3⟩ := adj_apart hcp
  have HW3 := Lib.hid (lt_of_heap (HU3.out.at HB2.out (by simp)))
  have HC4 := Lib.hid (hu4.at HC3.out (by simp))
  have HZ4 := Lib.hid (hu4.at (HU3.out.at HB2.out (by simp)) (by simp))
  have HU4 := Lib.hid (HU.out.trans_ext (HU3.out.trans_ext hu4))
  clear x0 x1 x2 x3 x4 x5 hcp hu4
  obtain ⟨x0, x1, x2, x3, x4, x5⟩ := cells6 HC4.out
  obtain ⟨f0, f1, f2, f3, f4, f5⟩ := frees6 HC4.out
  go_wp2_with fail
  obtain ⟨W5, hW5⟩ : ∃ W5, W5 = ((((((w4.setCell ⟨w.heap.size, 0, none⟩ (.int .i64 16)).setCell ⟨w.heap.size, 1, none⟩ (.slice (some ⟨g1, o1, none⟩) 1 c1)).setCell ⟨w.heap.size, 2, none⟩ (.int .i64 0)).setCell ⟨w.heap.size, 3, none⟩ (.int .i64 0)).setCell ⟨w.heap.size, 4, none⟩ (.int .i64 0)).setCell ⟨w.heap.size, 5, none⟩ (.slice (some ⟨gl, ol, none⟩) 1 cl)) := ⟨_, rfl⟩
  have HS5 : Hid (Upto [w.heap.size] w4 W5) := Lib.hid (by rw [hW5]; exact nd_self w4 w.heap.size (.int .i64 16) (.slice (some ⟨g1, o1, none⟩) 1 c1) (.int .i64 0) (.int .i64 0) (.int .i64 0) (.slice (some ⟨gl, ol, none⟩) 1 cl))
  have HC5 : Hid (W5.heap[w.heap.size]? = some (.cells #[.int .i64 16, .slice (some ⟨g1, o1, none⟩) 1 c1, .int .i64 0, .int .i64 0, .int .i64 0, .slice (some ⟨gl, ol, none⟩) 1 cl] 30 (0, 0))) := Lib.hid (by rw [hW5]; exact nd_store HC4.out (.int .i64 16) (.slice (some ⟨g1, o1, none⟩) 1 c1) (.int .i64 0) (.int .i64 0) (.int .i64 0) (.slice (some ⟨gl, ol, none⟩) 1 cl))
  have HU5 : Hid (Upto [] w W5) := Lib.hid (by rw [hW5]; exact nd_up HU4.out (Or.inr (by omega)) (.int .i64 16) (.slice (some ⟨g1, o1, none⟩) 1 c1) (.int .i64 0) (.int .i64 0) (.int .i64 0) (.slice (some ⟨gl, ol, none⟩) 1 cl))
  simp only [← hW5]
  clear hW5 x0 x1 x2 x3 x4 x5 f0 f1 f2 f3 f4 f5
  have HQ5 := Lib.hid (hq.away HS5.out (by have := HW3.out; simp; omega))
  have HZ5 := Lib.hid (HS5.out.at HZ4.out (by simp))
  have HSZ := Lib.hid (And.intro s1 (And.intro s2 s3))
  have HD := Lib.hid hd
  clear hq s1 s2 s3 hd
  obtain ⟨x0, x1, x2, x3, x4, x5⟩ := cells6 HC5.out
  go_wp2_with fail
  refine (rename16_calls g1 o1 c1 gl ol cl g o c2 c3 0 0 0 a3 W5 (HE.out.ext HU5.out) HD.out HQ5.out).mono ?_
  rintro e w6 ⟨rfl, hq6, hu6⟩
  have HQ6 := Lib.hid hq6
  have HZ6 := Lib.hid (hu6.at HZ5.out (by have := HSZ.out; have := HW3.out; simp; omega))
  have HU6 : Hid (Upto [] w w6) := Lib.hid (HU5.out.trans hu6 (fun k hk => Or.inr (by have := HSZ.out; have := HW3.out; simp at hk; omega)))
  clear hq6 hu6 x0 x1 x2 x3 x4 x5
  obtain ⟨x0, x1, x2, x3, x4, x5⟩ := cells6 HZ6.out
  obtain ⟨f0, f1, f2, f3, f4, f5⟩ := frees6 HZ6.out
  go_wp2_with fail
  clear x0 x1 x2 x3 x4 x5 f0 f1 f2 f3 f4 f5
  have hst := nd_store HZ6.out (.int .i64 16) (.slice (some ⟨g1, o1, none⟩) 1 c1) (.int .i64 0) (.int .i64 0) (.int .i64 0) (.slice (some ⟨gl, ol, none⟩) 1 cl)
  have hself := nd_self w6 (w.heap.size + 1) (.int .i64 16) (.slice (some ⟨g1, o1, none⟩) 1 c1) (.int .i64 0) (.int .i64 0) (.int .i64 0) (.slice (some ⟨gl, ol, none⟩) 1 cl)
  have hup := nd_up HU6.out (B := w.heap.size + 1) (Or.inr (by omega)) (.int .i64 16) (.slice (some ⟨g1, o1, none⟩) 1 c1) (.int .i64 0) (.int .i64 0) (.int .i64 0) (.slice (some ⟨gl, ol, none⟩) 1 cl)
  have hqn := HQ6.out.away hself (by have := HSZ.out; have := HW3.out; simp; omega)
  obtain ⟨q0, q1, q2, q3, q4, q5⟩ := cells6 hst
  exact bodyPost_ret (v := .tuple #[.agg #[.int .i64 16, .slice (some ⟨g1, o1, none⟩) 1 c1, .int .i64 0, .int .i64 0, .int .i64 0, .slice (some ⟨gl, ol, none⟩) 1 cl], .int .i64 0]) (by simp [results, Tryz.results11, go_sem, q0, q1, q2, q3, q4, q5]) rfl ⟨g1, o1, c1, gl, ol, cl, g, o, c2, c3, a3, rfl, hqn, hup⟩
end Go.Proofs.YtbnebkkpmcjmbaaGreatDoor


namespace Go.Proofs.YtbnebkkpmcjmbaaGreatDoor
open Go.RowKit Go.PL Go.Maps
/-- a look-up in a set of names -/
theorem seen_look {w : World} {b : Nat} {L : List (List UInt8)} (hm : MapL Tryz.prog 9 w b (L.map kwE)) (x : List UInt8) (hl : x.length ≤ 9223372036854775807) : (Instr.lookup 114 (.map (some b)) (.string ⟨x.toArray⟩) false).run Tryz.prog w = .ok (.bool (L.contains x)) w := by
  rcases hm.look lawS Tryz.underlying114 (zeroB w) (sb_key hl) false with ⟨h1, h2⟩ | ⟨u, h1, h2⟩
  · have : L.contains x = false := by
      cases hc : L.contains x with
      | false => rfl
      | true => exact absurd rfl (h2 (kwE x) (List.mem_map.2 ⟨x, by simpa using hc, rfl⟩))
    rw [this]
    exact h1
  · obtain ⟨y, hy, hq⟩ := List.mem_map.1 h1
    have hq1 : sb y = sb x := congrArg Prod.fst hq
    have hq2 : Value.bool true = u := congrArg Prod.snd hq
    have hyx := sb_inj hq1
    subst hyx
    have : L.contains y = true := by simpa using hy
    rw [this, hq2]
    exact h2
theorem seen_new {L : List (List UInt8)} {x : List UInt8} (h : L.contains x = false) : ∀ p ∈ L.map kwE, p.1 ≠ sb x := by
  intro p hp e
  obtain ⟨y, hy, rfl⟩ := List.mem_map.1 hp
  have hyx : y = x := sb_inj e
  subst hyx
  rw [List.contains_iff_mem.2 hy] at h
  cases h
theorem sortW_nil {s : Int} : sortW s = [] ↔ s < 0 ∨ 3 < s := by
  unfold sortW
  split; simp; omega
  split; simp; omega
  split; simp; omega
  split; simp; omega
  simp; omega
set_option maxRecDepth 100000 in
set_option maxHeartbeats 12800000 in
theorem checkq_calls (q : Qn) (v : Value) (w : World) (P : Nat → Prop) (h : QnV w P q v) (hk : sizeF q.body ≤ 10000000) (hin : inN 10000000 q.body) (hfn : ∀ y ∈ q.free, y.1.length ≤ 10000000) (hE : Env w ∧ SEnv w ∧ FEnv w) : Calls Tryz.prog 62 #[v] w fun e w' => e = .returned (.int .i64 (rightF nameF q : Nat)) ∧ Upto [] w w' := by
  obtain ⟨he, hse, hfe⟩ := hE
  obtain ⟨f1, f3, o1, a1, a2, a3, s1, n1, m1, l1, l2, l3, rfl, hv, hn⟩ := h.open
  have hu1 : Upto [] w (w.alloc (.cells #[.slice f1 q.free.length f3, .int .i64 o1, .slice a1 a2 a3, .int .i64 s1, .int .i64 n1, .int .i64 m1, .slice l1 l2 l3] 53)) := (Upto.refl [] w).alloc _
  have HU1 := Lib.hid hu1
  by_cases h8 : 8 < q.free.length
  · have h8I : (8 : Int) < q.free.length := by omega
    have HF : Hid (rightF nameF q = 8) := Lib.hid (by unfold rightF; rw [if_pos h8])
    rw [HF.out]
    clear h hv hn hk hin hfn hu1 he hse hfe
    go_enter Tryz.func62, Tryz.ntmps62
    go_wp2_with fail
    go_ret
    exact ⟨rfl, HU1.out⟩
  have h8I : ¬ (8 : Int) < q.free.length := by omega
  have H8 := Lib.hid h8
  have HG := Lib.hid (vars_slice hv)
  have HFN := Lib.hid hfn
  have HCK := Lib.hid (fun u (hu : Upto [] w u) => checkf_calls q.body _ u P (hn.ext hu) hk hin (he.ext hu) (hfe.ext hu))
  have HID := Lib.hid (fun (x : List UInt8) (hx : x.length ≤ 281474976710656) u (hu : Upto [] w u) => isIdent_calls x u (he.ext hu) hx)
  have HSN := Lib.hid (fun (s : Int) u (hu : Upto [] w u) => sname_calls s u (hse.upto hu (by simp)))
  have hL0 : (0 : Int) ≤ q.free.length := by omega
  have hL1 : (q.free.length : Int) ≤ 8 := by omega
  have hm0 := MapL.made Tryz.prog 9 (w.alloc (.cells #[.slice f1 q.free.length f3, .int .i64 o1, .slice a1 a2 a3, .int .i64 s1, .int .i64 n1, .int .i64 m1, .slice l1 l2 l3] 53))
  have hsz : (w.alloc (.cells #[.slice f1 q.free.length f3, .int .i64 o1, .slice a1 a2 a3, .int .i64 s1, .int .i64 n1, .int .i64 m1, .slice l1 l2 l3] 53)).heap.size = w.heap.size + 1 := by simp
  rw [hsz] at hm0
  have HM0 := Lib.hid hm0
  have hu2 : Upto [] w ((w.alloc (.cells #[.slice f1 q.free.length f3, .int .i64 o1, .slice a1 a2 a3, .int .i64 s1, .int .i64 n1, .int .i64 m1, .slice l1 l2 l3] 53)).alloc (.map #[] 0)) := hu1.alloc _
  have HU2 := Lib.hid hu2
  have HB1 := Lib.hid (alloc_old (new_at w (.cells #[.slice f1 q.free.length f3, .int .i64 o1, .slice a1 a2 a3, .int .i64 s1, .int .i64 n1, .int .i64 m1, .slice l1 l2 l3] 53)) (.map #[] 0))
  have hmm := @run_makeMap Tryz.prog
  clear h hv hn hk hin hfn hu1 hu2 h8 hm0 hsz he hse hfe
  go_enter Tryz.func62, Tryz.ntmps62
  go_wp2_with fail
  generalize hW2 : ((w.alloc (.cells #[.slice f1 q.free.length f3, .int .i64 o1, .slice a1 a2 a3, .int .i64 s1, .int .i64 n1, .int .i64 m1, .slice l1 l2 l3] 53)).alloc (.map #[] 0)) = W2 at *
  obtain ⟨bm, hbm, HBM⟩ : ∃ bm, bm = w.heap.size + 1 ∧ Hid (bm = w.heap.size + 1) := ⟨_, rfl, Lib.hid rfl⟩
  rw [← hbm] at HM0 ⊢
  have HBW : Hid (w.heap.size < W2.heap.size) := Lib.hid (by rw [← hW2]; simp; omega)
  clear hW2 hbm hmm
  go_loopw [14] (fun i wr => ∃ j : Nat, j ≤ q.free.length ∧ i = .int .i64 j ∧ Hid (varsE nameF (q.free.drop j) ((q.free.take j).map Prod.fst) = varsE nameF q.free []) ∧ Hid (MapL Tryz.prog 9 wr bm (((q.free.take j).map Prod.fst).map kwE)) ∧ Hid (Upto [bm] W2 wr)) (fun i _ => q.free.length - (intOf i).toNat)
  case atStart => exact ⟨0, by omega, rfl, Lib.hid (by simp), HM0, Lib.hid (Upto.refl _ _)⟩
  case round =>
    obtain ⟨j, hj, rfl, HE, HM, HU⟩ := hrel
    have hj0 : (0 : Int) ≤ j := by omega
    have hb := HU.out.at HB1.out (by have := HBM.out; simp; omega)
    obtain ⟨y0, y1, y2, y3, y4, y5, y6⟩ := cells7 hb
    have HW : Hid (Upto [] w wr) := Lib.hid (HU2.out.trans HU.out (fun k hk => by have := HBM.out; simp at hk; subst hk; right; omega))
    rcases Nat.lt_or_ge j q.free.length with hlt | hge
    · have hltI : (j : Int) < q.free.length := by omega
      obtain ⟨x, hx⟩ : ∃ x, q.free[j]? = some x := ⟨_, List.getElem?_eq_getElem hlt⟩
      have HDR : Hid (q.free.drop j = x :: q.free.drop (j + 1)) := Lib.hid (by
        obtain ⟨hi, h3⟩ := List.getElem?_eq_some_iff.1 hx
        rw [List.drop_eq_getElem_cons hi, h3])
      have HTK : Hid ((q.free.take (j + 1)).map Prod.fst = (q.free.take j).map Prod.fst ++ [x.1]) := Lib.hid (by
        rw [List.take_add_one, hx]
        simp)
      have hnl := HFN.out x (List.mem_of_getElem? hx)
      obtain ⟨g, o, rfl, c0, c1⟩ := HG.out j x hx
      replace c0 := up_cell HW.out c0
      replace c1 := up_cell HW.out c1
      obtain ⟨x1, x2⟩ := x
      simp only at c0 c1 hnl HTK
      have hxa : Upto [] wr (wr.alloc (.cells #[.string ⟨x1.toArray⟩, .int .i64 x2] 86)) := (Upto.refl [] wr).alloc _
      have HXV := Lib.hid (HU.out.trans_same (hxa.mono (by simp)))
      have HXA := Lib.hid (HW.out.trans_ext hxa)
      have HXM := Lib.hid (HM.out.upto hxa (by simp))
      have hn := new_at wr (.cells #[.string ⟨x1.toArray⟩, .int .i64 x2] 86)
      have HN := Lib.hid hn
      obtain ⟨n0, n1⟩ := cells2 hn
      have HC := Lib.hid (HID.out x1 (by omega) _ HXA.out)
      rw [ident_all] at HC
      have hbb : nameF x1 = true ∨ nameF x1 = false := by cases nameF x1 <;> simp
      rcases hbb with hb2 | hb2
      case inr =>
        have HF : Hid (rightF nameF q = 3) := Lib.hid (right_vars H8.out (by decide) (by rw [← HE.out, HDR.out]; unfold varsE; rw [if_pos hb2]))
        rw [hb2] at HC
        clear hx hb hb2 hxa hn hnl
        go_wp2_with fail
        refine HC.out.mono ?_
        rintro e w5 ⟨rfl, hu5⟩
        have HU5 := Lib.hid (HXA.out.trans_ext hu5)
        clear hu5
        go_wp2_with fail
        go_ret
        rw [HF.out]
        exact ⟨rfl, HU5.out⟩
      case inl =>
        have hKx : x1.length ≤ 9223372036854775807 := by omega
        by_cases hs : (decide (x2 < 0) || decide (3 < x2)) = true
        · have HF : Hid (rightF nameF q = 2) := Lib.hid (right_vars H8.out (by decide) (by rw [← HE.out, HDR.out]; unfold varsE; rw [if_neg (by rw [hb2]; decide), if_pos hs]))
          rw [hb2] at HC
          have HSW : Hid (sortW x2 = []) := Lib.hid (sortW_nil.2 (by simpa using hs))
          clear hx hb hb2 hxa hn hnl hs hKx
          go_wp2_with fail
          refine HC.out.mono ?_
          rintro e w5 ⟨rfl, hu5⟩
          have HU5 := Lib.hid (HXA.out.trans_ext hu5)
          have HS := Lib.hid (HSN.out x2 _ HU5.out)
          rw [HSW.out] at HS
          have hb5 := hu5.at HN.out (by simp)
          obtain ⟨z0, z1⟩ := cells2 hb5
          clear hu5 hb5 z0
          go_wp2_with fail
          refine HS.out.mono ?_
          rintro e w6 ⟨rfl, hu6⟩
          have HU6 := Lib.hid (HU5.out.trans_ext hu6)
          clear hu6
          go_wp2_with fail
          go_ret
          rw [HF.out]
          exact ⟨rfl, HU6.out⟩
        have HS9 := Lib.hid hs
        have HSW : Hid (sortW x2 ≠ []) := Lib.hid (fun e => hs (by have := sortW_nil.1 e; simpa using this))
        have HNM := Lib.hid hb2
        rw [hb2] at HC
        obtain ⟨SW, hSW⟩ : ∃ SW, SW = sortW x2 := ⟨_, rfl⟩
        have hsw0 : SW ≠ [] := by rw [hSW]; exact HSW.out
        have HSV : Hid (sortW x2 = SW) := Lib.hid hSW.symm
        have e1 : (SW == []) = false := by simpa using hsw0
        have e2 : SW.isEmpty = false := by cases SW with | nil => exact absurd rfl hsw0 | cons a r => rfl
        clear hx hb hb2 hxa hn hnl hs hSW hsw0
        go_wp2_with fail
        refine HC.out.mono ?_
        rintro e w5 ⟨rfl, hu5⟩
        have HU5 := Lib.hid (HXA.out.trans_ext hu5)
        have HV5 := Lib.hid (HXV.out.trans_same (hu5.mono (by simp)))
        have HM5 := Lib.hid (HXM.out.upto hu5 (by simp))
        have HS := Lib.hid (HSN.out x2 _ HU5.out)
        rw [HSV.out] at HS
        have HN5 := Lib.hid (hu5.at HN.out (by simp))
        have hb5 := HN5.out
        obtain ⟨z0, z1⟩ := cells2 hb5
        clear hu5 hb5
        go_wp2_with fail
        refine HS.out.mono ?_
        rintro e w6 ⟨rfl, hu6⟩
        have HU6 := Lib.hid (HU5.out.trans_ext hu6)
        have HV6 := Lib.hid (HV5.out.trans_same (hu6.mono (by simp)))
        have HM6 := Lib.hid (HM5.out.upto hu6 (by simp))
        have hb6 := hu6.at HN5.out (by simp)
        obtain ⟨u0, u1⟩ := cells2 hb6
        have hlk := seen_look HM6.out x1 hKx
        clear hu6 hb6 z0 z1
        have hbb : ((q.free.take j).map Prod.fst).contains x1 = true ∨ ((q.free.take j).map Prod.fst).contains x1 = false := by cases ((q.free.take j).map Prod.fst).contains x1 <;> simp
        rcases hbb with hb2 | hb2
        · have HF : Hid (rightF nameF q = 7) := Lib.hid (right_vars H8.out (by decide) (by
            rw [← HE.out, HDR.out]; unfold varsE
            rw [if_neg (by rw [HNM.out]; decide), if_neg HS9.out, if_pos hb2]))
          rw [hb2] at hlk
          clear hb2
          go_wp2_with fail
          go_ret
          rw [HF.out]
          exact ⟨rfl, HU6.out⟩
        · have HE2 : Hid (varsE nameF (q.free.drop (j + 1)) ((q.free.take (j + 1)).map Prod.fst) = varsE nameF q.free []) := Lib.hid (by
            rw [HTK.out, ← HE.out, HDR.out]
            conv => rhs; unfold varsE
            rw [if_neg (by rw [HNM.out]; decide), if_neg HS9.out, if_neg (by rw [hb2]; decide)])
          have HNW := Lib.hid (seen_new hb2)
          have HKX := Lib.hid (sb_key hKx)
          have HT2 : Hid (((q.free.take (j + 1)).map Prod.fst).map kwE = ((q.free.take j).map Prod.fst).map kwE ++ [(sb x1, .bool true)]) := Lib.hid (by rw [HTK.out, List.map_append]; rfl)
          rw [hb2] at hlk
          clear hb2
          go_wp2_with (refine wpList_insert _ rfl _ _ _ 114 rfl 9 4 lawS Tryz.underlying114 bm _ rfl HM6.out (sb x1) (.bool true) _ rfl rfl HKX.out HNW.out ?_; intro w7 hm7 hg7)
          have HM7 := Lib.hid hm7
          have HV7 := Lib.hid (HV6.out.grown hg7 (fun k hk => by cases hk; simp))
          clear hm7 hg7 hlk
          go_wp2_with fail
          go_roundw
          case rel => exact ⟨j + 1, by omega, by go_num, HE2, by rw [HT2.out]; exact HM7, HV7⟩
          case measure => simp [intOf]; omega
    · have hgeI : ¬ (j : Int) < q.free.length := by omega
      have HF : Hid (rightF nameF q = checkF nameF q.body) := Lib.hid (right_body H8.out (by
        rw [← HE.out, List.drop_of_length_le (by omega)]
        rfl))
      have HC := Lib.hid (HCK.out wr HW.out)
      clear hb
      go_wp2_with fail
      refine HC.out.mono ?_
      rintro e w5 ⟨rfl, hu5⟩
      have HU5 := Lib.hid (HW.out.trans_ext hu5)
      clear hu5
      go_wp2_with fail
      go_ret
      rw [HF.out]
      exact ⟨rfl, HU5.out⟩
end Go.Proofs.YtbnebkkpmcjmbaaGreatDoor


namespace Go.Proofs.YtbnebkkpmcjmbaaGreatDoor
open Go.RowKit Go.PL Go.Maps
theorem adj_right : rightF nameF ⟨[], adjN⟩ = 0 := by kernel_rfl
set_option maxRecDepth 100000 in
set_option maxHeartbeats 2000000 in
theorem check9_calls (g1 o1 c1 gl ol cl g o c2 : Nat) (so nn mm : Int) (a3 : Option Addr) (c3 : Nat) (P : Nat → Prop) (w : World) (hE : Env w ∧ SEnv w ∧ FEnv w) (hv : NdV w P adjN (.agg #[.int .i64 16, .slice (some ⟨g1, o1, none⟩) 1 c1, .int .i64 0, .int .i64 0, .int .i64 0, .slice (some ⟨gl, ol, none⟩) 1 cl])) (hn : w.cell? ⟨g1, o1, none⟩ = some (sV [121])) (h0 : w.cell? ⟨g, o, none⟩ = some (sV [120])) (hl : LfB w gl ol (some ⟨g, o, none⟩) 2 c2 so nn mm a3 c3) : Calls Tryz.prog 37 #[.agg #[.slice none 0 0, .int .i64 16, .slice (some ⟨g1, o1, none⟩) 1 c1, .int .i64 0, .int .i64 0, .int .i64 0, .slice (some ⟨gl, ol, none⟩) 1 cl]] w fun e w' => e = .returned (.agg #[.int .i64 21, .string ⟨#[120]⟩]) ∧ Upto [] w w' := by
  obtain ⟨W, hW⟩ : ∃ W, W = (w.alloc (.cells #[.slice none 0 0, .int .i64 16, .slice (some ⟨g1, o1, none⟩) 1 c1, .int .i64 0, .int .i64 0, .int .i64 0, .slice (some ⟨gl, ol, none⟩) 1 cl] 53)).alloc (.cells #[.int .i64 0, .string ⟨#[]⟩] 64) := ⟨_, rfl⟩
  have HU : Hid (Upto [] w W) := Lib.hid (by rw [hW]; exact ((Upto.refl [] w).alloc _).alloc _)
  have HB1 : Hid (W.heap[w.heap.size]? = some (.cells #[.slice none 0 0, .int .i64 16, .slice (some ⟨g1, o1, none⟩) 1 c1, .int .i64 0, .int .i64 0, .int .i64 0, .slice (some ⟨gl, ol, none⟩) 1 cl] 53 (0, 0))) := Lib.hid (by rw [hW]; exact alloc_old (new_at w _) _)
  have HB2 : Hid (W.heap[w.heap.size + 1]? = some (.cells #[.int .i64 0, .string ⟨#[]⟩] 64 (0, 0))) := Lib.hid (by rw [hW]; exact new_at1 w _ _)
  have HCQ : Hid (∀ u, Upto [] w u → Calls Tryz.prog 62 #[.agg #[.slice none 0 0, .int .i64 16, .slice (some ⟨g1, o1, none⟩) 1 c1, .int .i64 0, .int .i64 0, .int .i64 0, .slice (some ⟨gl, ol, none⟩) 1 cl]] u fun e w' => e = .returned (.int .i64 0) ∧ Upto [] u w') := Lib.hid (fun u hu => by
    have := checkq_calls ⟨[], adjN⟩ (.agg #[.slice none 0 0, .int .i64 16, .slice (some ⟨g1, o1, none⟩) 1 c1, .int .i64 0, .int .i64 0, .int .i64 0, .slice (some ⟨gl, ol, none⟩) 1 cl]) u P ⟨_, _, _, _, _, _, _, rfl, SlP.nil, hv.ext hu⟩ (by decide) adj_in (by simp) ⟨hE.1.ext hu, hE.2.1.upto hu (by simp), hE.2.2.ext hu⟩
    rw [adj_right] at this
    exact this)
  have HCK := Lib.hid (fun b u (hu : Upto [] w u) hb => check16_calls g1 o1 c1 gl ol cl g o c2 so nn mm a3 c3 b u hb ((hu.cell (World.block_lt_of_cell? w _ hn) (by simp)).trans hn) ((hu.cell (World.block_lt_of_cell? w _ h0) (by simp)).trans h0) (hl.ext hu))
  obtain ⟨x0, x1, x2, x3, x4, x5, x6⟩ := cells7 HB1.out
  clear hl h0 hn hv hE
  have hmm := @run_makeMap Tryz.prog
  go_enter Tryz.func37, Tryz.ntmps37
  go_wp2_with fail
  simp only [← hW]
  clear hW
  go_wp2_with fail
  refine (HCQ.out _ HU.out).mono ?_
  rintro e w1 ⟨rfl, hu1⟩
  have HU1 := Lib.hid (HU.out.trans_ext hu1)
  have HB3 := Lib.hid (hu1.at HB1.out (by simp))
  have HR3 := Lib.hid (hu1.at HB2.out (by simp))
  clear hu1 x0 x1 x2 x3 x4 x5 x6
  obtain ⟨W4, hW4⟩ : ∃ W4, W4 = w1.alloc (.map #[] 0) := ⟨_, rfl⟩
  have HU4 : Hid (Upto [] w W4) := Lib.hid (by rw [hW4]; exact HU1.out.alloc _)
  have HB4 : Hid (W4.heap[w.heap.size]? = some (.cells #[.slice none 0 0, .int .i64 16, .slice (some ⟨g1, o1, none⟩) 1 c1, .int .i64 0, .int .i64 0, .int .i64 0, .slice (some ⟨gl, ol, none⟩) 1 cl] 53 (0, 0))) := Lib.hid (by rw [hW4]; exact alloc_old HB3.out _)
  have HR4 : Hid (W4.heap[w.heap.size + 1]? = some (.cells #[.int .i64 0, .string ⟨#[]⟩] 64 (0, 0))) := Lib.hid (by rw [hW4]; exact alloc_old HR3.out _)
  have HM4 : Hid (W4.heap[w1.heap.size]? = some (.map #[] 0)) := Lib.hid (by rw [hW4]; exact (Go.MapKept.heap_alloc w1 _).1)
  obtain ⟨x0, x1, x2, x3, x4, x5, x6⟩ := cells7 HB4.out
  rw [hW4] at x0 x1 x2 x3 x4 x5 x6
  go_wp2_with fail
  simp only [← hW4] at x0 x1 x2 x3 x4 x5 x6 ⊢
  clear hW4
  go_loopw [17] (fun vi wr => vi = .int .i64 0 ∧ wr = W4) (fun _ _ => 0)
  case atStart => exact ⟨rfl, rfl⟩
  case round =>
    obtain ⟨rfl, rfl⟩ := hrel
    go_wp2_with fail
    refine (HCK.out _ _ HU4.out HM4.out).mono ?_
    rintro e w7 ⟨rfl, hu7⟩
    have HR7 := Lib.hid (hu7.at HR4.out (by simp))
    have HU7 := Lib.hid (HU4.out.trans_ext hu7)
    clear hu7 x0 x1 x2 x3 x4 x5 x6
    obtain ⟨y0, y1⟩ := cells2 HR7.out
    obtain ⟨f0, f1⟩ := frees2 HR7.out
    go_wp2_with fail
    clear y0 y1 f0 f1
    have hst := set_same (set_same HR7.out 0 (.int .i64 21)) 1 (.string ⟨#[120]⟩)
    simp only [List.setIfInBounds_toArray, List.set_cons_zero, List.set_cons_succ] at hst
    have hup := (HU7.out.setCell (p := ⟨w.heap.size + 1, 0, none⟩) (Or.inr (by simp)) (.int .i64 21)).setCell (p := ⟨w.heap.size + 1, 1, none⟩) (Or.inr (by simp)) (.string ⟨#[120]⟩)
    obtain ⟨q0, q1⟩ := cells2 hst
    exact bodyPost_ret (v := .agg #[.int .i64 21, .string ⟨#[120]⟩]) (by simp [results, Tryz.results37, go_sem, q0, q1]) rfl ⟨rfl, hup⟩
end Go.Proofs.YtbnebkkpmcjmbaaGreatDoor


namespace Go.Proofs.YtbnebkkpmcjmbaaGreatDoor
open Go.RowKit Go.PL Go.Maps
theorem fresh_a3 : freshF [97] [[97], [97, 50]] = [97, 51] := by kernel_rfl
set_option maxRecDepth 100000 in
set_option maxHeartbeats 4000000 in
theorem known12_calls (w : World) (hE : Env w ∧ SEnv w ∧ FEnv w) : Calls Tryz.prog 9 #[] w fun e w' => e = .returned (.bool true) ∧ Upto [] w w' := by
  obtain ⟨he, hse, hfe⟩ := hE
  obtain ⟨W, hW⟩ : ∃ W, W = (((w.alloc (.cells #[.string ⟨#[121]⟩] 9)).alloc (.cells #[.string ⟨#[120]⟩, .string ⟨#[121]⟩] 9)).alloc (.cells #[.int .i64 5, .slice (some ⟨w.heap.size + 1, 0, none⟩) 2 2, .int .i64 0, .int .i64 0, .int .i64 0, .slice none 0 0] 30)).alloc (.cells #[.int .i64 16, .slice (some ⟨w.heap.size, 0, none⟩) 1 1, .int .i64 0, .int .i64 0, .int .i64 0, .slice (some ⟨w.heap.size + 1 + 1, 0, none⟩) 1 1] 30) := ⟨_, rfl⟩
  have HU : Hid (Upto [] w W) := Lib.hid (by rw [hW]; exact ((((Upto.refl [] w).alloc _).alloc _).alloc _).alloc _)
  have HB0 : Hid (W.heap[w.heap.size]? = some (.cells #[.string ⟨#[121]⟩] 9 (0, 0))) := Lib.hid (by rw [hW]; exact alloc_old (alloc_old (alloc_old (new_at w _) _) _) _)
  have HB1 : Hid (W.heap[w.heap.size + 1]? = some (.cells #[.string ⟨#[120]⟩, .string ⟨#[121]⟩] 9 (0, 0))) := Lib.hid (by rw [hW]; exact alloc_old (alloc_old (new_at1 w _ _) _) _)
  have HB2 : Hid (W.heap[w.heap.size + 1 + 1]? = some (.cells #[.int .i64 5, .slice (some ⟨w.heap.size + 1, 0, none⟩) 2 2, .int .i64 0, .int .i64 0, .int .i64 0, .slice none 0 0] 30 (0, 0))) := Lib.hid (by rw [hW]; exact alloc_old (new_at2 w _ _ _) _)
  have HB3 : Hid (W.heap[w.heap.size + 1 + 1 + 1]? = some (.cells #[.int .i64 16, .slice (some ⟨w.heap.size, 0, none⟩) 1 1, .int .i64 0, .int .i64 0, .int .i64 0, .slice (some ⟨w.heap.size + 1 + 1, 0, none⟩) 1 1] 30 (0, 0))) := Lib.hid (by
    rw [hW]
    have := new_at (((w.alloc (.cells #[.string ⟨#[121]⟩] 9)).alloc (.cells #[.string ⟨#[120]⟩, .string ⟨#[121]⟩] 9)).alloc (.cells #[.int .i64 5, .slice (some ⟨w.heap.size + 1, 0, none⟩) 2 2, .int .i64 0, .int .i64 0, .int .i64 0, .slice none 0 0] 30)) (.cells #[.int .i64 16, .slice (some ⟨w.heap.size, 0, none⟩) 1 1, .int .i64 0, .int .i64 0, .int .i64 0, .slice (some ⟨w.heap.size + 1 + 1, 0, none⟩) 1 1] 30)
    simpa using this)
  have HND : Hid (NdV W (fun _ => True) adjN (.agg #[.int .i64 16, .slice (some ⟨w.heap.size, 0, none⟩) 1 1, .int .i64 0, .int .i64 0, .int .i64 0, .slice (some ⟨w.heap.size + 1 + 1, 0, none⟩) 1 1])) := Lib.hid (NdV.one (SlP.block trivial HB0.out 1 1 [sV [121]] (fun j u hj => by simpa [sV] using hj)) (NdV.atom (SlP.block trivial HB1.out 2 2 [sV [120], sV [121]] (fun j u hj => by simpa [sV] using hj))) trivial HB2.out)
  have HLF : Hid (LfB W (w.heap.size + 1 + 1) 0 (some ⟨w.heap.size + 1, 0, none⟩) 2 2 0 0 0 none 0) := Lib.hid (by
    obtain ⟨k0, k1, k2, k3, k4, k5⟩ := cells6 HB2.out
    exact ⟨k0, k1, k2, k3, k4, k5⟩)
  have HN1 : Hid (W.cell? ⟨w.heap.size, 0, none⟩ = some (sV [121])) := Lib.hid (cell_of HB0.out 0)
  have HN0 : Hid (W.cell? ⟨w.heap.size + 1, 0, none⟩ = some (sV [120])) := Lib.hid (cell_of HB1.out 0)
  have HRN := Lib.hid (renameT_calls (some ⟨w.heap.size, 0, none⟩) (some ⟨w.heap.size + 1 + 1, 0, none⟩) 1 1 _ W (he.ext HU.out) (hfe.ext HU.out) HND.out)
  have HC9 := Lib.hid (fun u (hu : Upto [] W u) => check9_calls w.heap.size 0 1 (w.heap.size + 1 + 1) 0 1 (w.heap.size + 1) 0 2 0 0 0 none 0 _ u ⟨(he.ext HU.out).ext hu, (hse.upto HU.out (by simp)).upto hu (by simp), (hfe.ext HU.out).ext hu⟩ (HND.out.ext hu) ((hu.cell (World.block_lt_of_cell? W _ HN1.out) (by simp)).trans HN1.out) ((hu.cell (World.block_lt_of_cell? W _ HN0.out) (by simp)).trans HN0.out) (HLF.out.ext hu))
  have HRK := Lib.hid (fun u (hu : Upto [] W u) => rank16_calls w.heap.size 0 1 (w.heap.size + 1 + 1) 0 1 (some ⟨w.heap.size + 1, 0, none⟩) 2 2 0 0 0 none 0 u (HLF.out.ext hu))
  have HFR := Lib.hid (fun (u : World) (hu : Upto [] W u) (v : Value) (h : SlP u (fun _ => True) v 2 [sV [97], sV [97, 50]]) => freshP_calls [97] [[97], [97, 50]] v u _ h (by decide) (by decide) ((he.ext HU.out).ext hu))
  clear he hse hfe
  go_enter Tryz.func9, Tryz.ntmps9
  go_wp2_with fail
  simp only [← hW]
  clear hW
  refine HRN.out.mono ?_
  rintro e w1 ⟨g1, o1, c1, gl, ol, cl, g, o, c2, c3, a3, rfl, hq, hu1⟩
  have HQ2 := Lib.hid (hq.ext ((Upto.refl [] w1).alloc (.cells #[.int .i64 16, .slice (some ⟨g1, o1, none⟩) 1 c1, .int .i64 0, .int .i64 0, .int .i64 0, .slice (some ⟨gl, ol, none⟩) 1 cl] 30)))
  have HU2 := Lib.hid (hu1.alloc (.cells #[.int .i64 16, .slice (some ⟨g1, o1, none⟩) 1 c1, .int .i64 0, .int .i64 0, .int .i64 0, .slice (some ⟨gl, ol, none⟩) 1 cl] 30))
  obtain ⟨k0, k1, k2, k3, k4, k5⟩ := cells6 (HU2.out.at HB3.out (by simp))
  obtain ⟨m0, -, m1, m2, m3, m4, m5, m6⟩ := HQ2.out.cells
  obtain ⟨t2, cs2, hnm⟩ := HQ2.out.nm
  obtain ⟨n0, n1, -, -⟩ := hnm.cells
  unfold sV at m0 n0 n1
  clear hq hu1 hnm
  go_wp2_with fail
  refine (HC9.out _ HU2.out).mono ?_
  rintro e w3 ⟨rfl, hu3⟩
  have HU4 := Lib.hid ((HU2.out.trans_ext hu3).alloc (.cells #[.int .i64 21, .string ⟨#[120]⟩] 64))
  clear hu3 k0 k1 k2 k3 k4 k5 m0 m1 m2 m3 m4 m5 m6 n0 n1
  obtain ⟨k0, k1, k2, k3, k4, k5⟩ := cells6 (HU4.out.at HB3.out (by simp))
  go_wp2_with fail
  refine (HRK.out _ HU4.out).mono ?_
  rintro e w5 ⟨rfl, hu5⟩
  have HU6 := Lib.hid ((HU4.out.trans_ext hu5).alloc (.cells #[.string ⟨#[97]⟩, .string ⟨#[97, 50]⟩] 9))
  clear hu5 k0 k1 k2 k3 k4 k5
  have HF6 := Lib.hid (HFR.out _ HU6.out _ (SlP.block trivial (new_at w5 (.cells #[.string ⟨#[97]⟩, .string ⟨#[97, 50]⟩] 9)) 2 2 [sV [97], sV [97, 50]] (fun j u hj => by simpa [sV] using hj)))
  go_wp2_with fail
  refine HF6.out.mono ?_
  rintro e w7 ⟨rfl, hu7⟩
  rw [fresh_a3]
  have HU7 := Lib.hid (HU.out.trans_ext (HU6.out.trans_ext hu7))
  clear hu7
  go_wp2_with fail
  go_ret
  exact ⟨rfl, HU7.out⟩
end Go.Proofs.YtbnebkkpmcjmbaaGreatDoor


namespace Go.Proofs.YtbnebkkpmcjmbaaGreatDoor
open Go.RowKit Go.PL Go.Maps
set_option maxRecDepth 100000 in
set_option maxHeartbeats 3200000 in
theorem short_calls (nd : Nd) (v : Value) (w : World) (P : Nat → Prop) (h : NdV w P nd v) (hk : sizeF nd ≤ 10000000) : Calls Tryz.prog 10 #[v] w fun e w' => e = .returned (.bool (decide (sizeF nd ≤ 60) && decide (depthF nd ≤ 20))) ∧ Upto [] w w' := by
  obtain ⟨op, a1, n1, c1, so, nn, mm, a2, n2, c2, rfl⟩ := h.six
  obtain ⟨W, hW⟩ : ∃ W, W = w.alloc (.cells #[.int .i64 op, .slice a1 n1 c1, .int .i64 so, .int .i64 nn, .int .i64 mm, .slice a2 n2 c2] 25) := ⟨_, rfl⟩
  have HU1 : Hid (Upto [] w W) := Lib.hid (by rw [hW]; exact (Upto.refl [] w).alloc _)
  have HB1 : Hid (W.heap[w.heap.size]? = some (.cells #[.int .i64 op, .slice a1 n1 c1, .int .i64 so, .int .i64 nn, .int .i64 mm, .slice a2 n2 c2] 25 (0, 0))) := Lib.hid (by rw [hW]; exact new_at w _)
  have HC1 := Lib.hid (fun u (hu : Upto [] w u) => count_calls 10000000 nd hk (by omega) _ u P (h.ext hu))
  have HC2 := Lib.hid (fun u (hu : Upto [] w u) => deep_calls 10000000 nd hk (by omega) _ u P (h.ext hu))
  have hd := depth_le_size nd
  generalize sizeF nd = N at *
  generalize depthF nd = D at *
  have hN0 : (0 : Int) ≤ N := by omega
  have hN1 : (N : Int) ≤ 10000000 := by omega
  have hD0 : (0 : Int) ≤ D := by omega
  have hD1 : (D : Int) ≤ 10000000 := by omega
  obtain ⟨x0, x1, x2, x3, x4, x5⟩ := cells6 HB1.out
  clear h hd hk
  go_enter Tryz.func10, Tryz.ntmps10
  go_wp2_with fail
  simp only [← hW]
  clear hW
  try go_wp2_with fail
  refine (HC1.out _ HU1.out).mono ?_
  rintro e w2 ⟨rfl, hu2⟩
  have HU2 := Lib.hid (HU1.out.trans_ext hu2)
  have HB2 := Lib.hid (hu2.at HB1.out (by simp))
  clear hu2 x0 x1 x2 x3 x4 x5
  obtain ⟨x0, x1, x2, x3, x4, x5⟩ := cells6 HB2.out
  by_cases h60 : N ≤ 60
  · have h60I : (N : Int) ≤ 60 := by omega
    go_wp2_with fail
    refine (HC2.out _ HU2.out).mono ?_
    rintro e w3 ⟨rfl, hu3⟩
    have HU3 := Lib.hid (HU2.out.trans_ext hu3)
    clear hu3
    by_cases h20 : D ≤ 20
    · have h20I : (D : Int) ≤ 20 := by omega
      go_wp2_with fail
      go_ret
      exact ⟨ret_bool (by simp [h60, h20] <;> omega), HU3.out⟩
    · have h20I : ¬ (D : Int) ≤ 20 := by omega
      go_wp2_with fail
      go_ret
      exact ⟨ret_bool (by simp [h60, h20] <;> omega), HU3.out⟩
  · have h60I : ¬ (N : Int) ≤ 60 := by omega
    go_wp2_with fail
    go_ret
    exact ⟨ret_bool (by simp <;> omega), HU2.out⟩
theorem form_parts {op so n m : Int} {nms : List (List UInt8)} {l : List Nd} (h : formF nameF (.mk op nms so n m l) = 0) : kindBad op = false ∧ shapeBad op nms.length l.length = false ∧ rangeBad op so n m = false ∧ formsF nameF l = 0 := by
  unfold formF at h
  split at h
  · cases h
  · rename_i h1
    split at h
    · cases h
    · rename_i h2
      split at h
      · cases h
      · split at h
        · cases h
        · split at h
          · cases h
          · rename_i h5
            exact ⟨by simpa using h1, by simpa using h2, by simpa using h5, h⟩
theorem forms_parts {x : Nd} {xs : List Nd} (h : formsF nameF (x :: xs) = 0) : formF nameF x = 0 ∧ formsF nameF xs = 0 := by
  unfold formsF at h
  split at h
  · rename_i h1
    exact absurd h h1
  · rename_i h1
    exact ⟨by simpa using h1, h⟩
theorem names_most {op : Int} {k n : Nat} (h : shapeBad op k n = false) : k ≤ 17 ∧ (op = 10 ∨ op = 16 ∨ op = 17 → 0 < k) := by
  simp only [shapeBad, Bool.or_eq_false_iff, decide_eq_false_iff_not] at h
  obtain ⟨⟨h1, h2⟩, -⟩ := h
  unfold hasF at h1 h2
  constructor
  · split at h2
    · simp at h2; omega
    · split at h2
      · simp at h2; omega
      · split at h2
        · simp at h2; omega
        · split at h2
          · simp at h2; omega
          · split at h2
            · simp at h2; omega
            · split at h2 <;> simp at h2 <;> omega
  · intro ho
    rcases ho with rfl | rfl | rfl <;> simp at h1 <;> omega
mutual
theorem good_of : ∀ n : Nd, formF nameF n = 0 → goodN n ∧ sortN n ∧ nmsF n ≤ 17 * sizeF n
  | .mk op nms so nn mm l, h => by
    obtain ⟨-, h2, h3, h4⟩ := form_parts h
    obtain ⟨k1, k2, k3⟩ := goods_of l h4
    obtain ⟨m1, m2⟩ := names_most h2
    unfold goodN sortN nmsF sizeF
    refine ⟨⟨m2, k1⟩, ⟨fun ho => ?_, k2⟩, by omega⟩
    simp only [rangeBad, Bool.or_eq_false_iff, decide_eq_false_iff_not] at h3
    obtain ⟨⟨-, h5⟩, h6⟩ := h3
    omega
theorem goods_of : ∀ l : List Nd, formsF nameF l = 0 → goodsN l ∧ sortsN l ∧ nmssF l ≤ 17 * sizesF l
  | [], _ => by unfold goodsN sortsN; simp [nmssF]
  | x :: xs, h => by
    obtain ⟨h1, h2⟩ := forms_parts h
    obtain ⟨k1, k2, k3⟩ := good_of x h1
    obtain ⟨j1, j2, j3⟩ := goods_of xs h2
    unfold goodsN sortsN nmssF sizesF
    exact ⟨⟨k1, j1⟩, ⟨k2, j2⟩, by omega⟩
end
theorem form_of_check {n : Nd} (h : checkF nameF n = 0) : formF nameF n = 0 := by
  unfold checkF at h
  split at h
  · rename_i h1
    exact absurd h h1
  · rename_i h1
    simpa using h1
end Go.Proofs.YtbnebkkpmcjmbaaGreatDoor


namespace Go.Proofs.YtbnebkkpmcjmbaaGreatDoor
open Go.RowKit Go.PL Go.Maps
theorem shape_one {op : Int} {k n : Nat} (h : shapeBad op k n = false) (hb : op = 16 ∨ op = 17) : k = 1 ∧ n = 1 := by
  simp only [shapeBad, Bool.or_eq_false_iff, decide_eq_false_iff_not] at h
  obtain ⟨⟨h1, h2⟩, h3⟩ := h
  unfold hasF at h1 h2 h3
  rcases hb with rfl | rfl <;> simp at h1 h2 h3 <;> omega
mutual
theorem one_of : ∀ n : Nd, formF nameF n = 0 → oneN n
  | .mk op nms so nn mm l, h => by
    obtain ⟨-, h2, -, h4⟩ := form_parts h
    unfold oneN
    refine ⟨fun hb => shape_one h2 ?_, ones_of l h4⟩
    unfold bindsF at hb
    simp only [Bool.and_eq_true, Bool.or_eq_true, decide_eq_true_eq] at hb
    exact hb.1
theorem ones_of : ∀ l : List Nd, formsF nameF l = 0 → onesN l
  | [], _ => by unfold onesN; trivial
  | x :: xs, h => by
    obtain ⟨h1, h2⟩ := forms_parts h
    unfold onesN
    exact ⟨one_of x h1, ones_of xs h2⟩
end
theorem name_len {s : List UInt8} (h : nameF s = true) : s.length ≤ 16 := by
  obtain ⟨-, -, -, -, -, h4⟩ := name_parts h
  exact h4
/-- what a checked short formula is -/
theorem small_of {n : Nd} (hk : sizeF n ≤ 60) (hck : checkF nameF n = 0) : oneN n ∧ goodN n ∧ nmsF n ≤ 1020 := by
  have h1 := form_of_check hck
  have h2 := good_of n h1
  exact ⟨one_of n h1, h2.1, by omega⟩
end Go.Proofs.YtbnebkkpmcjmbaaGreatDoor


namespace Go.Proofs.YtbnebkkpmcjmbaaGreatDoor
open Go.RowKit Go.PL Go.Maps
theorem form_iff {op so n m : Int} {nms : List (List UInt8)} {l : List Nd} : formF nameF (.mk op nms so n m l) = 0 ↔ kindBad op = false ∧ shapeBad op nms.length l.length = false ∧ nms.all nameF = true ∧ zeroBad op so n m = false ∧ rangeBad op so n m = false ∧ formsF nameF l = 0 := by
  unfold formF
  cases h1 : kindBad op <;> cases h2 : shapeBad op nms.length l.length <;> cases h3 : nms.all nameF <;> cases h4 : zeroBad op so n m <;> cases h5 : rangeBad op so n m <;> simp
theorem forms_iff : ∀ {l : List Nd}, formsF nameF l = 0 ↔ ∀ x ∈ l, formF nameF x = 0
  | [] => by simp [formsF]
  | x :: xs => by
    unfold formsF
    by_cases hx : formF nameF x = 0
    · rw [if_neg (by simp [hx]), forms_iff]
      simp [hx]
    · rw [if_pos hx]
      simp [hx]
end Go.Proofs.YtbnebkkpmcjmbaaGreatDoor


namespace Go.Proofs.YtbnebkkpmcjmbaaGreatDoor
open Go.RowKit Go.PL Go.Maps
theorem look_name {e : List (List UInt8 × List UInt8)} (he : ∀ p ∈ e, nameF p.2 = true) {y : List UInt8} (hy : nameF y = true) : nameF (lookE e y) = true := by
  unfold lookE
  cases h : e.find? (fun p => p.1 == y) with
  | none => exact hy
  | some p => exact he p (List.mem_of_find?_eq_some h)
theorem uses_all {p : List UInt8 → Bool} {op : Int} {f : List UInt8 → List UInt8} {nms : List (List UInt8)} (h : nms.all p = true) (hf : ∀ y, p y = true → p (f y) = true) : (rnUses op f nms).all p = true := by
  rw [List.all_eq_true] at h ⊢
  intro y hy
  unfold rnUses at hy
  split at hy
  · rcases List.mem_append.1 hy with h1 | h1
    · exact h y (List.mem_of_mem_take h1)
    · obtain ⟨z, hz, rfl⟩ := List.mem_map.1 h1
      exact hf z (h z (List.mem_of_mem_drop hz))
  · split at hy
    · obtain ⟨z, hz, rfl⟩ := List.mem_map.1 hy
      exact hf z (h z hz)
    · exact h y hy
mutual
theorem apN_shape : ∀ (n : Nd) (e : List (List UInt8 × List UInt8)) (tk : List (List UInt8)), formF nameF n = 0 → (∀ p ∈ e, nameF p.2 = true) → tk.length + sizeF n ≤ 8000 →
    depthF (apN n e tk).1 = depthF n ∧ sizeF (apN n e tk).1 = sizeF n ∧ nmsF (apN n e tk).1 = nmsF n ∧ formF nameF (apN n e tk).1 = 0 ∧ (apN n e tk).2.length ≤ tk.length + sizeF n
  | .mk op nms so nn mm l, e, tk, h, he, hl => by
    obtain ⟨k1, k2, k3, k4, k5, k6⟩ := form_iff.1 h
    simp only [sizeF] at hl
    unfold apN
    by_cases hb : bindsF op nms.length = true
    · have h16 : op = 16 ∨ op = 17 := by
        unfold bindsF at hb
        simp only [Bool.and_eq_true, Bool.or_eq_true, decide_eq_true_eq] at hb
        exact hb.1
      obtain ⟨hn1, hn2⟩ := shape_one k2 h16
      obtain ⟨b, rfl⟩ := List.length_eq_one_iff.1 hn1
      have hbn : nameF b = true := List.all_eq_true.1 k3 b (by simp)
      obtain ⟨-, hs⟩ := freshG_not (s := b) (tk := tk) hbn (by omega)
      obtain ⟨i1, i2, i3, i4, i5, i6⟩ := apL_shape l ((b, freshG b tk) :: e) (tk ++ [freshG b tk]) k6 (fun p hp => by
        rcases List.mem_cons.1 hp with rfl | hp
        · exact hs
        · exact he p hp) (by rw [List.length_append, List.length_singleton]; omega)
      rw [if_pos hb]
      simp only [List.headD_cons, depthF, sizeF, nmsF]
      refine ⟨by rw [i1], by rw [i2], by rw [i3]; rfl, form_iff.2 ⟨k1, by rw [i5]; exact k2, by simp [hs], k4, k5, i4⟩, ?_⟩
      rw [List.length_append, List.length_singleton] at i6
      omega
    · obtain ⟨i1, i2, i3, i4, i5, i6⟩ := apL_shape l e tk k6 he (by omega)
      rw [if_neg hb]
      simp only [depthF, sizeF, nmsF]
      exact ⟨by rw [i1], by rw [i2], by rw [i3, rnUses_len], form_iff.2 ⟨k1, by rw [i5, rnUses_len]; exact k2, uses_all k3 (fun y hy => look_name he hy), k4, k5, i4⟩, by omega⟩
theorem apL_shape : ∀ (l : List Nd) (e : List (List UInt8 × List UInt8)) (tk : List (List UInt8)), formsF nameF l = 0 → (∀ p ∈ e, nameF p.2 = true) → tk.length + sizesF l ≤ 8000 →
    depthsF (apL l e tk).1 = depthsF l ∧ sizesF (apL l e tk).1 = sizesF l ∧ nmssF (apL l e tk).1 = nmssF l ∧ formsF nameF (apL l e tk).1 = 0 ∧ (apL l e tk).1.length = l.length ∧ (apL l e tk).2.length ≤ tk.length + sizesF l
  | [], e, tk, h, he, hl => by unfold apL; exact ⟨rfl, rfl, rfl, h, rfl, Nat.le_add_right _ _⟩
  | x :: xs, e, tk, h, he, hl => by
    obtain ⟨h1, h2⟩ := forms_parts h
    simp only [sizesF] at hl
    obtain ⟨i1, i2, i3, i4, i5⟩ := apN_shape x e tk h1 he (by omega)
    obtain ⟨j1, j2, j3, j4, j5, j6⟩ := apL_shape xs e (apN x e tk).2 h2 he (by omega)
    unfold apL
    simp only [depthsF, sizesF, nmssF, List.length_cons]
    refine ⟨by rw [i1, j1], by rw [i2, j2], by rw [i3, j3], ?_, by rw [j5], by omega⟩
    unfold formsF
    rw [if_neg (by simp [i4]), j4]
end
end Go.Proofs.YtbnebkkpmcjmbaaGreatDoor


namespace Go.Proofs.YtbnebkkpmcjmbaaGreatDoor
open Go.RowKit Go.PL Go.Maps
/-- the last place of a name below i, or -1 -/
def findF (ls : List (List UInt8)) (y : List UInt8) : Nat → Int
  | 0 => -1
  | i + 1 => if ls[i]? = some y then i else findF ls y i
set_option maxRecDepth 100000 in
set_option maxHeartbeats 3200000 in
theorem find_calls (ls : List (List UInt8)) (y : List UInt8) (a a2 a3 : Option Addr) (c n2 c2 n3 c3 : Nat) (w : World) (P : Nat → Prop) (h : SlP w P (.slice a ls.length c) ls.length (ls.map sV)) (hl : ls.length ≤ 1000000) : Calls Tryz.prog 88 #[.agg #[.slice a ls.length c, .slice a2 n2 c2, .slice a3 n3 c3], .string ⟨y.toArray⟩] w fun e w' => e = .returned (.int .i64 (findF ls y ls.length)) ∧ Upto [] w w' := by
  have HS := Lib.hid h
  obtain ⟨n, hn⟩ : ∃ n, n = ls.length := ⟨_, rfl⟩
  have HN : Hid (ls.length = n) := Lib.hid hn.symm
  obtain ⟨FF, hFF⟩ : ∃ FF, FF = findF ls y n := ⟨_, rfl⟩
  rw [← hn, ← hFF]
  rw [← hn] at HS hl
  have HF := Lib.hid hFF
  have hn0 : (0 : Int) ≤ n := by omega
  have hn1 : (n : Int) ≤ 1000000 := by omega
  obtain ⟨W, hW⟩ : ∃ W, W = w.alloc (.cells #[.slice a n c, .slice a2 n2 c2, .slice a3 n3 c3] 95) := ⟨_, rfl⟩
  have HU : Hid (Upto [] w W) := Lib.hid (by rw [hW]; exact (Upto.refl [] w).alloc _)
  have HB : Hid (W.heap[w.heap.size]? = some (.cells #[.slice a n c, .slice a2 n2 c2, .slice a3 n3 c3] 95 (0, 0))) := Lib.hid (by rw [hW]; exact new_at w _)
  have x0 := cell_of HB.out 0
  simp only [List.getElem?_toArray, List.getElem?_cons_zero] at x0
  clear h hl hn hFF
  go_enter Tryz.func88, Tryz.ntmps88
  go_wp2_with fail
  try simp only [← hW]
  clear hW
  try go_wp2_with fail
  go_loopw [5] (fun v wr => ∃ i : Nat, i ≤ n ∧ v = .int .i64 ((i : Int) - 1) ∧ Hid (FF = findF ls y i) ∧ Hid (Upto [] W wr)) (fun v _ => (intOf v + 1).toNat)
  case atStart => exact ⟨n, Nat.le_refl _, rfl, HF, Lib.hid (Upto.refl _ _)⟩
  case round =>
    obtain ⟨i, hi, rfl, HI, HV⟩ := hrel
    have HBR := Lib.hid (HV.out.at HB.out (by simp))
    clear x0
    have x0 := cell_of HBR.out 0
    simp only [List.getElem?_toArray, List.getElem?_cons_zero] at x0
    cases i with
    | zero =>
      have HR : Hid (FF = -1) := Lib.hid HI.out
      go_wp2_with fail
      go_ret
      exact ⟨by rw [HR.out]; rfl, HU.out.trans_ext HV.out⟩
    | succ j =>
      have hj1 : ((j + 1 : Nat) : Int) - 1 = (j : Int) := by omega
      have hj0 : (0 : Int) ≤ (j : Int) := by omega
      have hjn : (j : Int) < n := by omega
      rw [hj1]
      obtain ⟨x, hx⟩ : ∃ x, ls[j]? = some x := ⟨_, List.getElem?_eq_getElem (by have := HN.out; omega)⟩
      obtain ⟨g, o, rfl, hcell⟩ := slp_cell HS.out HN.out j x hx
      have hc := hcell wr (HU.out.trans_ext HV.out)
      have HX := Lib.hid hx
      clear hcell hx hj1
      cases hxy : (x == y) with
      | true =>
        have HR : Hid (FF = (j : Int)) := Lib.hid (by
          have h1 := HI.out
          unfold findF at h1
          rw [HX.out, eq_of_beq hxy, if_pos rfl] at h1
          exact h1)
        go_wp2_with fail
        go_ret
        exact ⟨by rw [HR.out]; go_num, HU.out.trans_ext HV.out⟩
      | false =>
        have HR : Hid (FF = findF ls y j) := Lib.hid (by
          have h1 := HI.out
          unfold findF at h1
          rw [HX.out, if_neg (fun e => by rw [Option.some.inj e, beq_self_eq_true] at hxy; cases hxy)] at h1
          exact h1)
        go_wp2_with fail
        exact ⟨⟨j, by omega, rfl, HR, HV⟩, by simp [intOf]⟩
end Go.Proofs.YtbnebkkpmcjmbaaGreatDoor


namespace Go.Proofs.YtbnebkkpmcjmbaaGreatDoor
open Go.RowKit Go.PL Go.Maps
theorem shape_none {op : Int} {k n : Nat} (h : shapeBad op k n = false) (h1 : ¬ op = 10) (h2 : ¬ (2 ≤ op ∧ op < 10)) (h3 : ¬ (op = 16 ∨ op = 17)) (h0 : kindBad op = false) : k = 0 := by
  simp only [kindBad, Bool.or_eq_false_iff, decide_eq_false_iff_not] at h0
  simp only [shapeBad, Bool.or_eq_false_iff, decide_eq_false_iff_not] at h
  obtain ⟨⟨-, h5⟩, -⟩ := h
  unfold hasF at h5
  by_cases a1 : op < 2
  · rw [if_pos a1] at h5; simp at h5; omega
  · rw [if_neg a1, if_neg (by omega), if_neg (by omega), if_neg h1] at h5
    by_cases a2 : op = 11
    · rw [if_pos a2] at h5; simp at h5; omega
    · rw [if_neg a2] at h5
      by_cases a3 : op < 16
      · rw [if_pos a3] at h5; simp at h5; omega
      · omega
/-- a slice of one's own that holds these formulas, whatever blocks they lie in -/
structure AnRow (P : Nat → Prop) (w0 w : World) (c : Nat → Nat → Value) (v : Value) (ms : List Nd) : Prop where
  row : w.ownsRow 0 25 6 v ms.length (cellsN c ms.length)
  nd : ∀ i m, ms[i]? = some m → NdV w (fun b => P b ∧ v.ownBlock ≠ some b) m (.agg #[c i 0, c i 1, c i 2, c i 3, c i 4, c i 5])
  own : ∀ g, v.ownBlock = some g → w0.heap.size ≤ g
theorem AnRow.ext {P : Nat → Prop} {w0 w w' : World} {c : Nat → Nat → Value} {v : Value} {ms : List Nd} (h : AnRow P w0 w c v ms) (hu : Upto [] w w') : AnRow P w0 w' c v ms := ⟨ownsRow_upto h.row hu (by simp), fun i m hi => (h.nd i m hi).ext hu, h.own⟩
theorem AnRow.nil (P : Nat → Prop) (w0 w : World) (c : Nat → Nat → Value) : AnRow P w0 w c (.slice none 0 0) [] := ⟨World.ownsRow_nil _ 0 25 6, fun i m hi => by simp at hi, fun g hg => by simp [Value.ownBlock] at hg⟩
theorem AnRow.app {P : Nat → Prop} {w0 w w5 : World} {c : Nat → Nat → Value} {v : Value} {ms : List Nd} {n : Nat} {m : Nd} {v0 v1 v2 v3 v4 v5 : Value} {b' : Option Addr} {c' : Nat} (h : AnRow P w0 w c v ms) (hn : ms.length = n) (hsz : w0.heap.size ≤ w.heap.size)
    (hm : NdV w (fun b => P b ∧ v.ownBlock ≠ some b) m (.agg #[v0, v1, v2, v3, v4, v5])) (ho : w5.ownsRow 0 25 6 (.slice b' (n + 1) c') (n + 1) (cellsN c n ++ [v0, v1, v2, v3, v4, v5])) (hu : Upto v.ownBlock.toList w w5)
    (hw : ∀ g, (Value.slice b' (n + 1) c').ownBlock = some g → v.ownBlock = some g ∨ w.heap.size ≤ g) : AnRow P w0 w5 (addC c n v0 v1 v2 v3 v4 v5) (.slice b' (n + 1) c') (ms ++ [m]) := by
  subst hn
  have key : ∀ x u, NdV w (fun b => P b ∧ v.ownBlock ≠ some b) x u → NdV w5 (fun b => P b ∧ (Value.slice b' (ms.length + 1) c').ownBlock ≠ some b) x u := fun x u hx =>
    NdV.keep ⟨hu.size, fun b hb hl => ⟨⟨hb.1, fun e => by
      rcases hw b e with h1 | h1
      · exact hb.2 h1
      · have := hl.lt; omega⟩, hu.block b hl.lt (fun hmm => hb.2 (Option.mem_toList.1 hmm))⟩⟩ x u hx
  refine ⟨?_, ?_, ?_⟩
  · rw [List.length_append, List.length_singleton, cellsN_add]
    exact ho
  · intro i x hi
    by_cases hlt : i < ms.length
    · rw [List.getElem?_append_left hlt] at hi
      have := key _ _ (h.nd i x hi)
      simpa [addC, Nat.ne_of_lt hlt] using this
    · rw [List.getElem?_append_right (by omega)] at hi
      cases hd : i - ms.length with
      | zero =>
        rw [hd] at hi
        simp at hi
        subst hi
        have : i = ms.length := by omega
        subst this
        simpa [addC] using key _ _ hm
      | succ z => rw [hd] at hi; simp at hi
  · intro g hg
    rcases hw g hg with h1 | h1
    · exact h.own g h1
    · exact Nat.le_trans hsz h1
/-- the row, as a formula's list -/
theorem AnRow.list {P : Nat → Prop} {w0 w : World} {c : Nat → Nat → Value} {v : Value} {ms : List Nd} {Q : Nat → Prop} (h : AnRow P w0 w c v ms) (h1 : ∀ b, P b → Q b) (h2 : ∀ g, w0.heap.size ≤ g → Q g) : (ms = [] ∧ ∃ a c, v = .slice a 0 c) ∨ ∃ g o c, v = .slice (some ⟨g, o, none⟩) ms.length c ∧ (Q g ∧ IsC w g) ∧ NdsV w Q g o ms := by
  rcases h.row.2 with ⟨e, h0⟩ | ⟨g, cap, cur, e, _, hh, _, _, _, ht⟩
  · exact Or.inl ⟨List.eq_nil_of_length_eq_zero h0, none, 0, e⟩
  · refine Or.inr ⟨g, 0, cap, e, ⟨h2 g (h.own g (by rw [e]; rfl)), _, _, _, hh⟩, nds_of ms 0 fun i x hi => ?_⟩
    have hil : i < ms.length := (List.getElem?_eq_some_iff.1 hi).1
    have cl : ∀ j, j < 6 → w.cell? ⟨g, 0 + i * 6 + j, none⟩ = some (c i j) := fun j hj => by
      rw [cell_of hh]
      have := cellsN_at c hil hj
      rw [← ht, List.getElem?_take] at this
      split at this
      · simpa using this
      · cases this
    exact ⟨_, _, _, _, _, _, cl 0 (by omega), cl 1 (by omega), cl 2 (by omega), cl 3 (by omega), cl 4 (by omega), cl 5 (by omega), (h.nd i x hi).mono fun b hb _ => h1 b hb.1⟩
end Go.Proofs.YtbnebkkpmcjmbaaGreatDoor


namespace Go.Proofs.YtbnebkkpmcjmbaaGreatDoor
open Go.RowKit Go.PL Go.Maps
abbrev EnvL := List (List UInt8 × List UInt8)
theorem apL_snoc : ∀ (l : List Nd) (x : Nd) (e : EnvL) (tk : List (List UInt8)), apL (l ++ [x]) e tk = ((apL l e tk).1 ++ [(apN x e (apL l e tk).2).1], (apN x e (apL l e tk).2).2)
  | [], x, e, tk => by
    rw [List.nil_append]
    unfold apL
    unfold apL
    rfl
  | y :: ys, x, e, tk => by
    rw [List.cons_append]
    conv => lhs; unfold apL
    conv => rhs; unfold apL
    rw [apL_snoc ys x e _]
    rfl
theorem apL_len : ∀ (l : List Nd) (e : EnvL) (tk : List (List UInt8)), (apL l e tk).1.length = l.length
  | [], e, tk => by unfold apL; rfl
  | y :: ys, e, tk => by
    unfold apL
    rw [List.length_cons, List.length_cons, apL_len ys]
theorem apL_take {l : List Nd} {i : Nat} {x : Nd} (h : l[i]? = some x) (e : EnvL) (tk : List (List UInt8)) : apL (l.take (i + 1)) e tk = ((apL (l.take i) e tk).1 ++ [(apN x e (apL (l.take i) e tk).2).1], (apN x e (apL (l.take i) e tk).2).2) := by
  obtain ⟨hi, rfl⟩ := List.getElem?_eq_some_iff.1 h
  rw [List.take_succ_eq_append_getElem hi, apL_snoc]
theorem findF_local {a b : List (List UInt8)} (y : List UInt8) : ∀ i, (∀ j, j < i → a[j]? = b[j]?) → findF a y i = findF b y i
  | 0, _ => rfl
  | i + 1, h => by
    unfold findF
    rw [h i (by omega), findF_local y i (fun j hj => h j (by omega))]
/-- the last entry of a name is the one that counts -/
theorem find_look : ∀ (e : EnvL) (y : List UInt8), (findF (e.reverse.map Prod.fst) y e.length = -1 ∧ lookE e y = y) ∨ ∃ k : Nat, k < e.length ∧ findF (e.reverse.map Prod.fst) y e.length = (k : Int) ∧ (e.reverse.map Prod.snd)[k]? = some (lookE e y)
  | [], y => Or.inl ⟨rfl, rfl⟩
  | p :: r, y => by
    have hg : ∀ {β : Type} (f : List UInt8 × List UInt8 → β), (((p :: r).reverse.map f)[r.length]?) = some (f p) := fun f => by
      rw [List.reverse_cons, List.map_append, List.getElem?_append_right (by simp)]
      simp
    have hl : ∀ {β : Type} (f : List UInt8 × List UInt8 → β) (j : Nat), j < r.length → ((p :: r).reverse.map f)[j]? = (r.reverse.map f)[j]? := fun f j hj => by
      rw [List.reverse_cons, List.map_append, List.getElem?_append_left (by simpa using hj)]
    rw [List.length_cons]
    unfold findF
    rw [hg]
    by_cases hp : p.1 = y
    · refine Or.inr ⟨r.length, by omega, by rw [if_pos (by rw [hp])], ?_⟩
      rw [hg]
      unfold lookE
      rw [List.find?_cons_of_pos (by simp [hp])]
    · have h2 : lookE (p :: r) y = lookE r y := by
        unfold lookE
        rw [List.find?_cons_of_neg (by simpa using hp)]
      rw [if_neg (fun h => hp (Option.some.inj h)), h2, findF_local y r.length (fun j hj => hl Prod.fst j hj)]
      rcases find_look r y with h | ⟨k, h3, h4, h5⟩
      · exact Or.inl h
      · exact Or.inr ⟨k, by omega, h4, by rw [hl Prod.snd k h3]; exact h5⟩
/-- the reference's environment in memory: the newest entry stands last -/
structure EnvR (w : World) (Q : Nat → Prop) (e : EnvL) (a1 : Option Addr) (c1 : Nat) (a2 : Option Addr) (c2 : Nat) (a3 : Option Addr) (c3 n : Nat) : Prop where
  len : e.length = n
  from_ : SlP w Q (.slice a1 n c1) n ((e.reverse.map Prod.fst).map sV)
  to_ : SlP w Q (.slice a2 n c2) n ((e.reverse.map Prod.snd).map sV)
  so_ : ∃ ss, ss.length = n ∧ (∀ u ∈ ss, u.oneCell' = true) ∧ SlP w Q (.slice a3 n c3) n ss
theorem EnvR.upto {S : List Nat} {w w' : World} {Q : Nat → Prop} {e : EnvL} {a1 a2 a3 : Option Addr} {c1 c2 c3 n : Nat} (h : EnvR w Q e a1 c1 a2 c2 a3 c3 n) (hu : Upto S w w') (hs : ∀ b, Q b → IsC w b → b ∉ S) : EnvR w' Q e a1 c1 a2 c2 a3 c3 n := by
  obtain ⟨ss, h1, h2, h3⟩ := h.so_
  exact ⟨h.len, h.from_.upto hu hs, h.to_.upto hu hs, ss, h1, h2, h3.upto hu hs⟩
theorem EnvR.ext {w w' : World} {Q : Nat → Prop} {e : EnvL} {a1 a2 a3 : Option Addr} {c1 c2 c3 n : Nat} (h : EnvR w Q e a1 c1 a2 c2 a3 c3 n) (hu : Upto [] w w') : EnvR w' Q e a1 c1 a2 c2 a3 c3 n := h.upto hu (by simp)
theorem EnvR.mono {w : World} {Q R : Nat → Prop} {e : EnvL} {a1 a2 a3 : Option Addr} {c1 c2 c3 n : Nat} (h : EnvR w Q e a1 c1 a2 c2 a3 c3 n) (hq : ∀ b, Q b → IsC w b → R b) : EnvR w R e a1 c1 a2 c2 a3 c3 n := by
  obtain ⟨ss, h1, h2, h3⟩ := h.so_
  exact ⟨h.len, h.from_.mono hq, h.to_.mono hq, ss, h1, h2, h3.mono hq⟩
theorem sV_one (ls : List (List UInt8)) : ∀ u ∈ ls.map sV, u.oneCell' = true := fun u hu => by
  obtain ⟨x, -, rfl⟩ := List.mem_map.1 hu
  rfl
/-- one more entry -/
theorem bindE_calls {w : World} {Q : Nat → Prop} {e : EnvL} {a1 a2 a3 : Option Addr} {c1 c2 c3 n : Nat} (h : EnvR w Q e a1 c1 a2 c2 a3 c3 n) (hn : n ≤ 8000) (x y : List UInt8) (z : Int) :
    Calls Tryz.prog 87 #[.agg #[.slice a1 n c1, .slice a2 n c2, .slice a3 n c3], .string ⟨x.toArray⟩, .string ⟨y.toArray⟩, .int .i64 z] w fun r w' => ∃ b1 d1 b2 d2 b3 d3, r = .returned (.agg #[.slice b1 (n + 1) d1, .slice b2 (n + 1) d2, .slice b3 (n + 1) d3]) ∧ EnvR w' (New w) ((x, y) :: e) b1 d1 b2 d2 b3 d3 (n + 1) ∧ Upto [] w w' := by
  obtain ⟨ss, h1, h2, h3⟩ := h.so_
  refine (bind_calls _ _ ss x y z a1 a2 a3 c1 c2 c3 n w _ hn (by rw [List.length_map, List.length_map, List.length_reverse, h.len]) (by rw [List.length_map, List.length_map, List.length_reverse, h.len]) h1 (sV_one _) (sV_one _) h2 h.from_ h.to_ h3).mono ?_
  rintro r w' ⟨b1, d1, b2, d2, b3, d3, e1, k1, k2, k3, k4⟩
  refine ⟨b1, d1, b2, d2, b3, d3, e1, ⟨by rw [List.length_cons, h.len], ?_, ?_, ss ++ [.int .i64 z], by simp [h1], ?_, k3⟩, k4⟩
  · simpa [List.map_append] using k1
  · simpa [List.map_append] using k2
  · intro u hu
    rcases List.mem_append.1 hu with hu | hu
    · exact h2 u hu
    · rw [List.mem_singleton.1 hu]; rfl
theorem sizes_take : ∀ {l : List Nd} {i : Nat} {x : Nd}, l[i]? = some x → sizesF (l.take i) + sizeF x ≤ sizesF l
  | [], i, x, h => by simp at h
  | y :: ys, 0, x, h => by
    simp at h
    subst h
    simp [sizesF]
  | y :: ys, i + 1, x, h => by
    have := sizes_take (l := ys) (i := i) (x := x) (by simpa using h)
    rw [List.take_succ_cons]
    simp only [sizesF]
    omega
theorem forms_take {l : List Nd} (h : formsF nameF l = 0) (i : Nat) : formsF nameF (l.take i) = 0 := forms_iff.2 (fun x hx => forms_iff.1 h x (List.mem_of_mem_take hx))
theorem apL_room {l : List Nd} {i : Nat} {x : Nd} (hx : l[i]? = some x) {e : EnvL} {tk : List (List UInt8)} (hf : formsF nameF l = 0) (he : ∀ p ∈ e, nameF p.2 = true) (hr : tk.length + sizesF l ≤ 8000) : (apL (l.take i) e tk).2.length + sizeF x ≤ 8000 := by
  have h1 := sizes_take hx
  obtain ⟨-, -, -, -, -, h2⟩ := apL_shape (l.take i) e tk (forms_take hf i) he (by omega)
  omega
/-- what a call of apart hands back: the node's six cells, the taken names' slice, the new blocks -/
structure ApY where
  o : Int
  a1 : Option Addr
  n1 : Nat
  c1 : Nat
  s : Int
  n : Int
  m : Int
  a2 : Option Addr
  n2 : Nat
  c2 : Nat
  ta : Option Addr
  tc : Nat
  lo : Nat
  k : Nat
instance : Nonempty ApY := ⟨⟨0, none, 0, 0, 0, 0, 0, none, 0, 0, none, 0, 0, 0⟩⟩
end Go.Proofs.YtbnebkkpmcjmbaaGreatDoor


namespace Go.Proofs.YtbnebkkpmcjmbaaGreatDoor
open Go.PL
/-- two names in their environments: the same place of the last binding, or the same free name -/
def nmLike (x y : List (List UInt8)) (a b : List UInt8) : Bool := findF x a x.length == findF y b y.length && (!(decide (findF x a x.length < 0)) || a == b)
def nmsLike (op : Int) (x y : List (List UInt8)) : Nat → List (List UInt8) → List (List UInt8) → Bool
  | i, a :: r, b :: r' => (if op = 10 ∧ i = 0 then a == b else nmLike x y a b) && nmsLike op x y (i + 1) r r'
  | _, _, _ => true
mutual
/-- the reference's like and the program's, in plain words -/
def likeF : Nd → Nd → List (List UInt8) → List (List UInt8) → Bool
  | .mk op nms so nn mm l, .mk op' nms' so' nn' mm' l', x, y =>
    if op = op' ∧ so = so' ∧ nn = nn' ∧ mm = mm' ∧ nms.length = nms'.length ∧ l.length = l'.length then
      if bindsF op nms.length = true then likesF l l' (x ++ [nms.headD []]) (y ++ [nms'.headD []])
      else nmsLike op x y 0 nms nms' && likesF l l' x y
    else false
def likesF : List Nd → List Nd → List (List UInt8) → List (List UInt8) → Bool
  | a :: r, b :: r', x, y => likeF a b x y && likesF r r' x y
  | _, _, _, _ => true
end
/-- a name without its binder's name: its place, or itself where it is free -/
def encN (x : List (List UInt8)) (a : List UInt8) : List UInt8 := if findF x a x.length < 0 then 1 :: a else List.replicate ((findF x a x.length).toNat + 1) 0
def encs (op : Int) (x : List (List UInt8)) : Nat → List (List UInt8) → List (List UInt8)
  | _, [] => []
  | i, a :: r => (if op = 10 ∧ i = 0 then 1 :: a else encN x a) :: encs op x (i + 1) r
mutual
/-- a formula without its bound names -/
def dbN : Nd → List (List UInt8) → Nd
  | .mk op nms so nn mm l, x =>
    if bindsF op nms.length = true then .mk op (List.replicate nms.length []) so nn mm (dbL l (x ++ [nms.headD []]))
    else .mk op (encs op x 0 nms) so nn mm (dbL l x)
def dbL : List Nd → List (List UInt8) → List Nd
  | [], _ => []
  | a :: r, x => dbN a x :: dbL r x
end
theorem findF_ge (x : List (List UInt8)) (a : List UInt8) : ∀ i, -1 ≤ findF x a i
  | 0 => Int.le_refl _
  | i + 1 => by
    unfold findF
    split
    · omega
    · exact findF_ge x a i
theorem enc_eq (x y : List (List UInt8)) (a b : List UInt8) : nmLike x y a b = true ↔ encN x a = encN y b := by
  have h1 := findF_ge x a x.length
  have h2 := findF_ge y b y.length
  unfold nmLike encN
  rw [Bool.and_eq_true, beq_iff_eq, Bool.or_eq_true, Bool.not_eq_true', decide_eq_false_iff_not, beq_iff_eq]
  generalize findF x a x.length = i at *
  generalize findF y b y.length = j at *
  by_cases hi : i < 0 <;> by_cases hj : j < 0
  · rw [if_pos hi, if_pos hj]
    constructor
    · rintro ⟨-, h | h⟩
      · exact absurd hi h
      · rw [h]
    · intro h
      exact ⟨by omega, Or.inr (List.cons.inj h).2⟩
  · rw [if_pos hi, if_neg hj]
    constructor
    · rintro ⟨h, -⟩; omega
    · intro h
      rw [List.replicate_succ] at h
      have := (List.cons.inj h).1
      cases this
  · rw [if_neg hi, if_pos hj]
    constructor
    · rintro ⟨h, -⟩; omega
    · intro h
      rw [List.replicate_succ] at h
      have := (List.cons.inj h).1
      cases this
  · rw [if_neg hi, if_neg hj]
    constructor
    · rintro ⟨h, -⟩; rw [h]
    · intro h
      have := congrArg List.length h
      rw [List.length_replicate, List.length_replicate] at this
      exact ⟨by omega, Or.inl hi⟩
theorem encs_eq (op : Int) (x y : List (List UInt8)) : ∀ (i : Nat) (l r : List (List UInt8)), l.length = r.length → (nmsLike op x y i l r = true ↔ encs op x i l = encs op y i r)
  | i, [], [], _ => by unfold nmsLike encs; simp
  | i, [], b :: r, h => by simp at h
  | i, a :: l, [], h => by simp at h
  | i, a :: l, b :: r, h => by
    have ih := encs_eq op x y (i + 1) l r (by simpa using h)
    unfold nmsLike encs
    rw [Bool.and_eq_true, ih, List.cons.injEq]
    refine and_congr ?_ Iff.rfl
    by_cases h0 : op = 10 ∧ i = 0
    · rw [if_pos h0, if_pos h0, if_pos h0, beq_iff_eq, List.cons.injEq]
      simp
    · rw [if_neg h0, if_neg h0, if_neg h0]
      exact enc_eq x y a b
theorem encs_len (op : Int) (x : List (List UInt8)) : ∀ (i : Nat) (l : List (List UInt8)), (encs op x i l).length = l.length
  | _, [] => rfl
  | i, a :: l => by
    unfold encs
    rw [List.length_cons, List.length_cons, encs_len op x (i + 1) l]
theorem dbL_len : ∀ (l : List Nd) (x : List (List UInt8)), (dbL l x).length = l.length
  | [], _ => by unfold dbL; rfl
  | a :: r, x => by
    unfold dbL
    rw [List.length_cons, List.length_cons, dbL_len r x]
mutual
/-- alike: the same formula without bound names -/
theorem like_db : ∀ (a b : Nd) (x y : List (List UInt8)), likeF a b x y = true ↔ dbN a x = dbN b y
  | .mk op nms so nn mm l, .mk op' nms' so' nn' mm' l', x, y => by
    have hlen : ∀ (n : Nd) (z : List (List UInt8)), ∀ o k s p q r, n = .mk o k s p q r → ∃ k' r', dbN n z = .mk o k' s p q r' ∧ k'.length = k.length ∧ r'.length = r.length := fun n z o k s p q r e => by
      subst e
      unfold dbN
      split
      · exact ⟨_, _, rfl, List.length_replicate, dbL_len _ _⟩
      · exact ⟨_, _, rfl, encs_len _ _ _ _, dbL_len _ _⟩
    unfold likeF
    by_cases hc : op = op' ∧ so = so' ∧ nn = nn' ∧ mm = mm' ∧ nms.length = nms'.length ∧ l.length = l'.length
    · obtain ⟨rfl, rfl, rfl, rfl, h5, h6⟩ := hc
      rw [if_pos ⟨rfl, rfl, rfl, rfl, h5, h6⟩]
      unfold dbN
      by_cases hb : bindsF op nms.length = true
      · rw [if_pos hb, if_pos hb, if_pos (by rw [← h5]; exact hb), likes_db l l' _ _ h6]
        rw [h5]
        simp
      · rw [if_neg hb, if_neg hb, if_neg (by rw [← h5]; exact hb), Bool.and_eq_true, encs_eq op x y 0 nms nms' h5, likes_db l l' _ _ h6]
        simp
    · rw [if_neg hc]
      obtain ⟨k1, r1, e1, g1, g2⟩ := hlen (.mk op nms so nn mm l) x _ _ _ _ _ _ rfl
      obtain ⟨k2, r2, e2, g3, g4⟩ := hlen (.mk op' nms' so' nn' mm' l') y _ _ _ _ _ _ rfl
      rw [e1, e2]
      constructor
      · intro h; cases h
      · intro h
        injection h with h1 h2 h3 h4 h5 h6
        exact absurd ⟨h1, h3, h4, h5, by rw [← g1, ← g3, h2], by rw [← g2, ← g4, h6]⟩ hc
theorem likes_db : ∀ (l l' : List Nd) (x y : List (List UInt8)), l.length = l'.length → (likesF l l' x y = true ↔ dbL l x = dbL l' y)
  | [], [], x, y, _ => by unfold likesF dbL; simp
  | [], b :: r', x, y, h => by simp at h
  | a :: r, [], x, y, h => by simp at h
  | a :: r, b :: r', x, y, h => by
    unfold likesF dbL
    rw [Bool.and_eq_true, like_db a b x y, likes_db r r' x y (by simpa using h), List.cons.injEq]
end
theorem like_refl (a : Nd) (x : List (List UInt8)) : likeF a a x x = true := (like_db a a x x).2 rfl
theorem like_symm (a b : Nd) (x y : List (List UInt8)) : likeF a b x y = likeF b a y x := by
  rw [Bool.eq_iff_iff, like_db, like_db]
  exact eq_comm
/-- the environment that renames apart: new names once each, all taken -/
structure ApE (e : EnvL) (tk : List (List UInt8)) : Prop where
  once : (e.map Prod.snd).Nodup
  inn : ∀ p ∈ e, p.2 ∈ tk
/-- a name's place among the new names is its place among the old ones -/
theorem enc_look : ∀ (e : EnvL) (y : List UInt8), (e.map Prod.snd).Nodup → (e.find? (fun p => p.1 == y) = none → ∀ p ∈ e, p.2 ≠ y) → findF (e.reverse.map Prod.snd) (lookE e y) e.length = findF (e.reverse.map Prod.fst) y e.length
  | [], y, _, _ => rfl
  | p :: r, y, hn, hy => by
    have hg : ∀ (f : List UInt8 × List UInt8 → List UInt8), (((p :: r).reverse.map f)[r.length]?) = some (f p) := fun f => by
      rw [List.reverse_cons, List.map_append, List.getElem?_append_right (by simp)]
      simp
    have hl : ∀ (f : List UInt8 × List UInt8 → List UInt8) (z : List UInt8), findF ((p :: r).reverse.map f) z r.length = findF (r.reverse.map f) z r.length := fun f z => findF_local z r.length (fun j hj => by
      rw [List.reverse_cons, List.map_append, List.getElem?_append_left (by simpa using hj)])
    rw [List.map_cons, List.nodup_cons] at hn
    rw [List.length_cons]
    conv => lhs; unfold findF
    conv => rhs; unfold findF
    rw [hg, hg, hl, hl]
    by_cases hp : p.1 = y
    · have h2 : lookE (p :: r) y = p.2 := by
        unfold lookE
        rw [List.find?_cons_of_pos (by simp [hp])]
      rw [h2, if_pos rfl, if_pos (by rw [hp])]
    · have h2 : lookE (p :: r) y = lookE r y := by
        unfold lookE
        rw [List.find?_cons_of_neg (by simpa using hp)]
      have h3 : p.2 ≠ lookE r y := fun h4 => by
        unfold lookE at h4
        cases hf : r.find? (fun q => q.1 == y) with
        | none =>
          rw [hf] at h4
          exact hy (by rw [List.find?_cons_of_neg (by simpa using hp)]; exact hf) p (by simp) h4
        | some q =>
          rw [hf] at h4
          exact hn.1 (List.mem_map.2 ⟨q, List.mem_of_find?_eq_some hf, h4.symm⟩)
      rw [h2, if_neg (fun h => h3 (Option.some.inj h)), if_neg (fun h => hp (Option.some.inj h))]
      exact enc_look r y hn.2 (fun hf q hq => hy (by rw [List.find?_cons_of_neg (by simpa using hp)]; exact hf) q (by simp [hq]))
theorem encN_look (e : EnvL) (y : List UInt8) (hn : (e.map Prod.snd).Nodup) (hy : e.find? (fun p => p.1 == y) = none → ∀ p ∈ e, p.2 ≠ y) : encN (e.reverse.map Prod.snd) (lookE e y) = encN (e.reverse.map Prod.fst) y := by
  have h := enc_look e y hn hy
  unfold encN
  rw [List.length_map, List.length_reverse, List.length_map, List.length_reverse, h]
  rcases find_look e y with ⟨h1, h2⟩ | ⟨k, -, h1, -⟩
  · rw [h1, h2]
  · rw [h1, if_neg (by omega), if_neg (by omega)]
theorem encs_map (op : Int) (x x' : List (List UInt8)) (f : List UInt8 → List UInt8) : ∀ (l : List (List UInt8)) (i : Nat), (op ≠ 10 ∨ 0 < i) → (∀ y ∈ l, encN x' (f y) = encN x y) → encs op x' i (l.map f) = encs op x i l
  | [], i, _, _ => rfl
  | a :: r, i, hi, h => by
    rw [List.map_cons]
    unfold encs
    rw [if_neg (by rintro ⟨h1, h2⟩; rcases hi with h3 | h3; exact h3 h1; omega), if_neg (by rintro ⟨h1, h2⟩; rcases hi with h3 | h3; exact h3 h1; omega), h a (by simp), encs_map op x x' f r (i + 1) (Or.inr (by omega)) (fun y hy => h y (by simp [hy]))]
/-- what is known of a free name: bound so far, or taken and no new name -/
def FreeOk (e : EnvL) (tk : List (List UInt8)) (y : List UInt8) : Prop := e.find? (fun p => p.1 == y) = none → y ∈ tk ∧ ∀ p ∈ e, p.2 ≠ y
mutual
/-- taken names stay taken -/
theorem apN_grows : ∀ (n : Nd) (e : EnvL) (tk : List (List UInt8)), ∀ y ∈ tk, y ∈ (apN n e tk).2
  | .mk op nms so nn mm l, e, tk, y, hy => by
    unfold apN
    split
    · exact apL_grows l _ _ y (List.mem_append_left _ hy)
    · exact apL_grows l _ _ y hy
theorem apL_grows : ∀ (l : List Nd) (e : EnvL) (tk : List (List UInt8)), ∀ y ∈ tk, y ∈ (apL l e tk).2
  | [], e, tk, y, hy => by unfold apL; exact hy
  | a :: r, e, tk, y, hy => by
    unfold apL
    exact apL_grows r e _ y (apN_grows a e tk y hy)
end
mutual
/-- renaming all binders leaves the formula without bound names as it is -/
theorem db_ap : ∀ (n : Nd) (e : EnvL) (tk : List (List UInt8)), formF nameF n = 0 → tk.length + sizeF n ≤ 8000 → (∀ p ∈ e, nameF p.2 = true) → ApE e tk → (∀ y ∈ fo n, FreeOk e tk y) →
    dbN (apN n e tk).1 (e.reverse.map Prod.snd) = dbN n (e.reverse.map Prod.fst)
  | .mk op nms so nn mm l, e, tk, h, hl, he, hA, hf => by
    obtain ⟨k1, k2, k3, k4, k5, k6⟩ := form_iff.1 h
    simp only [sizeF] at hl
    rw [fo_mk] at hf
    unfold apN
    by_cases hb : bindsF op nms.length = true
    · have h16 : op = 16 ∨ op = 17 := by
        unfold bindsF at hb
        simp only [Bool.and_eq_true, Bool.or_eq_true, decide_eq_true_eq] at hb
        exact hb.1
      obtain ⟨hn1, hn2⟩ := shape_one k2 h16
      obtain ⟨b, rfl⟩ := List.length_eq_one_iff.1 hn1
      have hbn : nameF b = true := List.all_eq_true.1 k3 b (by simp)
      obtain ⟨hs1, hs2⟩ := freshG_not (s := b) (tk := tk) hbn (by omega)
      rw [if_pos hb] at hf
      rw [if_pos hb]
      simp only [List.headD_cons]
      have hsn : freshG b tk ∉ tk := fun hm => by rw [List.contains_iff_mem.2 hm] at hs1; cases hs1
      have hb1 : bindsF op [freshG b tk].length = true := hb
      have ih := dbs_ap l ((b, freshG b tk) :: e) (tk ++ [freshG b tk]) k6 (by rw [List.length_append, List.length_singleton]; omega) (fun p hp => by
        rcases List.mem_cons.1 hp with rfl | hp
        · exact hs2
        · exact he p hp) ⟨by
          rw [List.map_cons, List.nodup_cons]
          exact ⟨fun hm => by
            obtain ⟨p, hp, hpe⟩ := List.mem_map.1 hm
            exact hsn (by have h9 : p.2 = freshG b tk := hpe; rw [← h9]; exact hA.inn p hp), hA.once⟩, fun p hp => by
          rcases List.mem_cons.1 hp with rfl | hp
          · simp
          · exact List.mem_append_left _ (hA.inn p hp)⟩ (fun y hy hfd => by
          rw [List.find?_cons] at hfd
          split at hfd
          · cases hfd
          · rename_i hby
            have hyb : y ≠ b := fun e2 => by rw [e2, beq_self_eq_true] at hby; cases hby
            have hyf : y ∈ usesF op [b] ++ (fos l).filter (fun y => y != [b].headD []) := List.mem_append_right _ (List.mem_filter.2 ⟨hy, by simpa using hyb⟩)
            obtain ⟨g1, g2⟩ := hf y hyf hfd
            refine ⟨List.mem_append_left _ g1, fun p hp => ?_⟩
            rcases List.mem_cons.1 hp with rfl | hp
            · exact fun e2 => hsn (by have e3 : freshG b tk = y := e2; rw [e3]; exact g1)
            · exact g2 p hp)
      unfold dbN
      rw [if_pos hb1, if_pos hb]
      simp only [List.headD_cons]
      have e1 : e.reverse.map Prod.snd ++ [freshG b tk] = ((b, freshG b tk) :: e).reverse.map Prod.snd := by simp
      have e2 : e.reverse.map Prod.fst ++ [b] = ((b, freshG b tk) :: e).reverse.map Prod.fst := by simp
      rw [e1, e2, ih]
      rfl
    · have ih := dbs_ap l e tk k6 (by omega) he hA (fun y hy => hf y (by rw [if_neg hb]; exact List.mem_append_right _ hy))
      rw [if_neg hb]
      have hb2 : ¬ bindsF op (rnUses op (lookE e) nms).length = true := by rw [rnUses_len]; exact hb
      unfold dbN
      rw [if_neg hb2, if_neg hb, ih]
      have henc : ∀ y ∈ usesF op nms, encN (e.reverse.map Prod.snd) (lookE e y) = encN (e.reverse.map Prod.fst) y := fun y hy => encN_look e y hA.once (fun hfd => (hf y (List.mem_append_left _ hy) hfd).2)
      have hnm : encs op (e.reverse.map Prod.snd) 0 (rnUses op (lookE e) nms) = encs op (e.reverse.map Prod.fst) 0 nms := by
        unfold rnUses
        unfold usesF at henc
        by_cases h10 : op = 10
        · rw [if_pos h10]
          rw [if_pos h10] at henc
          cases nms with
          | nil => rfl
          | cons a r =>
            show encs op _ 0 (a :: (List.drop 1 (a :: r)).map (lookE e)) = _
            unfold encs
            rw [if_pos ⟨h10, rfl⟩, if_pos ⟨h10, rfl⟩]
            congr 1
            exact encs_map op _ _ (lookE e) r 1 (Or.inr (by omega)) (fun y hy => henc y hy)
        · rw [if_neg h10]
          rw [if_neg h10] at henc
          by_cases h2 : 2 ≤ op ∧ op < 10
          · rw [if_pos h2]
            rw [if_pos h2] at henc
            exact encs_map op _ _ (lookE e) nms 0 (Or.inl h10) henc
          · rw [if_neg h2]
            have hn0 : nms = [] := by
              by_cases h16 : op = 16 ∨ op = 17
              · have h0 : ¬ 0 < nms.length := fun h3 => by
                  unfold bindsF at hb
                  rcases h16 with rfl | rfl <;> simp [h3] at hb
                exact List.eq_nil_of_length_eq_zero (by omega)
              · exact List.eq_nil_of_length_eq_zero (shape_none k2 h10 h2 h16 k1)
            rw [hn0]
            rfl
      rw [hnm]
theorem dbs_ap : ∀ (l : List Nd) (e : EnvL) (tk : List (List UInt8)), formsF nameF l = 0 → tk.length + sizesF l ≤ 8000 → (∀ p ∈ e, nameF p.2 = true) → ApE e tk → (∀ y ∈ fos l, FreeOk e tk y) →
    dbL (apL l e tk).1 (e.reverse.map Prod.snd) = dbL l (e.reverse.map Prod.fst)
  | [], e, tk, h, hl, he, hA, hf => by unfold apL dbL; rfl
  | a :: r, e, tk, h, hl, he, hA, hf => by
    obtain ⟨h1, h2⟩ := forms_parts h
    simp only [sizesF] at hl
    rw [fos_cons] at hf
    obtain ⟨-, -, -, -, i5⟩ := apN_shape a e tk h1 he (by omega)
    have hsub : ∀ y ∈ tk, y ∈ (apN a e tk).2 := apN_grows a e tk
    unfold apL
    unfold dbL
    rw [db_ap a e tk h1 (by omega) he hA (fun y hy => hf y (List.mem_append_left _ hy)), dbs_ap r e (apN a e tk).2 h2 (by omega) he ⟨hA.once, fun p hp => hsub _ (hA.inn p hp)⟩ (fun y hy hfd => by
      obtain ⟨g1, g2⟩ := hf y (List.mem_append_right _ hy) hfd
      exact ⟨hsub y g1, g2⟩)]
end
end Go.Proofs.YtbnebkkpmcjmbaaGreatDoor


namespace Go.Proofs.YtbnebkkpmcjmbaaGreatDoor
open Go.RowKit Go.PL Go.Maps
theorem sV_inj {x y : List UInt8} (h : sV x = sV y) : x = y := by
  unfold sV at h
  simp only [Value.string.injEq, ByteArray.mk.injEq] at h
  simpa using congrArg Array.toList h
/-- no key stands twice -/
def Uniq (L : List (Value × Value)) : Prop := ∀ (i j : Nat) (p q : Value × Value), L[i]? = some p → L[j]? = some q → p.1 = q.1 → i = j
structure EnvM (w : World) (b : Nat) (e : List (List UInt8 × List UInt8)) : Prop where
  st : ∃ L, MapL Tryz.prog 9 w b L ∧ Uniq L ∧ (∀ y, e.find? (fun p => p.1 == y) = none → ∀ p ∈ L, p.1 ≠ sV y) ∧ (∀ y v, (sV y, v) ∈ L → ∃ p, e.find? (fun p => p.1 == y) = some p ∧ v = sV p.2) ∧ ∀ y p, e.find? (fun p => p.1 == y) = some p → (sV y, sV p.2) ∈ L
theorem EnvM.upto {S : List Nat} {w w' : World} {b : Nat} {e : List (List UInt8 × List UInt8)} (h : EnvM w b e) (hu : Upto S w w') (hn : b ∉ S) : EnvM w' b e := by
  obtain ⟨L, h1, h2⟩ := h.st
  exact ⟨L, h1.upto hu hn, h2⟩
theorem EnvM.nil (w : World) : EnvM (w.alloc (.map #[] 0)) w.heap.size [] := ⟨⟨[], MapL.made Tryz.prog 9 w, fun i j p q h => by simp at h, fun y _ p hp => by simp at hp, fun y v h => by simp at h, fun y p h => by simp at h⟩⟩
/-- what the entries are once one more is stored -/
theorem env_more {L L' : List (Value × Value)} {e : List (List UInt8 × List UInt8)} {y tt : List UInt8} (h2 : Uniq L) (h3 : ∀ y, e.find? (fun p => p.1 == y) = none → ∀ p ∈ L, p.1 ≠ sV y) (h4 : ∀ y v, (sV y, v) ∈ L → ∃ p, e.find? (fun p => p.1 == y) = some p ∧ v = sV p.2) (h5 : ∀ y p, e.find? (fun p => p.1 == y) = some p → (sV y, sV p.2) ∈ L)
    (h : ((∀ p ∈ L, p.1 ≠ sV y) ∧ L' = L ++ [(sV y, sV tt)]) ∨ ∃ j u, L[j]? = some (sV y, u) ∧ L' = L.set j (sV y, sV tt)) :
    Uniq L' ∧ (∀ z, ((y, tt) :: e).find? (fun p => p.1 == z) = none → ∀ p ∈ L', p.1 ≠ sV z) ∧ (∀ z v, (sV z, v) ∈ L' → ∃ p, ((y, tt) :: e).find? (fun p => p.1 == z) = some p ∧ v = sV p.2) ∧ ∀ z p, ((y, tt) :: e).find? (fun p => p.1 == z) = some p → (sV z, sV p.2) ∈ L' := by
  have hmem : ∀ p ∈ L', p = (sV y, sV tt) ∨ (p ∈ L ∧ p.1 ≠ sV y) := by
    rcases h with ⟨hn, rfl⟩ | ⟨j, u, hj, rfl⟩
    · intro p hp
      rcases List.mem_append.1 hp with hp | hp
      · exact Or.inr ⟨hp, hn p hp⟩
      · exact Or.inl (by simpa using hp)
    · intro p hp
      obtain ⟨i, hi⟩ := List.mem_iff_getElem?.1 hp
      by_cases hij : j = i
      · subst hij
        rw [List.getElem?_set_self (List.getElem?_eq_some_iff.1 hj).1] at hi
        exact Or.inl (Option.some.inj hi).symm
      · rw [List.getElem?_set_ne hij] at hi
        exact Or.inr ⟨List.mem_of_getElem? hi, fun he => hij (h2 j i _ _ hj hi he.symm)⟩
  refine ⟨?_, fun z hz p hp he => ?_, fun z v hv => ?_, fun z p hz => ?_⟩
  · rcases h with ⟨hn, rfl⟩ | ⟨j, u, hj, rfl⟩
    · intro a c p q ha hc hpq
      rcases Nat.lt_or_ge a L.length with h5 | h5 <;> rcases Nat.lt_or_ge c L.length with h6 | h6
      · rw [List.getElem?_append_left h5] at ha
        rw [List.getElem?_append_left h6] at hc
        exact h2 a c p q ha hc hpq
      · rw [List.getElem?_append_left h5] at ha
        have hq : q = (sV y, sV tt) := (hmem q (List.mem_of_getElem? hc)).resolve_right (fun h7 => by
          rw [List.getElem?_append_right h6] at hc
          have := List.mem_of_getElem? hc
          simp at this
          rw [this] at h7
          exact h7.2 rfl)
        rw [hq] at hpq
        exact absurd hpq (hn p (List.mem_of_getElem? ha))
      · rw [List.getElem?_append_left h6] at hc
        have hp : p = (sV y, sV tt) := (hmem p (List.mem_of_getElem? ha)).resolve_right (fun h7 => by
          rw [List.getElem?_append_right h5] at ha
          have := List.mem_of_getElem? ha
          simp at this
          rw [this] at h7
          exact h7.2 rfl)
        rw [hp] at hpq
        exact absurd hpq.symm (hn q (List.mem_of_getElem? hc))
      · have h7 := (List.getElem?_eq_some_iff.1 ha).1
        have h8 := (List.getElem?_eq_some_iff.1 hc).1
        simp at h7 h8
        omega
    · have key : ∀ (a : Nat) (p : Value × Value), (L.set j (sV y, sV tt))[a]? = some p → ∃ p' : Value × Value, L[a]? = some p' ∧ p'.1 = p.1 := fun a p ha => by
        by_cases haj : j = a
        · subst haj
          rw [List.getElem?_set_self (List.getElem?_eq_some_iff.1 hj).1] at ha
          exact ⟨_, hj, by rw [← Option.some.inj ha]⟩
        · rw [List.getElem?_set_ne haj] at ha
          exact ⟨p, ha, rfl⟩
      intro a c p q ha hc hpq
      obtain ⟨p', h5, h6⟩ := key a p ha
      obtain ⟨q', h7, h8⟩ := key c q hc
      exact h2 a c p' q' h5 h7 (by rw [h6, h8, hpq])
  · rw [List.find?_cons] at hz
    split at hz
    · cases hz
    · rename_i hyz
      rcases hmem p hp with rfl | ⟨h5, h6⟩
      · have := sV_inj he
        simp [this] at hyz
      · exact h3 z hz p h5 he
  · rw [List.find?_cons]
    rcases hmem _ hv with h5 | ⟨h5, h6⟩
    · have h7 := Prod.mk.inj h5
      have h8 := sV_inj h7.1
      exact ⟨(y, tt), by simp [h8], h7.2⟩
    · obtain ⟨p, h7, h8⟩ := h4 z v h5
      have hne : (y == z) = false := by
        rw [beq_eq_false_iff_ne]
        intro h9
        rw [h9] at h6
        exact h6 rfl
      exact ⟨p, by simp [hne, h7], h8⟩
  · rw [List.find?_cons] at hz
    split at hz
    · rename_i hyz
      have hzy : y = z := by simpa using hyz
      cases hz
      subst hzy
      rcases h with ⟨-, rfl⟩ | ⟨j, u, hj, rfl⟩
      · simp
      · exact List.mem_iff_getElem?.2 ⟨j, List.getElem?_set_self (List.getElem?_eq_some_iff.1 hj).1⟩
    · rename_i hyz
      have hin := h5 z p hz
      rcases h with ⟨-, rfl⟩ | ⟨j, u, hj, rfl⟩
      · exact List.mem_append_left _ hin
      · obtain ⟨i, hi⟩ := List.mem_iff_getElem?.1 hin
        have hij : j ≠ i := fun he => by
          subst he
          rw [hj] at hi
          have := sV_inj (Prod.mk.inj (Option.some.inj hi)).1
          rw [this] at hyz
          simp at hyz
        exact List.mem_iff_getElem?.2 ⟨i, by rw [List.getElem?_set_ne hij]; exact hi⟩
theorem zero9 (w : World) : (zeroValue 9).run Tryz.prog w = .ok (.string ⟨#[]⟩) w := by kernel_rfl
/-- what a look-up says -/
theorem EnvM.look {w : World} {b : Nat} {e : List (List UInt8 × List UInt8)} (h : EnvM w b e) (x : List UInt8) (hx : x.length ≤ maxLen) :
    ((Instr.lookup 88 (.map (some b)) (.string ⟨x.toArray⟩) true).run Tryz.prog w = .ok (.tuple #[.string ⟨#[]⟩, .bool false]) w ∧ lookE e x = x) ∨
    (Instr.lookup 88 (.map (some b)) (.string ⟨x.toArray⟩) true).run Tryz.prog w = .ok (.tuple #[.string ⟨(lookE e x).toArray⟩, .bool true]) w := by
  obtain ⟨L, h1, h2, h3, h4, h5⟩ := h.st
  rcases h1.look lawS Tryz.underlying88 (zero9 w) (x := .string ⟨x.toArray⟩) (keyS Tryz.underlying9 (by simpa [ByteArray.size] using hx)) true with ⟨k1, k2⟩ | ⟨v, k1, k2⟩
  · refine Or.inl ⟨k1, ?_⟩
    unfold lookE
    cases hf : e.find? (fun p => p.1 == x) with
    | none => rfl
    | some p => exact absurd rfl (k2 _ (h5 x p hf))
  · refine Or.inr ?_
    obtain ⟨p, k3, k4⟩ := h4 x v k1
    rw [k2, k4]
    unfold lookE
    rw [k3]
    rfl
/-- one more entry -/
theorem EnvM.put {w : World} {b : Nat} {e : List (List UInt8 × List UInt8)} (h : EnvM w b e) (x y : List UInt8) (hx : x.length ≤ maxLen) :
    ∃ w', (Instr.mapUpdate 88 (.map (some b)) (.string ⟨x.toArray⟩) (.string ⟨y.toArray⟩)).run Tryz.prog w = .ok () w' ∧ EnvM w' b ((x, y) :: e) ∧ w.grownBy w' (some b) := by
  obtain ⟨L, h1, h2, h3, h4, h5⟩ := h.st
  obtain ⟨w', L', k1, k2, k3, k4⟩ := h1.put lawS Tryz.underlying88 (x := sV x) (v := sV y) (keyS Tryz.underlying9 (by simpa [ByteArray.size] using hx))
  obtain ⟨g1, g2, g3, g4⟩ := env_more h2 h3 h4 h5 k4
  exact ⟨w', k1, ⟨⟨L', k2, g1, g2, g3, g4⟩⟩, k3⟩
section
variable (w : World) {ops : Array Oper} {rest : List Oper} {o : Oper} {a : Act} {Q : Exit → Act → World → Prop}
theorem wpList_env (hg : o.guard = none) (m x v : Operand) (hop : o.op = Op.mapUpdate 88 m x v) (b : Nat) (e : List (List UInt8 × List UInt8)) (hm : a.eval m = .map (some b)) (h : EnvM w b e) (X Y : List UInt8) (hx : a.eval x = .string ⟨X.toArray⟩) (hv : a.eval v = .string ⟨Y.toArray⟩) (hl : X.length ≤ maxLen)
    (hK : ∀ w', EnvM w' b ((X, Y) :: e) → w.grownBy w' (some b) → wpList Tryz.prog ops Q rest (a.put o.dst undef) w') : wpList Tryz.prog ops Q (o :: rest) a w := by
  refine wpList_plain hg fun K' hK' => ?_
  obtain ⟨w', hrun, r1, r2⟩ := h.put X Y hl
  unfold Oper.wp
  simp [execOp, hop, hm, hx, hv, hrun, Result.andThen]
  exact hK' _ _ (hK w' r1 r2)
end
/-- a clone of the map -/
theorem EnvM.obj {w : World} {b : Nat} {e : List (List UInt8 × List UInt8)} (h : EnvM w b e) : ∃ es clock, w.heap[b]? = some (.map es clock) ∧ ∀ (w' : World) (b' : Nat), w'.heap[b']? = some (.map es clock) → EnvM w' b' e := by
  obtain ⟨L, ⟨es, clock, h1, h2, h3⟩, h4⟩ := h.st
  exact ⟨es, clock, h1, fun w' b' hb => ⟨⟨L, ⟨es, clock, hb, h2, h3⟩, h4⟩⟩⟩
theorem EnvM.ne {w : World} {b : Nat} {e : List (List UInt8 × List UInt8)} (h : EnvM w b e) {g : Nat} {cs : Array Value} {t : TypeId} {z : Nat × Nat} (hg : w.heap[g]? = some (.cells cs t z)) : b ≠ g := fun e2 => by
  obtain ⟨es, clock, h1, -⟩ := h.obj
  rw [e2, hg] at h1
  cases h1
end Go.Proofs.YtbnebkkpmcjmbaaGreatDoor

