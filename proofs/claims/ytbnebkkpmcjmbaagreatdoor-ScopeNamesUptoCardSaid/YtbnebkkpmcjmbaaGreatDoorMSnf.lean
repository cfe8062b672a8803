/- Texts merged, in build order: Z7, Z8, Z9, Z10, Z11, Z12, Z13, Kf, Kg, Zc, Kl, Km, Gl, Gm. -/
import Derived.Test.YtbnebkkpmcjmbaaGreatDoorMSne
import Derived.Test.YtbnebkkpmcjmbaaGreatDoorRows
import Derived.WalkKit
import Derived.WalkSpells
import Derived.WalkLawsBesides
import Derived.Maps.OwnSet
import Derived.Lib.Hide
import Derived.Laws.BytesArg
import Derived.Deep.QuietTactic
import Derived.BigQuiet
import Derived.Test.YtbnebkkpmcjmbaaGreatDoorProg
import Derived.Shelf.Small.Strs
import Derived.Shelf.LaysM
import Derived.Shelf.Strings.SplitShaped
import Derived.Deep.DeepCutAuto
import Derived.Deep.CutBlock
import Derived.Lib.Strings
import Derived.Lib.Walk
import Derived.Lib.ConvBytes
import Derived.Lib.ParseIntBMem
import Derived.Lib.AtoiErrMem
import Derived.Lib.BufferWrite
import Derived.Lib.UnsafeStr
import Derived.Lib.IfaceEq
import Derived.Laws.MakeOwn
import Derived.Laws.Strings3
import Derived.Laws.Closers25
import Derived.Laws.Closers25b
import Derived.RegionTactic
import Derived.Deep.RegionWith
import Derived.BigCall
import Derived.BigGuard
import Derived.Lib.AppendIntMem
import Derived.Carry
import Derived.OrdersHeld
import Derived.Deep.RegionHeld3
import Derived.Shelf.Strconv.Itoa3
import Derived.Shelf.Slices.Turned
import Derived.Shelf.Slices.Clone
import Derived.Deep.RegionLaw
import Derived.RangeFuncNested
import Derived.RangeFuncBound
import Derived.RangeFuncCalls
import Derived.RangeFuncLeaves
import Derived.RangeFuncBox
import Derived.Shelf.Abstract
import Derived.OwnWalkIn
import Derived.TacticsInMore
import Derived.LoopNIn
import Derived.LoopIn
import Derived.Laws.EntriesVeiled
import Derived.Laws.AppendOwn
import Derived.Test.YtbnebkkpmcjmbaaGreatDoorCards
import Derived.Test.YtbnebkkpmcjmbaaGreatDoorTie
import Derived.ProofKit
import Derived.OpenShut
import Derived.Deep.DeepHandedRow
import Derived.Deep.Slices
import Derived.Lay
import Derived.ChangeCalls
import Derived.LaidSub
import Derived.MakeChecks
import Derived.LaidLaws
import Derived.Lib.LaidTab
import Derived.Shelf.SlMaps.Clone
namespace Go.Proofs.YtbnebkkpmcjmbaaGreatDoor
open Go.RowKit Go.PL Go.Maps
set_option maxRecDepth 100000 in
set_option maxHeartbeats 6400000 in
theorem has_7a (so nn mm : Int) (nms : List (List UInt8)) (l : List Nd) (hin : inN 10000000 (.mk 7 nms so nn mm l)) (v : Value) (w : World) (P : Nat → Prop) (h : NdV w P (.mk 7 nms so nn mm l) v) (he : Env w) (hf : FEnv w) (hk0 : (0 : Int) ≤ 7) (hk1 : (7 : Int) ≤ 17) (hsb : shapeBad 7 nms.length l.length = false) (hall : nms.all identF = true) (hz : so ≠ 0) : Calls Tryz.prog 91 #[v] w fun e w' => e = .returned (.bool false) ∧ Upto [] w w' := by
  obtain ⟨a1, c1, a2, c2, rfl, hs, hg⟩ := h.open
  unfold inN at hin
  obtain ⟨a1', c1', ev, hnm⟩ := hs.get
  obtain ⟨rfl, rfl⟩ : a1 = a1' ∧ c1 = c1' := by simpa using ev
  have hu1 : Upto [] w (w.alloc (.cells #[.int .i64 7, .slice a1 nms.length c1, .int .i64 so, .int .i64 nn, .int .i64 mm, .slice a2 l.length c2] 30)) := (Upto.refl [] w).alloc _
  have hll := hin.2.2.1
  have hnl := hin.1
  have HCF := Lib.hid (fun u (hu : Upto [] w u) => containsf_calls nms a1 c1 u (he.ext hu) hnl hin.2.1 (fun i x hi => by
    obtain ⟨g, o, e1, e2⟩ := hnm i _ (by rw [List.getElem?_map, hi]; rfl)
    exact ⟨g, o, e1, (hu.cell (p := ⟨g, o + i, none⟩) (World.block_lt_of_cell? w _ e2) (by simp)).trans e2⟩))
  have hL0 : (0 : Int) ≤ l.length := by omega
  have hL1 : (l.length : Int) ≤ 10000000 := by omega
  have hN0 : (0 : Int) ≤ nms.length := by omega
  have hN1 : (nms.length : Int) ≤ 10000000 := by omega
  obtain ⟨a, b, c, habc, ha17, hb17, hc17⟩ : ∃ a b c : Nat, hasF 7 = (a, b, c) ∧ a ≤ 17 ∧ b ≤ 17 ∧ c ≤ 17 := by
    unfold hasF
    repeat' split
    all_goals exact ⟨_, _, _, rfl, by decide, by decide, by decide⟩
  obtain ⟨t0, t1, t2, t3⟩ := (hf.ext hu1).at_ 7 (by omega)
  try simp only [Nat.reduceMul, Nat.reduceAdd] at t0 t1 t2 t3
  rw [show hasF (7 : Nat) = (a, b, c) from habc] at t0 t1 t2
  simp only at t0 t1 t2
  have ha0 : (0 : Int) ≤ a := by omega
  have hb0 : (0 : Int) ≤ b := by omega
  have hc0 : (0 : Int) ≤ c := by omega
  have ha1 : (a : Int) ≤ 17 := by omega
  have hb1 : (b : Int) ≤ 17 := by omega
  have hc1 : (c : Int) ≤ 17 := by omega
  obtain ⟨hs0, hs1, hs2⟩ : ¬ nms.length < a ∧ ¬ b < nms.length ∧ l.length = c := by
    unfold shapeBad at hsb
    rw [habc] at hsb
    simp at hsb
    omega
  have q0 : ¬ (nms.length : Int) < a := by omega
  have q1 : ¬ (b : Int) < nms.length := by omega
  have q2 : ((l.length : Int) == (c : Int)) = true := by rw [hs2, beq_iff_eq]
  have q2b : ((l.length : Int) != (c : Int)) = false := by rw [bne, q2]; rfl
  have HB1 := Lib.hid (new_at w (.cells #[.int .i64 7, .slice a1 nms.length c1, .int .i64 so, .int .i64 nn, .int .i64 mm, .slice a2 l.length c2] 30))
  have HU1 := Lib.hid hu1
  have hb := new_at w (.cells #[.int .i64 7, .slice a1 nms.length c1, .int .i64 so, .int .i64 nn, .int .i64 mm, .slice a2 l.length c2] 30)
  obtain ⟨y0, y1, y2, y3, y4, y5⟩ := cells6 hb

  rw [hall] at HCF
  have HBF := Lib.hid (new_at1 w (.cells #[.int .i64 7, .slice a1 nms.length c1, .int .i64 so, .int .i64 nn, .int .i64 mm, .slice a2 l.length c2] 30) (.cells #[.int .i64 a, .int .i64 b, .int .i64 c, .bool false] 136))
  have HU2 : Hid (Upto [] w ((w.alloc (.cells #[.int .i64 7, .slice a1 nms.length c1, .int .i64 so, .int .i64 nn, .int .i64 mm, .slice a2 l.length c2] 30)).alloc (.cells #[.int .i64 a, .int .i64 b, .int .i64 c, .bool false] 136))) := Lib.hid (hu1.alloc _)
  have HBO := Lib.hid (alloc_old hb (.cells #[.int .i64 a, .int .i64 b, .int .i64 c, .bool false] 136))
  have eso0 : (so == (0 : Int)) = false := by rw [beq_eq_false_iff_ne]; exact hz
  have fso0 : (so != (0 : Int)) = true := by rw [bne, eso0]; rfl
  clear habc hsb hall h hs hg hu1 hnm ev hin hb hs2 he hf
  go_enter Tryz.func91, Tryz.ntmps91
  go_wp2_with fail
  refine (HCF.out _ HU2.out).mono ?_
  rintro e w5 ⟨rfl, hu5⟩
  have HU5 := Lib.hid (HU2.out.trans_ext hu5)
  have hb5 := hu5.at HBO.out (by simp)
  have hf5 := hu5.at HBF.out (by simp)
  have z0 := cell_of hb5 0
  have z1 := cell_of hb5 1
  have z2 := cell_of hb5 2
  have z3 := cell_of hb5 3
  have z4 := cell_of hb5 4
  have z5 := cell_of hb5 5
  have x3 := cell_of hf5 3
  simp only [List.getElem?_toArray, List.getElem?_cons_zero, List.getElem?_cons_succ] at z0 z1 z2 z3 z4 z5 x3
  clear hu5 hb5 hf5 y0 y1 y2 y3 y4 y5 t0 t1 t2 t3
  go_wp2_with fail
  go_ret
  exact ⟨rfl, HU5.out⟩

set_option maxRecDepth 100000 in
set_option maxHeartbeats 6400000 in
theorem has_7b (nn mm : Int) (nms : List (List UInt8)) (l : List Nd) (hin : inN 10000000 (.mk 7 nms 0 nn mm l)) (v : Value) (w : World) (P : Nat → Prop) (h : NdV w P (.mk 7 nms 0 nn mm l) v) (he : Env w) (hf : FEnv w) (hk0 : (0 : Int) ≤ 7) (hk1 : (7 : Int) ≤ 17) (hsb : shapeBad 7 nms.length l.length = false) (hall : nms.all identF = true) (hz : mm ≠ 0) : Calls Tryz.prog 91 #[v] w fun e w' => e = .returned (.bool false) ∧ Upto [] w w' := by
  obtain ⟨a1, c1, a2, c2, rfl, hs, hg⟩ := h.open
  unfold inN at hin
  obtain ⟨a1', c1', ev, hnm⟩ := hs.get
  obtain ⟨rfl, rfl⟩ : a1 = a1' ∧ c1 = c1' := by simpa using ev
  have hu1 : Upto [] w (w.alloc (.cells #[.int .i64 7, .slice a1 nms.length c1, .int .i64 0, .int .i64 nn, .int .i64 mm, .slice a2 l.length c2] 30)) := (Upto.refl [] w).alloc _
  have hll := hin.2.2.1
  have hnl := hin.1
  have HCF := Lib.hid (fun u (hu : Upto [] w u) => containsf_calls nms a1 c1 u (he.ext hu) hnl hin.2.1 (fun i x hi => by
    obtain ⟨g, o, e1, e2⟩ := hnm i _ (by rw [List.getElem?_map, hi]; rfl)
    exact ⟨g, o, e1, (hu.cell (p := ⟨g, o + i, none⟩) (World.block_lt_of_cell? w _ e2) (by simp)).trans e2⟩))
  have hL0 : (0 : Int) ≤ l.length := by omega
  have hL1 : (l.length : Int) ≤ 10000000 := by omega
  have hN0 : (0 : Int) ≤ nms.length := by omega
  have hN1 : (nms.length : Int) ≤ 10000000 := by omega
  obtain ⟨a, b, c, habc, ha17, hb17, hc17⟩ : ∃ a b c : Nat, hasF 7 = (a, b, c) ∧ a ≤ 17 ∧ b ≤ 17 ∧ c ≤ 17 := by
    unfold hasF
    repeat' split
    all_goals exact ⟨_, _, _, rfl, by decide, by decide, by decide⟩
  obtain ⟨t0, t1, t2, t3⟩ := (hf.ext hu1).at_ 7 (by omega)
  try simp only [Nat.reduceMul, Nat.reduceAdd] at t0 t1 t2 t3
  rw [show hasF (7 : Nat) = (a, b, c) from habc] at t0 t1 t2
  simp only at t0 t1 t2
  have ha0 : (0 : Int) ≤ a := by omega
  have hb0 : (0 : Int) ≤ b := by omega
  have hc0 : (0 : Int) ≤ c := by omega
  have ha1 : (a : Int) ≤ 17 := by omega
  have hb1 : (b : Int) ≤ 17 := by omega
  have hc1 : (c : Int) ≤ 17 := by omega
  obtain ⟨hs0, hs1, hs2⟩ : ¬ nms.length < a ∧ ¬ b < nms.length ∧ l.length = c := by
    unfold shapeBad at hsb
    rw [habc] at hsb
    simp at hsb
    omega
  have q0 : ¬ (nms.length : Int) < a := by omega
  have q1 : ¬ (b : Int) < nms.length := by omega
  have q2 : ((l.length : Int) == (c : Int)) = true := by rw [hs2, beq_iff_eq]
  have q2b : ((l.length : Int) != (c : Int)) = false := by rw [bne, q2]; rfl
  have HB1 := Lib.hid (new_at w (.cells #[.int .i64 7, .slice a1 nms.length c1, .int .i64 0, .int .i64 nn, .int .i64 mm, .slice a2 l.length c2] 30))
  have HU1 := Lib.hid hu1
  have hb := new_at w (.cells #[.int .i64 7, .slice a1 nms.length c1, .int .i64 0, .int .i64 nn, .int .i64 mm, .slice a2 l.length c2] 30)
  obtain ⟨y0, y1, y2, y3, y4, y5⟩ := cells6 hb

  rw [hall] at HCF
  have HBF := Lib.hid (new_at1 w (.cells #[.int .i64 7, .slice a1 nms.length c1, .int .i64 0, .int .i64 nn, .int .i64 mm, .slice a2 l.length c2] 30) (.cells #[.int .i64 a, .int .i64 b, .int .i64 c, .bool false] 136))
  have HU2 : Hid (Upto [] w ((w.alloc (.cells #[.int .i64 7, .slice a1 nms.length c1, .int .i64 0, .int .i64 nn, .int .i64 mm, .slice a2 l.length c2] 30)).alloc (.cells #[.int .i64 a, .int .i64 b, .int .i64 c, .bool false] 136))) := Lib.hid (hu1.alloc _)
  have HBO := Lib.hid (alloc_old hb (.cells #[.int .i64 a, .int .i64 b, .int .i64 c, .bool false] 136))
  have emm0 : (mm == (0 : Int)) = false := by rw [beq_eq_false_iff_ne]; exact hz
  have fmm0 : (mm != (0 : Int)) = true := by rw [bne, emm0]; rfl
  clear habc hsb hall h hs hg hu1 hnm ev hin hb hs2 he hf
  go_enter Tryz.func91, Tryz.ntmps91
  go_wp2_with fail
  refine (HCF.out _ HU2.out).mono ?_
  rintro e w5 ⟨rfl, hu5⟩
  have HU5 := Lib.hid (HU2.out.trans_ext hu5)
  have hb5 := hu5.at HBO.out (by simp)
  have hf5 := hu5.at HBF.out (by simp)
  have z0 := cell_of hb5 0
  have z1 := cell_of hb5 1
  have z2 := cell_of hb5 2
  have z3 := cell_of hb5 3
  have z4 := cell_of hb5 4
  have z5 := cell_of hb5 5
  have x3 := cell_of hf5 3
  simp only [List.getElem?_toArray, List.getElem?_cons_zero, List.getElem?_cons_succ] at z0 z1 z2 z3 z4 z5 x3
  clear hu5 hb5 hf5 y0 y1 y2 y3 y4 y5 t0 t1 t2 t3
  go_wp2_with fail
  go_ret
  exact ⟨rfl, HU5.out⟩

set_option maxRecDepth 100000 in
set_option maxHeartbeats 6400000 in
theorem has_7g (nn : Int) (nms : List (List UInt8)) (l : List Nd) (hin : inN 10000000 (.mk 7 nms 0 nn 0 l)) (v : Value) (w : World) (P : Nat → Prop) (h : NdV w P (.mk 7 nms 0 nn 0 l) v) (he : Env w) (hf : FEnv w) (hk0 : (0 : Int) ≤ 7) (hk1 : (7 : Int) ≤ 17) (hsb : shapeBad 7 nms.length l.length = false) (hall : nms.all identF = true) : Calls Tryz.prog 91 #[v] w fun e w' => e = .returned (.bool true) ∧ Upto [] w w' := by
  obtain ⟨a1, c1, a2, c2, rfl, hs, hg⟩ := h.open
  unfold inN at hin
  obtain ⟨a1', c1', ev, hnm⟩ := hs.get
  obtain ⟨rfl, rfl⟩ : a1 = a1' ∧ c1 = c1' := by simpa using ev
  have hu1 : Upto [] w (w.alloc (.cells #[.int .i64 7, .slice a1 nms.length c1, .int .i64 0, .int .i64 nn, .int .i64 0, .slice a2 l.length c2] 30)) := (Upto.refl [] w).alloc _
  have hll := hin.2.2.1
  have hnl := hin.1
  have HCF := Lib.hid (fun u (hu : Upto [] w u) => containsf_calls nms a1 c1 u (he.ext hu) hnl hin.2.1 (fun i x hi => by
    obtain ⟨g, o, e1, e2⟩ := hnm i _ (by rw [List.getElem?_map, hi]; rfl)
    exact ⟨g, o, e1, (hu.cell (p := ⟨g, o + i, none⟩) (World.block_lt_of_cell? w _ e2) (by simp)).trans e2⟩))
  have hL0 : (0 : Int) ≤ l.length := by omega
  have hL1 : (l.length : Int) ≤ 10000000 := by omega
  have hN0 : (0 : Int) ≤ nms.length := by omega
  have hN1 : (nms.length : Int) ≤ 10000000 := by omega
  obtain ⟨a, b, c, habc, ha17, hb17, hc17⟩ : ∃ a b c : Nat, hasF 7 = (a, b, c) ∧ a ≤ 17 ∧ b ≤ 17 ∧ c ≤ 17 := by
    unfold hasF
    repeat' split
    all_goals exact ⟨_, _, _, rfl, by decide, by decide, by decide⟩
  obtain ⟨t0, t1, t2, t3⟩ := (hf.ext hu1).at_ 7 (by omega)
  try simp only [Nat.reduceMul, Nat.reduceAdd] at t0 t1 t2 t3
  rw [show hasF (7 : Nat) = (a, b, c) from habc] at t0 t1 t2
  simp only at t0 t1 t2
  have ha0 : (0 : Int) ≤ a := by omega
  have hb0 : (0 : Int) ≤ b := by omega
  have hc0 : (0 : Int) ≤ c := by omega
  have ha1 : (a : Int) ≤ 17 := by omega
  have hb1 : (b : Int) ≤ 17 := by omega
  have hc1 : (c : Int) ≤ 17 := by omega
  obtain ⟨hs0, hs1, hs2⟩ : ¬ nms.length < a ∧ ¬ b < nms.length ∧ l.length = c := by
    unfold shapeBad at hsb
    rw [habc] at hsb
    simp at hsb
    omega
  have q0 : ¬ (nms.length : Int) < a := by omega
  have q1 : ¬ (b : Int) < nms.length := by omega
  have q2 : ((l.length : Int) == (c : Int)) = true := by rw [hs2, beq_iff_eq]
  have q2b : ((l.length : Int) != (c : Int)) = false := by rw [bne, q2]; rfl
  have HB1 := Lib.hid (new_at w (.cells #[.int .i64 7, .slice a1 nms.length c1, .int .i64 0, .int .i64 nn, .int .i64 0, .slice a2 l.length c2] 30))
  have HU1 := Lib.hid hu1
  have hb := new_at w (.cells #[.int .i64 7, .slice a1 nms.length c1, .int .i64 0, .int .i64 nn, .int .i64 0, .slice a2 l.length c2] 30)
  obtain ⟨y0, y1, y2, y3, y4, y5⟩ := cells6 hb

  rw [hall] at HCF
  have HBF := Lib.hid (new_at1 w (.cells #[.int .i64 7, .slice a1 nms.length c1, .int .i64 0, .int .i64 nn, .int .i64 0, .slice a2 l.length c2] 30) (.cells #[.int .i64 a, .int .i64 b, .int .i64 c, .bool false] 136))
  have HU2 : Hid (Upto [] w ((w.alloc (.cells #[.int .i64 7, .slice a1 nms.length c1, .int .i64 0, .int .i64 nn, .int .i64 0, .slice a2 l.length c2] 30)).alloc (.cells #[.int .i64 a, .int .i64 b, .int .i64 c, .bool false] 136))) := Lib.hid (hu1.alloc _)
  have HBO := Lib.hid (alloc_old hb (.cells #[.int .i64 a, .int .i64 b, .int .i64 c, .bool false] 136))

  clear habc hsb hall h hs hg hu1 hnm ev hin hb hs2 he hf
  go_enter Tryz.func91, Tryz.ntmps91
  go_wp2_with fail
  refine (HCF.out _ HU2.out).mono ?_
  rintro e w5 ⟨rfl, hu5⟩
  have HU5 := Lib.hid (HU2.out.trans_ext hu5)
  have hb5 := hu5.at HBO.out (by simp)
  have hf5 := hu5.at HBF.out (by simp)
  have z0 := cell_of hb5 0
  have z1 := cell_of hb5 1
  have z2 := cell_of hb5 2
  have z3 := cell_of hb5 3
  have z4 := cell_of hb5 4
  have z5 := cell_of hb5 5
  have x3 := cell_of hf5 3
  simp only [List.getElem?_toArray, List.getElem?_cons_zero, List.getElem?_cons_succ] at z0 z1 z2 z3 z4 z5 x3
  clear hu5 hb5 hf5 y0 y1 y2 y3 y4 y5 t0 t1 t2 t3
  go_wp2_with fail
  go_ret
  exact ⟨rfl, HU5.out⟩

set_option maxRecDepth 100000 in
set_option maxHeartbeats 6400000 in
theorem has_8a (so nn mm : Int) (nms : List (List UInt8)) (l : List Nd) (hin : inN 10000000 (.mk 8 nms so nn mm l)) (v : Value) (w : World) (P : Nat → Prop) (h : NdV w P (.mk 8 nms so nn mm l) v) (he : Env w) (hf : FEnv w) (hk0 : (0 : Int) ≤ 8) (hk1 : (8 : Int) ≤ 17) (hsb : shapeBad 8 nms.length l.length = false) (hall : nms.all identF = true) (hz : so ≠ 0) : Calls Tryz.prog 91 #[v] w fun e w' => e = .returned (.bool false) ∧ Upto [] w w' := by
  obtain ⟨a1, c1, a2, c2, rfl, hs, hg⟩ := h.open
  unfold inN at hin
  obtain ⟨a1', c1', ev, hnm⟩ := hs.get
  obtain ⟨rfl, rfl⟩ : a1 = a1' ∧ c1 = c1' := by simpa using ev
  have hu1 : Upto [] w (w.alloc (.cells #[.int .i64 8, .slice a1 nms.length c1, .int .i64 so, .int .i64 nn, .int .i64 mm, .slice a2 l.length c2] 30)) := (Upto.refl [] w).alloc _
  have hll := hin.2.2.1
  have hnl := hin.1
  have HCF := Lib.hid (fun u (hu : Upto [] w u) => containsf_calls nms a1 c1 u (he.ext hu) hnl hin.2.1 (fun i x hi => by
    obtain ⟨g, o, e1, e2⟩ := hnm i _ (by rw [List.getElem?_map, hi]; rfl)
    exact ⟨g, o, e1, (hu.cell (p := ⟨g, o + i, none⟩) (World.block_lt_of_cell? w _ e2) (by simp)).trans e2⟩))
  have hL0 : (0 : Int) ≤ l.length := by omega
  have hL1 : (l.length : Int) ≤ 10000000 := by omega
  have hN0 : (0 : Int) ≤ nms.length := by omega
  have hN1 : (nms.length : Int) ≤ 10000000 := by omega
  obtain ⟨a, b, c, habc, ha17, hb17, hc17⟩ : ∃ a b c : Nat, hasF 8 = (a, b, c) ∧ a ≤ 17 ∧ b ≤ 17 ∧ c ≤ 17 := by
    unfold hasF
    repeat' split
    all_goals exact ⟨_, _, _, rfl, by decide, by decide, by decide⟩
  obtain ⟨t0, t1, t2, t3⟩ := (hf.ext hu1).at_ 8 (by omega)
  try simp only [Nat.reduceMul, Nat.reduceAdd] at t0 t1 t2 t3
  rw [show hasF (8 : Nat) = (a, b, c) from habc] at t0 t1 t2
  simp only at t0 t1 t2
  have ha0 : (0 : Int) ≤ a := by omega
  have hb0 : (0 : Int) ≤ b := by omega
  have hc0 : (0 : Int) ≤ c := by omega
  have ha1 : (a : Int) ≤ 17 := by omega
  have hb1 : (b : Int) ≤ 17 := by omega
  have hc1 : (c : Int) ≤ 17 := by omega
  obtain ⟨hs0, hs1, hs2⟩ : ¬ nms.length < a ∧ ¬ b < nms.length ∧ l.length = c := by
    unfold shapeBad at hsb
    rw [habc] at hsb
    simp at hsb
    omega
  have q0 : ¬ (nms.length : Int) < a := by omega
  have q1 : ¬ (b : Int) < nms.length := by omega
  have q2 : ((l.length : Int) == (c : Int)) = true := by rw [hs2, beq_iff_eq]
  have q2b : ((l.length : Int) != (c : Int)) = false := by rw [bne, q2]; rfl
  have HB1 := Lib.hid (new_at w (.cells #[.int .i64 8, .slice a1 nms.length c1, .int .i64 so, .int .i64 nn, .int .i64 mm, .slice a2 l.length c2] 30))
  have HU1 := Lib.hid hu1
  have hb := new_at w (.cells #[.int .i64 8, .slice a1 nms.length c1, .int .i64 so, .int .i64 nn, .int .i64 mm, .slice a2 l.length c2] 30)
  obtain ⟨y0, y1, y2, y3, y4, y5⟩ := cells6 hb

  rw [hall] at HCF
  have HBF := Lib.hid (new_at1 w (.cells #[.int .i64 8, .slice a1 nms.length c1, .int .i64 so, .int .i64 nn, .int .i64 mm, .slice a2 l.length c2] 30) (.cells #[.int .i64 a, .int .i64 b, .int .i64 c, .bool false] 136))
  have HU2 : Hid (Upto [] w ((w.alloc (.cells #[.int .i64 8, .slice a1 nms.length c1, .int .i64 so, .int .i64 nn, .int .i64 mm, .slice a2 l.length c2] 30)).alloc (.cells #[.int .i64 a, .int .i64 b, .int .i64 c, .bool false] 136))) := Lib.hid (hu1.alloc _)
  have HBO := Lib.hid (alloc_old hb (.cells #[.int .i64 a, .int .i64 b, .int .i64 c, .bool false] 136))
  have eso0 : (so == (0 : Int)) = false := by rw [beq_eq_false_iff_ne]; exact hz
  have fso0 : (so != (0 : Int)) = true := by rw [bne, eso0]; rfl
  clear habc hsb hall h hs hg hu1 hnm ev hin hb hs2 he hf
  go_enter Tryz.func91, Tryz.ntmps91
  go_wp2_with fail
  refine (HCF.out _ HU2.out).mono ?_
  rintro e w5 ⟨rfl, hu5⟩
  have HU5 := Lib.hid (HU2.out.trans_ext hu5)
  have hb5 := hu5.at HBO.out (by simp)
  have hf5 := hu5.at HBF.out (by simp)
  have z0 := cell_of hb5 0
  have z1 := cell_of hb5 1
  have z2 := cell_of hb5 2
  have z3 := cell_of hb5 3
  have z4 := cell_of hb5 4
  have z5 := cell_of hb5 5
  have x3 := cell_of hf5 3
  simp only [List.getElem?_toArray, List.getElem?_cons_zero, List.getElem?_cons_succ] at z0 z1 z2 z3 z4 z5 x3
  clear hu5 hb5 hf5 y0 y1 y2 y3 y4 y5 t0 t1 t2 t3
  go_wp2_with fail
  go_ret
  exact ⟨rfl, HU5.out⟩

set_option maxRecDepth 100000 in
set_option maxHeartbeats 6400000 in
theorem has_8g (nn mm : Int) (nms : List (List UInt8)) (l : List Nd) (hin : inN 10000000 (.mk 8 nms 0 nn mm l)) (v : Value) (w : World) (P : Nat → Prop) (h : NdV w P (.mk 8 nms 0 nn mm l) v) (he : Env w) (hf : FEnv w) (hk0 : (0 : Int) ≤ 8) (hk1 : (8 : Int) ≤ 17) (hsb : shapeBad 8 nms.length l.length = false) (hall : nms.all identF = true) : Calls Tryz.prog 91 #[v] w fun e w' => e = .returned (.bool true) ∧ Upto [] w w' := by
  obtain ⟨a1, c1, a2, c2, rfl, hs, hg⟩ := h.open
  unfold inN at hin
  obtain ⟨a1', c1', ev, hnm⟩ := hs.get
  obtain ⟨rfl, rfl⟩ : a1 = a1' ∧ c1 = c1' := by simpa using ev
  have hu1 : Upto [] w (w.alloc (.cells #[.int .i64 8, .slice a1 nms.length c1, .int .i64 0, .int .i64 nn, .int .i64 mm, .slice a2 l.length c2] 30)) := (Upto.refl [] w).alloc _
  have hll := hin.2.2.1
  have hnl := hin.1
  have HCF := Lib.hid (fun u (hu : Upto [] w u) => containsf_calls nms a1 c1 u (he.ext hu) hnl hin.2.1 (fun i x hi => by
    obtain ⟨g, o, e1, e2⟩ := hnm i _ (by rw [List.getElem?_map, hi]; rfl)
    exact ⟨g, o, e1, (hu.cell (p := ⟨g, o + i, none⟩) (World.block_lt_of_cell? w _ e2) (by simp)).trans e2⟩))
  have hL0 : (0 : Int) ≤ l.length := by omega
  have hL1 : (l.length : Int) ≤ 10000000 := by omega
  have hN0 : (0 : Int) ≤ nms.length := by omega
  have hN1 : (nms.length : Int) ≤ 10000000 := by omega
  obtain ⟨a, b, c, habc, ha17, hb17, hc17⟩ : ∃ a b c : Nat, hasF 8 = (a, b, c) ∧ a ≤ 17 ∧ b ≤ 17 ∧ c ≤ 17 := by
    unfold hasF
    repeat' split
    all_goals exact ⟨_, _, _, rfl, by decide, by decide, by decide⟩
  obtain ⟨t0, t1, t2, t3⟩ := (hf.ext hu1).at_ 8 (by omega)
  try simp only [Nat.reduceMul, Nat.reduceAdd] at t0 t1 t2 t3
  rw [show hasF (8 : Nat) = (a, b, c) from habc] at t0 t1 t2
  simp only at t0 t1 t2
  have ha0 : (0 : Int) ≤ a := by omega
  have hb0 : (0 : Int) ≤ b := by omega
  have hc0 : (0 : Int) ≤ c := by omega
  have ha1 : (a : Int) ≤ 17 := by omega
  have hb1 : (b : Int) ≤ 17 := by omega
  have hc1 : (c : Int) ≤ 17 := by omega
  obtain ⟨hs0, hs1, hs2⟩ : ¬ nms.length < a ∧ ¬ b < nms.length ∧ l.length = c := by
    unfold shapeBad at hsb
    rw [habc] at hsb
    simp at hsb
    omega
  have q0 : ¬ (nms.length : Int) < a := by omega
  have q1 : ¬ (b : Int) < nms.length := by omega
  have q2 : ((l.length : Int) == (c : Int)) = true := by rw [hs2, beq_iff_eq]
  have q2b : ((l.length : Int) != (c : Int)) = false := by rw [bne, q2]; rfl
  have HB1 := Lib.hid (new_at w (.cells #[.int .i64 8, .slice a1 nms.length c1, .int .i64 0, .int .i64 nn, .int .i64 mm, .slice a2 l.length c2] 30))
  have HU1 := Lib.hid hu1
  have hb := new_at w (.cells #[.int .i64 8, .slice a1 nms.length c1, .int .i64 0, .int .i64 nn, .int .i64 mm, .slice a2 l.length c2] 30)
  obtain ⟨y0, y1, y2, y3, y4, y5⟩ := cells6 hb

  rw [hall] at HCF
  have HBF := Lib.hid (new_at1 w (.cells #[.int .i64 8, .slice a1 nms.length c1, .int .i64 0, .int .i64 nn, .int .i64 mm, .slice a2 l.length c2] 30) (.cells #[.int .i64 a, .int .i64 b, .int .i64 c, .bool false] 136))
  have HU2 : Hid (Upto [] w ((w.alloc (.cells #[.int .i64 8, .slice a1 nms.length c1, .int .i64 0, .int .i64 nn, .int .i64 mm, .slice a2 l.length c2] 30)).alloc (.cells #[.int .i64 a, .int .i64 b, .int .i64 c, .bool false] 136))) := Lib.hid (hu1.alloc _)
  have HBO := Lib.hid (alloc_old hb (.cells #[.int .i64 a, .int .i64 b, .int .i64 c, .bool false] 136))

  clear habc hsb hall h hs hg hu1 hnm ev hin hb hs2 he hf
  go_enter Tryz.func91, Tryz.ntmps91
  go_wp2_with fail
  refine (HCF.out _ HU2.out).mono ?_
  rintro e w5 ⟨rfl, hu5⟩
  have HU5 := Lib.hid (HU2.out.trans_ext hu5)
  have hb5 := hu5.at HBO.out (by simp)
  have hf5 := hu5.at HBF.out (by simp)
  have z0 := cell_of hb5 0
  have z1 := cell_of hb5 1
  have z2 := cell_of hb5 2
  have z3 := cell_of hb5 3
  have z4 := cell_of hb5 4
  have z5 := cell_of hb5 5
  have x3 := cell_of hf5 3
  simp only [List.getElem?_toArray, List.getElem?_cons_zero, List.getElem?_cons_succ] at z0 z1 z2 z3 z4 z5 x3
  clear hu5 hb5 hf5 y0 y1 y2 y3 y4 y5 t0 t1 t2 t3
  go_wp2_with fail
  go_ret
  exact ⟨rfl, HU5.out⟩

set_option maxRecDepth 100000 in
set_option maxHeartbeats 6400000 in
theorem has_oa (k : Nat) (so nn mm : Int) (nms : List (List UInt8)) (l : List Nd) (hin : inN 10000000 (.mk (k : Int) nms so nn mm l)) (v : Value) (w : World) (P : Nat → Prop) (h : NdV w P (.mk (k : Int) nms so nn mm l) v) (he : Env w) (hf : FEnv w) (hk0 : (0 : Int) ≤ (k : Int)) (hk1 : ((k : Int) : Int) ≤ 17) (hsb : shapeBad (k : Int) nms.length l.length = false) (hall : nms.all identF = true) (o7 : (k : Int) ≠ 7) (o8 : (k : Int) ≠ 8) (o16 : k < 16) (hz : so ≠ 0) : Calls Tryz.prog 91 #[v] w fun e w' => e = .returned (.bool false) ∧ Upto [] w w' := by
  obtain ⟨a1, c1, a2, c2, rfl, hs, hg⟩ := h.open
  unfold inN at hin
  obtain ⟨a1', c1', ev, hnm⟩ := hs.get
  obtain ⟨rfl, rfl⟩ : a1 = a1' ∧ c1 = c1' := by simpa using ev
  have hu1 : Upto [] w (w.alloc (.cells #[.int .i64 (k : Int), .slice a1 nms.length c1, .int .i64 so, .int .i64 nn, .int .i64 mm, .slice a2 l.length c2] 30)) := (Upto.refl [] w).alloc _
  have hll := hin.2.2.1
  have hnl := hin.1
  have HCF := Lib.hid (fun u (hu : Upto [] w u) => containsf_calls nms a1 c1 u (he.ext hu) hnl hin.2.1 (fun i x hi => by
    obtain ⟨g, o, e1, e2⟩ := hnm i _ (by rw [List.getElem?_map, hi]; rfl)
    exact ⟨g, o, e1, (hu.cell (p := ⟨g, o + i, none⟩) (World.block_lt_of_cell? w _ e2) (by simp)).trans e2⟩))
  have hL0 : (0 : Int) ≤ l.length := by omega
  have hL1 : (l.length : Int) ≤ 10000000 := by omega
  have hN0 : (0 : Int) ≤ nms.length := by omega
  have hN1 : (nms.length : Int) ≤ 10000000 := by omega
  obtain ⟨a, b, c, habc, ha17, hb17, hc17⟩ : ∃ a b c : Nat, hasF (k : Int) = (a, b, c) ∧ a ≤ 17 ∧ b ≤ 17 ∧ c ≤ 17 := by
    unfold hasF
    repeat' split
    all_goals exact ⟨_, _, _, rfl, by decide, by decide, by decide⟩
  obtain ⟨t0, t1, t2, t3⟩ := (hf.ext hu1).at_ k (by omega)
  try simp only [Nat.reduceMul, Nat.reduceAdd] at t0 t1 t2 t3
  rw [show hasF (k : Nat) = (a, b, c) from habc] at t0 t1 t2
  simp only at t0 t1 t2
  have ha0 : (0 : Int) ≤ a := by omega
  have hb0 : (0 : Int) ≤ b := by omega
  have hc0 : (0 : Int) ≤ c := by omega
  have ha1 : (a : Int) ≤ 17 := by omega
  have hb1 : (b : Int) ≤ 17 := by omega
  have hc1 : (c : Int) ≤ 17 := by omega
  obtain ⟨hs0, hs1, hs2⟩ : ¬ nms.length < a ∧ ¬ b < nms.length ∧ l.length = c := by
    unfold shapeBad at hsb
    rw [habc] at hsb
    simp at hsb
    omega
  have q0 : ¬ (nms.length : Int) < a := by omega
  have q1 : ¬ (b : Int) < nms.length := by omega
  have q2 : ((l.length : Int) == (c : Int)) = true := by rw [hs2, beq_iff_eq]
  have q2b : ((l.length : Int) != (c : Int)) = false := by rw [bne, q2]; rfl
  have HB1 := Lib.hid (new_at w (.cells #[.int .i64 (k : Int), .slice a1 nms.length c1, .int .i64 so, .int .i64 nn, .int .i64 mm, .slice a2 l.length c2] 30))
  have HU1 := Lib.hid hu1
  have hb := new_at w (.cells #[.int .i64 (k : Int), .slice a1 nms.length c1, .int .i64 so, .int .i64 nn, .int .i64 mm, .slice a2 l.length c2] 30)
  obtain ⟨y0, y1, y2, y3, y4, y5⟩ := cells6 hb
  rw [show decide (16 ≤ k) = false from decide_eq_false (by omega)] at t3
  rw [hall] at HCF
  have HBF := Lib.hid (new_at1 w (.cells #[.int .i64 (k : Int), .slice a1 nms.length c1, .int .i64 so, .int .i64 nn, .int .i64 mm, .slice a2 l.length c2] 30) (.cells #[.int .i64 a, .int .i64 b, .int .i64 c, .bool false] 136))
  have HU2 : Hid (Upto [] w ((w.alloc (.cells #[.int .i64 (k : Int), .slice a1 nms.length c1, .int .i64 so, .int .i64 nn, .int .i64 mm, .slice a2 l.length c2] 30)).alloc (.cells #[.int .i64 a, .int .i64 b, .int .i64 c, .bool false] 136))) := Lib.hid (hu1.alloc _)
  have HBO := Lib.hid (alloc_old hb (.cells #[.int .i64 a, .int .i64 b, .int .i64 c, .bool false] 136))
  have e7 : ((k : Int) == (7 : Int)) = false := by rw [beq_eq_false_iff_ne]; exact o7
  have f7 : ((k : Int) != (7 : Int)) = true := by rw [bne, e7]; rfl
  have e8 : ((k : Int) == (8 : Int)) = false := by rw [beq_eq_false_iff_ne]; exact o8
  have f8 : ((k : Int) != (8 : Int)) = true := by rw [bne, e8]; rfl
  have eso0 : (so == (0 : Int)) = false := by rw [beq_eq_false_iff_ne]; exact hz
  have fso0 : (so != (0 : Int)) = true := by rw [bne, eso0]; rfl
  clear habc hsb hall h hs hg hu1 hnm ev hin hb hs2 he hf
  go_enter Tryz.func91, Tryz.ntmps91
  go_wp2_with fail
  refine (HCF.out _ HU2.out).mono ?_
  rintro e w5 ⟨rfl, hu5⟩
  have HU5 := Lib.hid (HU2.out.trans_ext hu5)
  have hb5 := hu5.at HBO.out (by simp)
  have hf5 := hu5.at HBF.out (by simp)
  have z0 := cell_of hb5 0
  have z1 := cell_of hb5 1
  have z2 := cell_of hb5 2
  have z3 := cell_of hb5 3
  have z4 := cell_of hb5 4
  have z5 := cell_of hb5 5
  have x3 := cell_of hf5 3
  simp only [List.getElem?_toArray, List.getElem?_cons_zero, List.getElem?_cons_succ] at z0 z1 z2 z3 z4 z5 x3
  clear hu5 hb5 hf5 y0 y1 y2 y3 y4 y5 t0 t1 t2 t3
  go_wp2_with fail
  go_ret
  exact ⟨rfl, HU5.out⟩

set_option maxRecDepth 100000 in
set_option maxHeartbeats 6400000 in
theorem has_ob (k : Nat) (nn mm : Int) (nms : List (List UInt8)) (l : List Nd) (hin : inN 10000000 (.mk (k : Int) nms 0 nn mm l)) (v : Value) (w : World) (P : Nat → Prop) (h : NdV w P (.mk (k : Int) nms 0 nn mm l) v) (he : Env w) (hf : FEnv w) (hk0 : (0 : Int) ≤ (k : Int)) (hk1 : ((k : Int) : Int) ≤ 17) (hsb : shapeBad (k : Int) nms.length l.length = false) (hall : nms.all identF = true) (o7 : (k : Int) ≠ 7) (o8 : (k : Int) ≠ 8) (o16 : k < 16) (hz : nn ≠ 0) : Calls Tryz.prog 91 #[v] w fun e w' => e = .returned (.bool false) ∧ Upto [] w w' := by
  obtain ⟨a1, c1, a2, c2, rfl, hs, hg⟩ := h.open
  unfold inN at hin
  obtain ⟨a1', c1', ev, hnm⟩ := hs.get
  obtain ⟨rfl, rfl⟩ : a1 = a1' ∧ c1 = c1' := by simpa using ev
  have hu1 : Upto [] w (w.alloc (.cells #[.int .i64 (k : Int), .slice a1 nms.length c1, .int .i64 0, .int .i64 nn, .int .i64 mm, .slice a2 l.length c2] 30)) := (Upto.refl [] w).alloc _
  have hll := hin.2.2.1
  have hnl := hin.1
  have HCF := Lib.hid (fun u (hu : Upto [] w u) => containsf_calls nms a1 c1 u (he.ext hu) hnl hin.2.1 (fun i x hi => by
    obtain ⟨g, o, e1, e2⟩ := hnm i _ (by rw [List.getElem?_map, hi]; rfl)
    exact ⟨g, o, e1, (hu.cell (p := ⟨g, o + i, none⟩) (World.block_lt_of_cell? w _ e2) (by simp)).trans e2⟩))
  have hL0 : (0 : Int) ≤ l.length := by omega
  have hL1 : (l.length : Int) ≤ 10000000 := by omega
  have hN0 : (0 : Int) ≤ nms.length := by omega
  have hN1 : (nms.length : Int) ≤ 10000000 := by omega
  obtain ⟨a, b, c, habc, ha17, hb17, hc17⟩ : ∃ a b c : Nat, hasF (k : Int) = (a, b, c) ∧ a ≤ 17 ∧ b ≤ 17 ∧ c ≤ 17 := by
    unfold hasF
    repeat' split
    all_goals exact ⟨_, _, _, rfl, by decide, by decide, by decide⟩
  obtain ⟨t0, t1, t2, t3⟩ := (hf.ext hu1).at_ k (by omega)
  try simp only [Nat.reduceMul, Nat.reduceAdd] at t0 t1 t2 t3
  rw [show hasF (k : Nat) = (a, b, c) from habc] at t0 t1 t2
  simp only at t0 t1 t2
  have ha0 : (0 : Int) ≤ a := by omega
  have hb0 : (0 : Int) ≤ b := by omega
  have hc0 : (0 : Int) ≤ c := by omega
  have ha1 : (a : Int) ≤ 17 := by omega
  have hb1 : (b : Int) ≤ 17 := by omega
  have hc1 : (c : Int) ≤ 17 := by omega
  obtain ⟨hs0, hs1, hs2⟩ : ¬ nms.length < a ∧ ¬ b < nms.length ∧ l.length = c := by
    unfold shapeBad at hsb
    rw [habc] at hsb
    simp at hsb
    omega
  have q0 : ¬ (nms.length : Int) < a := by omega
  have q1 : ¬ (b : Int) < nms.length := by omega
  have q2 : ((l.length : Int) == (c : Int)) = true := by rw [hs2, beq_iff_eq]
  have q2b : ((l.length : Int) != (c : Int)) = false := by rw [bne, q2]; rfl
  have HB1 := Lib.hid (new_at w (.cells #[.int .i64 (k : Int), .slice a1 nms.length c1, .int .i64 0, .int .i64 nn, .int .i64 mm, .slice a2 l.length c2] 30))
  have HU1 := Lib.hid hu1
  have hb := new_at w (.cells #[.int .i64 (k : Int), .slice a1 nms.length c1, .int .i64 0, .int .i64 nn, .int .i64 mm, .slice a2 l.length c2] 30)
  obtain ⟨y0, y1, y2, y3, y4, y5⟩ := cells6 hb
  rw [show decide (16 ≤ k) = false from decide_eq_false (by omega)] at t3
  rw [hall] at HCF
  have HBF := Lib.hid (new_at1 w (.cells #[.int .i64 (k : Int), .slice a1 nms.length c1, .int .i64 0, .int .i64 nn, .int .i64 mm, .slice a2 l.length c2] 30) (.cells #[.int .i64 a, .int .i64 b, .int .i64 c, .bool false] 136))
  have HU2 : Hid (Upto [] w ((w.alloc (.cells #[.int .i64 (k : Int), .slice a1 nms.length c1, .int .i64 0, .int .i64 nn, .int .i64 mm, .slice a2 l.length c2] 30)).alloc (.cells #[.int .i64 a, .int .i64 b, .int .i64 c, .bool false] 136))) := Lib.hid (hu1.alloc _)
  have HBO := Lib.hid (alloc_old hb (.cells #[.int .i64 a, .int .i64 b, .int .i64 c, .bool false] 136))
  have e7 : ((k : Int) == (7 : Int)) = false := by rw [beq_eq_false_iff_ne]; exact o7
  have f7 : ((k : Int) != (7 : Int)) = true := by rw [bne, e7]; rfl
  have e8 : ((k : Int) == (8 : Int)) = false := by rw [beq_eq_false_iff_ne]; exact o8
  have f8 : ((k : Int) != (8 : Int)) = true := by rw [bne, e8]; rfl
  have enn0 : (nn == (0 : Int)) = false := by rw [beq_eq_false_iff_ne]; exact hz
  have fnn0 : (nn != (0 : Int)) = true := by rw [bne, enn0]; rfl
  clear habc hsb hall h hs hg hu1 hnm ev hin hb hs2 he hf
  go_enter Tryz.func91, Tryz.ntmps91
  go_wp2_with fail
  refine (HCF.out _ HU2.out).mono ?_
  rintro e w5 ⟨rfl, hu5⟩
  have HU5 := Lib.hid (HU2.out.trans_ext hu5)
  have hb5 := hu5.at HBO.out (by simp)
  have hf5 := hu5.at HBF.out (by simp)
  have z0 := cell_of hb5 0
  have z1 := cell_of hb5 1
  have z2 := cell_of hb5 2
  have z3 := cell_of hb5 3
  have z4 := cell_of hb5 4
  have z5 := cell_of hb5 5
  have x3 := cell_of hf5 3
  simp only [List.getElem?_toArray, List.getElem?_cons_zero, List.getElem?_cons_succ] at z0 z1 z2 z3 z4 z5 x3
  clear hu5 hb5 hf5 y0 y1 y2 y3 y4 y5 t0 t1 t2 t3
  go_wp2_with fail
  go_ret
  exact ⟨rfl, HU5.out⟩

set_option maxRecDepth 100000 in
set_option maxHeartbeats 6400000 in
theorem has_oc (k : Nat) (mm : Int) (nms : List (List UInt8)) (l : List Nd) (hin : inN 10000000 (.mk (k : Int) nms 0 0 mm l)) (v : Value) (w : World) (P : Nat → Prop) (h : NdV w P (.mk (k : Int) nms 0 0 mm l) v) (he : Env w) (hf : FEnv w) (hk0 : (0 : Int) ≤ (k : Int)) (hk1 : ((k : Int) : Int) ≤ 17) (hsb : shapeBad (k : Int) nms.length l.length = false) (hall : nms.all identF = true) (o7 : (k : Int) ≠ 7) (o8 : (k : Int) ≠ 8) (o16 : k < 16) (hz : mm ≠ 0) : Calls Tryz.prog 91 #[v] w fun e w' => e = .returned (.bool false) ∧ Upto [] w w' := by
  obtain ⟨a1, c1, a2, c2, rfl, hs, hg⟩ := h.open
  unfold inN at hin
  obtain ⟨a1', c1', ev, hnm⟩ := hs.get
  obtain ⟨rfl, rfl⟩ : a1 = a1' ∧ c1 = c1' := by simpa using ev
  have hu1 : Upto [] w (w.alloc (.cells #[.int .i64 (k : Int), .slice a1 nms.length c1, .int .i64 0, .int .i64 0, .int .i64 mm, .slice a2 l.length c2] 30)) := (Upto.refl [] w).alloc _
  have hll := hin.2.2.1
  have hnl := hin.1
  have HCF := Lib.hid (fun u (hu : Upto [] w u) => containsf_calls nms a1 c1 u (he.ext hu) hnl hin.2.1 (fun i x hi => by
    obtain ⟨g, o, e1, e2⟩ := hnm i _ (by rw [List.getElem?_map, hi]; rfl)
    exact ⟨g, o, e1, (hu.cell (p := ⟨g, o + i, none⟩) (World.block_lt_of_cell? w _ e2) (by simp)).trans e2⟩))
  have hL0 : (0 : Int) ≤ l.length := by omega
  have hL1 : (l.length : Int) ≤ 10000000 := by omega
  have hN0 : (0 : Int) ≤ nms.length := by omega
  have hN1 : (nms.length : Int) ≤ 10000000 := by omega
  obtain ⟨a, b, c, habc, ha17, hb17, hc17⟩ : ∃ a b c : Nat, hasF (k : Int) = (a, b, c) ∧ a ≤ 17 ∧ b ≤ 17 ∧ c ≤ 17 := by
    unfold hasF
    repeat' split
    all_goals exact ⟨_, _, _, rfl, by decide, by decide, by decide⟩
  obtain ⟨t0, t1, t2, t3⟩ := (hf.ext hu1).at_ k (by omega)
  try simp only [Nat.reduceMul, Nat.reduceAdd] at t0 t1 t2 t3
  rw [show hasF (k : Nat) = (a, b, c) from habc] at t0 t1 t2
  simp only at t0 t1 t2
  have ha0 : (0 : Int) ≤ a := by omega
  have hb0 : (0 : Int) ≤ b := by omega
  have hc0 : (0 : Int) ≤ c := by omega
  have ha1 : (a : Int) ≤ 17 := by omega
  have hb1 : (b : Int) ≤ 17 := by omega
  have hc1 : (c : Int) ≤ 17 := by omega
  obtain ⟨hs0, hs1, hs2⟩ : ¬ nms.length < a ∧ ¬ b < nms.length ∧ l.length = c := by
    unfold shapeBad at hsb
    rw [habc] at hsb
    simp at hsb
    omega
  have q0 : ¬ (nms.length : Int) < a := by omega
  have q1 : ¬ (b : Int) < nms.length := by omega
  have q2 : ((l.length : Int) == (c : Int)) = true := by rw [hs2, beq_iff_eq]
  have q2b : ((l.length : Int) != (c : Int)) = false := by rw [bne, q2]; rfl
  have HB1 := Lib.hid (new_at w (.cells #[.int .i64 (k : Int), .slice a1 nms.length c1, .int .i64 0, .int .i64 0, .int .i64 mm, .slice a2 l.length c2] 30))
  have HU1 := Lib.hid hu1
  have hb := new_at w (.cells #[.int .i64 (k : Int), .slice a1 nms.length c1, .int .i64 0, .int .i64 0, .int .i64 mm, .slice a2 l.length c2] 30)
  obtain ⟨y0, y1, y2, y3, y4, y5⟩ := cells6 hb
  rw [show decide (16 ≤ k) = false from decide_eq_false (by omega)] at t3
  rw [hall] at HCF
  have HBF := Lib.hid (new_at1 w (.cells #[.int .i64 (k : Int), .slice a1 nms.length c1, .int .i64 0, .int .i64 0, .int .i64 mm, .slice a2 l.length c2] 30) (.cells #[.int .i64 a, .int .i64 b, .int .i64 c, .bool false] 136))
  have HU2 : Hid (Upto [] w ((w.alloc (.cells #[.int .i64 (k : Int), .slice a1 nms.length c1, .int .i64 0, .int .i64 0, .int .i64 mm, .slice a2 l.length c2] 30)).alloc (.cells #[.int .i64 a, .int .i64 b, .int .i64 c, .bool false] 136))) := Lib.hid (hu1.alloc _)
  have HBO := Lib.hid (alloc_old hb (.cells #[.int .i64 a, .int .i64 b, .int .i64 c, .bool false] 136))
  have e7 : ((k : Int) == (7 : Int)) = false := by rw [beq_eq_false_iff_ne]; exact o7
  have f7 : ((k : Int) != (7 : Int)) = true := by rw [bne, e7]; rfl
  have e8 : ((k : Int) == (8 : Int)) = false := by rw [beq_eq_false_iff_ne]; exact o8
  have f8 : ((k : Int) != (8 : Int)) = true := by rw [bne, e8]; rfl
  have emm0 : (mm == (0 : Int)) = false := by rw [beq_eq_false_iff_ne]; exact hz
  have fmm0 : (mm != (0 : Int)) = true := by rw [bne, emm0]; rfl
  clear habc hsb hall h hs hg hu1 hnm ev hin hb hs2 he hf
  go_enter Tryz.func91, Tryz.ntmps91
  go_wp2_with fail
  refine (HCF.out _ HU2.out).mono ?_
  rintro e w5 ⟨rfl, hu5⟩
  have HU5 := Lib.hid (HU2.out.trans_ext hu5)
  have hb5 := hu5.at HBO.out (by simp)
  have hf5 := hu5.at HBF.out (by simp)
  have z0 := cell_of hb5 0
  have z1 := cell_of hb5 1
  have z2 := cell_of hb5 2
  have z3 := cell_of hb5 3
  have z4 := cell_of hb5 4
  have z5 := cell_of hb5 5
  have x3 := cell_of hf5 3
  simp only [List.getElem?_toArray, List.getElem?_cons_zero, List.getElem?_cons_succ] at z0 z1 z2 z3 z4 z5 x3
  clear hu5 hb5 hf5 y0 y1 y2 y3 y4 y5 t0 t1 t2 t3
  go_wp2_with fail
  go_ret
  exact ⟨rfl, HU5.out⟩

set_option maxRecDepth 100000 in
set_option maxHeartbeats 6400000 in
theorem has_og (k : Nat) (nms : List (List UInt8)) (l : List Nd) (hin : inN 10000000 (.mk (k : Int) nms 0 0 0 l)) (v : Value) (w : World) (P : Nat → Prop) (h : NdV w P (.mk (k : Int) nms 0 0 0 l) v) (he : Env w) (hf : FEnv w) (hk0 : (0 : Int) ≤ (k : Int)) (hk1 : ((k : Int) : Int) ≤ 17) (hsb : shapeBad (k : Int) nms.length l.length = false) (hall : nms.all identF = true) (o7 : (k : Int) ≠ 7) (o8 : (k : Int) ≠ 8) (o16 : k < 16) : Calls Tryz.prog 91 #[v] w fun e w' => e = .returned (.bool true) ∧ Upto [] w w' := by
  obtain ⟨a1, c1, a2, c2, rfl, hs, hg⟩ := h.open
  unfold inN at hin
  obtain ⟨a1', c1', ev, hnm⟩ := hs.get
  obtain ⟨rfl, rfl⟩ : a1 = a1' ∧ c1 = c1' := by simpa using ev
  have hu1 : Upto [] w (w.alloc (.cells #[.int .i64 (k : Int), .slice a1 nms.length c1, .int .i64 0, .int .i64 0, .int .i64 0, .slice a2 l.length c2] 30)) := (Upto.refl [] w).alloc _
  have hll := hin.2.2.1
  have hnl := hin.1
  have HCF := Lib.hid (fun u (hu : Upto [] w u) => containsf_calls nms a1 c1 u (he.ext hu) hnl hin.2.1 (fun i x hi => by
    obtain ⟨g, o, e1, e2⟩ := hnm i _ (by rw [List.getElem?_map, hi]; rfl)
    exact ⟨g, o, e1, (hu.cell (p := ⟨g, o + i, none⟩) (World.block_lt_of_cell? w _ e2) (by simp)).trans e2⟩))
  have hL0 : (0 : Int) ≤ l.length := by omega
  have hL1 : (l.length : Int) ≤ 10000000 := by omega
  have hN0 : (0 : Int) ≤ nms.length := by omega
  have hN1 : (nms.length : Int) ≤ 10000000 := by omega
  obtain ⟨a, b, c, habc, ha17, hb17, hc17⟩ : ∃ a b c : Nat, hasF (k : Int) = (a, b, c) ∧ a ≤ 17 ∧ b ≤ 17 ∧ c ≤ 17 := by
    unfold hasF
    repeat' split
    all_goals exact ⟨_, _, _, rfl, by decide, by decide, by decide⟩
  obtain ⟨t0, t1, t2, t3⟩ := (hf.ext hu1).at_ k (by omega)
  try simp only [Nat.reduceMul, Nat.reduceAdd] at t0 t1 t2 t3
  rw [show hasF (k : Nat) = (a, b, c) from habc] at t0 t1 t2
  simp only at t0 t1 t2
  have ha0 : (0 : Int) ≤ a := by omega
  have hb0 : (0 : Int) ≤ b := by omega
  have hc0 : (0 : Int) ≤ c := by omega
  have ha1 : (a : Int) ≤ 17 := by omega
  have hb1 : (b : Int) ≤ 17 := by omega
  have hc1 : (c : Int) ≤ 17 := by omega
  obtain ⟨hs0, hs1, hs2⟩ : ¬ nms.length < a ∧ ¬ b < nms.length ∧ l.length = c := by
    unfold shapeBad at hsb
    rw [habc] at hsb
    simp at hsb
    omega
  have q0 : ¬ (nms.length : Int) < a := by omega
  have q1 : ¬ (b : Int) < nms.length := by omega
  have q2 : ((l.length : Int) == (c : Int)) = true := by rw [hs2, beq_iff_eq]
  have q2b : ((l.length : Int) != (c : Int)) = false := by rw [bne, q2]; rfl
  have HB1 := Lib.hid (new_at w (.cells #[.int .i64 (k : Int), .slice a1 nms.length c1, .int .i64 0, .int .i64 0, .int .i64 0, .slice a2 l.length c2] 30))
  have HU1 := Lib.hid hu1
  have hb := new_at w (.cells #[.int .i64 (k : Int), .slice a1 nms.length c1, .int .i64 0, .int .i64 0, .int .i64 0, .slice a2 l.length c2] 30)
  obtain ⟨y0, y1, y2, y3, y4, y5⟩ := cells6 hb
  rw [show decide (16 ≤ k) = false from decide_eq_false (by omega)] at t3
  rw [hall] at HCF
  have HBF := Lib.hid (new_at1 w (.cells #[.int .i64 (k : Int), .slice a1 nms.length c1, .int .i64 0, .int .i64 0, .int .i64 0, .slice a2 l.length c2] 30) (.cells #[.int .i64 a, .int .i64 b, .int .i64 c, .bool false] 136))
  have HU2 : Hid (Upto [] w ((w.alloc (.cells #[.int .i64 (k : Int), .slice a1 nms.length c1, .int .i64 0, .int .i64 0, .int .i64 0, .slice a2 l.length c2] 30)).alloc (.cells #[.int .i64 a, .int .i64 b, .int .i64 c, .bool false] 136))) := Lib.hid (hu1.alloc _)
  have HBO := Lib.hid (alloc_old hb (.cells #[.int .i64 a, .int .i64 b, .int .i64 c, .bool false] 136))
  have e7 : ((k : Int) == (7 : Int)) = false := by rw [beq_eq_false_iff_ne]; exact o7
  have f7 : ((k : Int) != (7 : Int)) = true := by rw [bne, e7]; rfl
  have e8 : ((k : Int) == (8 : Int)) = false := by rw [beq_eq_false_iff_ne]; exact o8
  have f8 : ((k : Int) != (8 : Int)) = true := by rw [bne, e8]; rfl
  clear habc hsb hall h hs hg hu1 hnm ev hin hb hs2 he hf
  go_enter Tryz.func91, Tryz.ntmps91
  go_wp2_with fail
  refine (HCF.out _ HU2.out).mono ?_
  rintro e w5 ⟨rfl, hu5⟩
  have HU5 := Lib.hid (HU2.out.trans_ext hu5)
  have hb5 := hu5.at HBO.out (by simp)
  have hf5 := hu5.at HBF.out (by simp)
  have z0 := cell_of hb5 0
  have z1 := cell_of hb5 1
  have z2 := cell_of hb5 2
  have z3 := cell_of hb5 3
  have z4 := cell_of hb5 4
  have z5 := cell_of hb5 5
  have x3 := cell_of hf5 3
  simp only [List.getElem?_toArray, List.getElem?_cons_zero, List.getElem?_cons_succ] at z0 z1 z2 z3 z4 z5 x3
  clear hu5 hb5 hf5 y0 y1 y2 y3 y4 y5 t0 t1 t2 t3
  go_wp2_with fail
  go_ret
  exact ⟨rfl, HU5.out⟩

set_option maxRecDepth 100000 in
set_option maxHeartbeats 6400000 in
theorem has_hb (k : Nat) (so nn mm : Int) (nms : List (List UInt8)) (l : List Nd) (hin : inN 10000000 (.mk (k : Int) nms so nn mm l)) (v : Value) (w : World) (P : Nat → Prop) (h : NdV w P (.mk (k : Int) nms so nn mm l) v) (he : Env w) (hf : FEnv w) (hk0 : (0 : Int) ≤ (k : Int)) (hk1 : ((k : Int) : Int) ≤ 17) (hsb : shapeBad (k : Int) nms.length l.length = false) (hall : nms.all identF = true) (o7 : (k : Int) ≠ 7) (o8 : (k : Int) ≠ 8) (o16 : ¬ k < 16) (hz : nn ≠ 0) : Calls Tryz.prog 91 #[v] w fun e w' => e = .returned (.bool false) ∧ Upto [] w w' := by
  obtain ⟨a1, c1, a2, c2, rfl, hs, hg⟩ := h.open
  unfold inN at hin
  obtain ⟨a1', c1', ev, hnm⟩ := hs.get
  obtain ⟨rfl, rfl⟩ : a1 = a1' ∧ c1 = c1' := by simpa using ev
  have hu1 : Upto [] w (w.alloc (.cells #[.int .i64 (k : Int), .slice a1 nms.length c1, .int .i64 so, .int .i64 nn, .int .i64 mm, .slice a2 l.length c2] 30)) := (Upto.refl [] w).alloc _
  have hll := hin.2.2.1
  have hnl := hin.1
  have HCF := Lib.hid (fun u (hu : Upto [] w u) => containsf_calls nms a1 c1 u (he.ext hu) hnl hin.2.1 (fun i x hi => by
    obtain ⟨g, o, e1, e2⟩ := hnm i _ (by rw [List.getElem?_map, hi]; rfl)
    exact ⟨g, o, e1, (hu.cell (p := ⟨g, o + i, none⟩) (World.block_lt_of_cell? w _ e2) (by simp)).trans e2⟩))
  have hL0 : (0 : Int) ≤ l.length := by omega
  have hL1 : (l.length : Int) ≤ 10000000 := by omega
  have hN0 : (0 : Int) ≤ nms.length := by omega
  have hN1 : (nms.length : Int) ≤ 10000000 := by omega
  obtain ⟨a, b, c, habc, ha17, hb17, hc17⟩ : ∃ a b c : Nat, hasF (k : Int) = (a, b, c) ∧ a ≤ 17 ∧ b ≤ 17 ∧ c ≤ 17 := by
    unfold hasF
    repeat' split
    all_goals exact ⟨_, _, _, rfl, by decide, by decide, by decide⟩
  obtain ⟨t0, t1, t2, t3⟩ := (hf.ext hu1).at_ k (by omega)
  try simp only [Nat.reduceMul, Nat.reduceAdd] at t0 t1 t2 t3
  rw [show hasF (k : Nat) = (a, b, c) from habc] at t0 t1 t2
  simp only at t0 t1 t2
  have ha0 : (0 : Int) ≤ a := by omega
  have hb0 : (0 : Int) ≤ b := by omega
  have hc0 : (0 : Int) ≤ c := by omega
  have ha1 : (a : Int) ≤ 17 := by omega
  have hb1 : (b : Int) ≤ 17 := by omega
  have hc1 : (c : Int) ≤ 17 := by omega
  obtain ⟨hs0, hs1, hs2⟩ : ¬ nms.length < a ∧ ¬ b < nms.length ∧ l.length = c := by
    unfold shapeBad at hsb
    rw [habc] at hsb
    simp at hsb
    omega
  have q0 : ¬ (nms.length : Int) < a := by omega
  have q1 : ¬ (b : Int) < nms.length := by omega
  have q2 : ((l.length : Int) == (c : Int)) = true := by rw [hs2, beq_iff_eq]
  have q2b : ((l.length : Int) != (c : Int)) = false := by rw [bne, q2]; rfl
  have HB1 := Lib.hid (new_at w (.cells #[.int .i64 (k : Int), .slice a1 nms.length c1, .int .i64 so, .int .i64 nn, .int .i64 mm, .slice a2 l.length c2] 30))
  have HU1 := Lib.hid hu1
  have hb := new_at w (.cells #[.int .i64 (k : Int), .slice a1 nms.length c1, .int .i64 so, .int .i64 nn, .int .i64 mm, .slice a2 l.length c2] 30)
  obtain ⟨y0, y1, y2, y3, y4, y5⟩ := cells6 hb
  rw [show decide (16 ≤ k) = true from decide_eq_true (by omega)] at t3
  rw [hall] at HCF
  have HBF := Lib.hid (new_at1 w (.cells #[.int .i64 (k : Int), .slice a1 nms.length c1, .int .i64 so, .int .i64 nn, .int .i64 mm, .slice a2 l.length c2] 30) (.cells #[.int .i64 a, .int .i64 b, .int .i64 c, .bool true] 136))
  have HU2 : Hid (Upto [] w ((w.alloc (.cells #[.int .i64 (k : Int), .slice a1 nms.length c1, .int .i64 so, .int .i64 nn, .int .i64 mm, .slice a2 l.length c2] 30)).alloc (.cells #[.int .i64 a, .int .i64 b, .int .i64 c, .bool true] 136))) := Lib.hid (hu1.alloc _)
  have HBO := Lib.hid (alloc_old hb (.cells #[.int .i64 a, .int .i64 b, .int .i64 c, .bool true] 136))
  have e7 : ((k : Int) == (7 : Int)) = false := by rw [beq_eq_false_iff_ne]; exact o7
  have f7 : ((k : Int) != (7 : Int)) = true := by rw [bne, e7]; rfl
  have e8 : ((k : Int) == (8 : Int)) = false := by rw [beq_eq_false_iff_ne]; exact o8
  have f8 : ((k : Int) != (8 : Int)) = true := by rw [bne, e8]; rfl
  have enn0 : (nn == (0 : Int)) = false := by rw [beq_eq_false_iff_ne]; exact hz
  have fnn0 : (nn != (0 : Int)) = true := by rw [bne, enn0]; rfl
  clear habc hsb hall h hs hg hu1 hnm ev hin hb hs2 he hf
  go_enter Tryz.func91, Tryz.ntmps91
  go_wp2_with fail
  refine (HCF.out _ HU2.out).mono ?_
  rintro e w5 ⟨rfl, hu5⟩
  have HU5 := Lib.hid (HU2.out.trans_ext hu5)
  have hb5 := hu5.at HBO.out (by simp)
  have hf5 := hu5.at HBF.out (by simp)
  have z0 := cell_of hb5 0
  have z1 := cell_of hb5 1
  have z2 := cell_of hb5 2
  have z3 := cell_of hb5 3
  have z4 := cell_of hb5 4
  have z5 := cell_of hb5 5
  have x3 := cell_of hf5 3
  simp only [List.getElem?_toArray, List.getElem?_cons_zero, List.getElem?_cons_succ] at z0 z1 z2 z3 z4 z5 x3
  clear hu5 hb5 hf5 y0 y1 y2 y3 y4 y5 t0 t1 t2 t3
  go_wp2_with fail
  go_ret
  exact ⟨rfl, HU5.out⟩

set_option maxRecDepth 100000 in
set_option maxHeartbeats 6400000 in
theorem has_hc (k : Nat) (so mm : Int) (nms : List (List UInt8)) (l : List Nd) (hin : inN 10000000 (.mk (k : Int) nms so 0 mm l)) (v : Value) (w : World) (P : Nat → Prop) (h : NdV w P (.mk (k : Int) nms so 0 mm l) v) (he : Env w) (hf : FEnv w) (hk0 : (0 : Int) ≤ (k : Int)) (hk1 : ((k : Int) : Int) ≤ 17) (hsb : shapeBad (k : Int) nms.length l.length = false) (hall : nms.all identF = true) (o7 : (k : Int) ≠ 7) (o8 : (k : Int) ≠ 8) (o16 : ¬ k < 16) (hz : mm ≠ 0) : Calls Tryz.prog 91 #[v] w fun e w' => e = .returned (.bool false) ∧ Upto [] w w' := by
  obtain ⟨a1, c1, a2, c2, rfl, hs, hg⟩ := h.open
  unfold inN at hin
  obtain ⟨a1', c1', ev, hnm⟩ := hs.get
  obtain ⟨rfl, rfl⟩ : a1 = a1' ∧ c1 = c1' := by simpa using ev
  have hu1 : Upto [] w (w.alloc (.cells #[.int .i64 (k : Int), .slice a1 nms.length c1, .int .i64 so, .int .i64 0, .int .i64 mm, .slice a2 l.length c2] 30)) := (Upto.refl [] w).alloc _
  have hll := hin.2.2.1
  have hnl := hin.1
  have HCF := Lib.hid (fun u (hu : Upto [] w u) => containsf_calls nms a1 c1 u (he.ext hu) hnl hin.2.1 (fun i x hi => by
    obtain ⟨g, o, e1, e2⟩ := hnm i _ (by rw [List.getElem?_map, hi]; rfl)
    exact ⟨g, o, e1, (hu.cell (p := ⟨g, o + i, none⟩) (World.block_lt_of_cell? w _ e2) (by simp)).trans e2⟩))
  have hL0 : (0 : Int) ≤ l.length := by omega
  have hL1 : (l.length : Int) ≤ 10000000 := by omega
  have hN0 : (0 : Int) ≤ nms.length := by omega
  have hN1 : (nms.length : Int) ≤ 10000000 := by omega
  obtain ⟨a, b, c, habc, ha17, hb17, hc17⟩ : ∃ a b c : Nat, hasF (k : Int) = (a, b, c) ∧ a ≤ 17 ∧ b ≤ 17 ∧ c ≤ 17 := by
    unfold hasF
    repeat' split
    all_goals exact ⟨_, _, _, rfl, by decide, by decide, by decide⟩
  obtain ⟨t0, t1, t2, t3⟩ := (hf.ext hu1).at_ k (by omega)
  try simp only [Nat.reduceMul, Nat.reduceAdd] at t0 t1 t2 t3
  rw [show hasF (k : Nat) = (a, b, c) from habc] at t0 t1 t2
  simp only at t0 t1 t2
  have ha0 : (0 : Int) ≤ a := by omega
  have hb0 : (0 : Int) ≤ b := by omega
  have hc0 : (0 : Int) ≤ c := by omega
  have ha1 : (a : Int) ≤ 17 := by omega
  have hb1 : (b : Int) ≤ 17 := by omega
  have hc1 : (c : Int) ≤ 17 := by omega
  obtain ⟨hs0, hs1, hs2⟩ : ¬ nms.length < a ∧ ¬ b < nms.length ∧ l.length = c := by
    unfold shapeBad at hsb
    rw [habc] at hsb
    simp at hsb
    omega
  have q0 : ¬ (nms.length : Int) < a := by omega
  have q1 : ¬ (b : Int) < nms.length := by omega
  have q2 : ((l.length : Int) == (c : Int)) = true := by rw [hs2, beq_iff_eq]
  have q2b : ((l.length : Int) != (c : Int)) = false := by rw [bne, q2]; rfl
  have HB1 := Lib.hid (new_at w (.cells #[.int .i64 (k : Int), .slice a1 nms.length c1, .int .i64 so, .int .i64 0, .int .i64 mm, .slice a2 l.length c2] 30))
  have HU1 := Lib.hid hu1
  have hb := new_at w (.cells #[.int .i64 (k : Int), .slice a1 nms.length c1, .int .i64 so, .int .i64 0, .int .i64 mm, .slice a2 l.length c2] 30)
  obtain ⟨y0, y1, y2, y3, y4, y5⟩ := cells6 hb
  rw [show decide (16 ≤ k) = true from decide_eq_true (by omega)] at t3
  rw [hall] at HCF
  have HBF := Lib.hid (new_at1 w (.cells #[.int .i64 (k : Int), .slice a1 nms.length c1, .int .i64 so, .int .i64 0, .int .i64 mm, .slice a2 l.length c2] 30) (.cells #[.int .i64 a, .int .i64 b, .int .i64 c, .bool true] 136))
  have HU2 : Hid (Upto [] w ((w.alloc (.cells #[.int .i64 (k : Int), .slice a1 nms.length c1, .int .i64 so, .int .i64 0, .int .i64 mm, .slice a2 l.length c2] 30)).alloc (.cells #[.int .i64 a, .int .i64 b, .int .i64 c, .bool true] 136))) := Lib.hid (hu1.alloc _)
  have HBO := Lib.hid (alloc_old hb (.cells #[.int .i64 a, .int .i64 b, .int .i64 c, .bool true] 136))
  have e7 : ((k : Int) == (7 : Int)) = false := by rw [beq_eq_false_iff_ne]; exact o7
  have f7 : ((k : Int) != (7 : Int)) = true := by rw [bne, e7]; rfl
  have e8 : ((k : Int) == (8 : Int)) = false := by rw [beq_eq_false_iff_ne]; exact o8
  have f8 : ((k : Int) != (8 : Int)) = true := by rw [bne, e8]; rfl
  have emm0 : (mm == (0 : Int)) = false := by rw [beq_eq_false_iff_ne]; exact hz
  have fmm0 : (mm != (0 : Int)) = true := by rw [bne, emm0]; rfl
  clear habc hsb hall h hs hg hu1 hnm ev hin hb hs2 he hf
  go_enter Tryz.func91, Tryz.ntmps91
  go_wp2_with fail
  refine (HCF.out _ HU2.out).mono ?_
  rintro e w5 ⟨rfl, hu5⟩
  have HU5 := Lib.hid (HU2.out.trans_ext hu5)
  have hb5 := hu5.at HBO.out (by simp)
  have hf5 := hu5.at HBF.out (by simp)
  have z0 := cell_of hb5 0
  have z1 := cell_of hb5 1
  have z2 := cell_of hb5 2
  have z3 := cell_of hb5 3
  have z4 := cell_of hb5 4
  have z5 := cell_of hb5 5
  have x3 := cell_of hf5 3
  simp only [List.getElem?_toArray, List.getElem?_cons_zero, List.getElem?_cons_succ] at z0 z1 z2 z3 z4 z5 x3
  clear hu5 hb5 hf5 y0 y1 y2 y3 y4 y5 t0 t1 t2 t3
  go_wp2_with fail
  go_ret
  exact ⟨rfl, HU5.out⟩

set_option maxRecDepth 100000 in
set_option maxHeartbeats 6400000 in
theorem has_hg (k : Nat) (so : Int) (nms : List (List UInt8)) (l : List Nd) (hin : inN 10000000 (.mk (k : Int) nms so 0 0 l)) (v : Value) (w : World) (P : Nat → Prop) (h : NdV w P (.mk (k : Int) nms so 0 0 l) v) (he : Env w) (hf : FEnv w) (hk0 : (0 : Int) ≤ (k : Int)) (hk1 : ((k : Int) : Int) ≤ 17) (hsb : shapeBad (k : Int) nms.length l.length = false) (hall : nms.all identF = true) (o7 : (k : Int) ≠ 7) (o8 : (k : Int) ≠ 8) (o16 : ¬ k < 16) : Calls Tryz.prog 91 #[v] w fun e w' => e = .returned (.bool true) ∧ Upto [] w w' := by
  obtain ⟨a1, c1, a2, c2, rfl, hs, hg⟩ := h.open
  unfold inN at hin
  obtain ⟨a1', c1', ev, hnm⟩ := hs.get
  obtain ⟨rfl, rfl⟩ : a1 = a1' ∧ c1 = c1' := by simpa using ev
  have hu1 : Upto [] w (w.alloc (.cells #[.int .i64 (k : Int), .slice a1 nms.length c1, .int .i64 so, .int .i64 0, .int .i64 0, .slice a2 l.length c2] 30)) := (Upto.refl [] w).alloc _
  have hll := hin.2.2.1
  have hnl := hin.1
  have HCF := Lib.hid (fun u (hu : Upto [] w u) => containsf_calls nms a1 c1 u (he.ext hu) hnl hin.2.1 (fun i x hi => by
    obtain ⟨g, o, e1, e2⟩ := hnm i _ (by rw [List.getElem?_map, hi]; rfl)
    exact ⟨g, o, e1, (hu.cell (p := ⟨g, o + i, none⟩) (World.block_lt_of_cell? w _ e2) (by simp)).trans e2⟩))
  have hL0 : (0 : Int) ≤ l.length := by omega
  have hL1 : (l.length : Int) ≤ 10000000 := by omega
  have hN0 : (0 : Int) ≤ nms.length := by omega
  have hN1 : (nms.length : Int) ≤ 10000000 := by omega
  obtain ⟨a, b, c, habc, ha17, hb17, hc17⟩ : ∃ a b c : Nat, hasF (k : Int) = (a, b, c) ∧ a ≤ 17 ∧ b ≤ 17 ∧ c ≤ 17 := by
    unfold hasF
    repeat' split
    all_goals exact ⟨_, _, _, rfl, by decide, by decide, by decide⟩
  obtain ⟨t0, t1, t2, t3⟩ := (hf.ext hu1).at_ k (by omega)
  try simp only [Nat.reduceMul, Nat.reduceAdd] at t0 t1 t2 t3
  rw [show hasF (k : Nat) = (a, b, c) from habc] at t0 t1 t2
  simp only at t0 t1 t2
  have ha0 : (0 : Int) ≤ a := by omega
  have hb0 : (0 : Int) ≤ b := by omega
  have hc0 : (0 : Int) ≤ c := by omega
  have ha1 : (a : Int) ≤ 17 := by omega
  have hb1 : (b : Int) ≤ 17 := by omega
  have hc1 : (c : Int) ≤ 17 := by omega
  obtain ⟨hs0, hs1, hs2⟩ : ¬ nms.length < a ∧ ¬ b < nms.length ∧ l.length = c := by
    unfold shapeBad at hsb
    rw [habc] at hsb
    simp at hsb
    omega
  have q0 : ¬ (nms.length : Int) < a := by omega
  have q1 : ¬ (b : Int) < nms.length := by omega
  have q2 : ((l.length : Int) == (c : Int)) = true := by rw [hs2, beq_iff_eq]
  have q2b : ((l.length : Int) != (c : Int)) = false := by rw [bne, q2]; rfl
  have HB1 := Lib.hid (new_at w (.cells #[.int .i64 (k : Int), .slice a1 nms.length c1, .int .i64 so, .int .i64 0, .int .i64 0, .slice a2 l.length c2] 30))
  have HU1 := Lib.hid hu1
  have hb := new_at w (.cells #[.int .i64 (k : Int), .slice a1 nms.length c1, .int .i64 so, .int .i64 0, .int .i64 0, .slice a2 l.length c2] 30)
  obtain ⟨y0, y1, y2, y3, y4, y5⟩ := cells6 hb
  rw [show decide (16 ≤ k) = true from decide_eq_true (by omega)] at t3
  rw [hall] at HCF
  have HBF := Lib.hid (new_at1 w (.cells #[.int .i64 (k : Int), .slice a1 nms.length c1, .int .i64 so, .int .i64 0, .int .i64 0, .slice a2 l.length c2] 30) (.cells #[.int .i64 a, .int .i64 b, .int .i64 c, .bool true] 136))
  have HU2 : Hid (Upto [] w ((w.alloc (.cells #[.int .i64 (k : Int), .slice a1 nms.length c1, .int .i64 so, .int .i64 0, .int .i64 0, .slice a2 l.length c2] 30)).alloc (.cells #[.int .i64 a, .int .i64 b, .int .i64 c, .bool true] 136))) := Lib.hid (hu1.alloc _)
  have HBO := Lib.hid (alloc_old hb (.cells #[.int .i64 a, .int .i64 b, .int .i64 c, .bool true] 136))
  have e7 : ((k : Int) == (7 : Int)) = false := by rw [beq_eq_false_iff_ne]; exact o7
  have f7 : ((k : Int) != (7 : Int)) = true := by rw [bne, e7]; rfl
  have e8 : ((k : Int) == (8 : Int)) = false := by rw [beq_eq_false_iff_ne]; exact o8
  have f8 : ((k : Int) != (8 : Int)) = true := by rw [bne, e8]; rfl
  clear habc hsb hall h hs hg hu1 hnm ev hin hb hs2 he hf
  go_enter Tryz.func91, Tryz.ntmps91
  go_wp2_with fail
  refine (HCF.out _ HU2.out).mono ?_
  rintro e w5 ⟨rfl, hu5⟩
  have HU5 := Lib.hid (HU2.out.trans_ext hu5)
  have hb5 := hu5.at HBO.out (by simp)
  have hf5 := hu5.at HBF.out (by simp)
  have z0 := cell_of hb5 0
  have z1 := cell_of hb5 1
  have z2 := cell_of hb5 2
  have z3 := cell_of hb5 3
  have z4 := cell_of hb5 4
  have z5 := cell_of hb5 5
  have x3 := cell_of hf5 3
  simp only [List.getElem?_toArray, List.getElem?_cons_zero, List.getElem?_cons_succ] at z0 z1 z2 z3 z4 z5 x3
  clear hu5 hb5 hf5 y0 y1 y2 y3 y4 y5 t0 t1 t2 t3
  go_wp2_with fail
  go_ret
  exact ⟨rfl, HU5.out⟩

end Go.Proofs.YtbnebkkpmcjmbaaGreatDoor


namespace Go.Proofs.YtbnebkkpmcjmbaaGreatDoor
open Go.RowKit Go.PL Go.Maps
set_option maxRecDepth 100000 in
set_option maxHeartbeats 6400000 in
theorem has_n (k : Nat) (so nn mm : Int) (nms : List (List UInt8)) (l : List Nd) (hin : inN 10000000 (.mk (k : Int) nms so nn mm l)) (v : Value) (w : World) (P : Nat → Prop) (h : NdV w P (.mk (k : Int) nms so nn mm l) v) (he : Env w) (hf : FEnv w) (hk0 : (0 : Int) ≤ (k : Int)) (hk1 : ((k : Int) : Int) ≤ 17) (hsb : shapeBad (k : Int) nms.length l.length = false) (hall : nms.all identF = false) : Calls Tryz.prog 91 #[v] w fun e w' => e = .returned (.bool false) ∧ Upto [] w w' := by
  obtain ⟨a1, c1, a2, c2, rfl, hs, hg⟩ := h.open
  unfold inN at hin
  obtain ⟨a1', c1', ev, hnm⟩ := hs.get
  obtain ⟨rfl, rfl⟩ : a1 = a1' ∧ c1 = c1' := by simpa using ev
  have hu1 : Upto [] w (w.alloc (.cells #[.int .i64 (k : Int), .slice a1 nms.length c1, .int .i64 so, .int .i64 nn, .int .i64 mm, .slice a2 l.length c2] 30)) := (Upto.refl [] w).alloc _
  have hll := hin.2.2.1
  have hnl := hin.1
  have HCF := Lib.hid (fun u (hu : Upto [] w u) => containsf_calls nms a1 c1 u (he.ext hu) hnl hin.2.1 (fun i x hi => by
    obtain ⟨g, o, e1, e2⟩ := hnm i _ (by rw [List.getElem?_map, hi]; rfl)
    exact ⟨g, o, e1, (hu.cell (p := ⟨g, o + i, none⟩) (World.block_lt_of_cell? w _ e2) (by simp)).trans e2⟩))
  have hL0 : (0 : Int) ≤ l.length := by omega
  have hL1 : (l.length : Int) ≤ 10000000 := by omega
  have hN0 : (0 : Int) ≤ nms.length := by omega
  have hN1 : (nms.length : Int) ≤ 10000000 := by omega
  obtain ⟨a, b, c, habc, ha17, hb17, hc17⟩ : ∃ a b c : Nat, hasF (k : Int) = (a, b, c) ∧ a ≤ 17 ∧ b ≤ 17 ∧ c ≤ 17 := by
    unfold hasF
    repeat' split
    all_goals exact ⟨_, _, _, rfl, by decide, by decide, by decide⟩
  obtain ⟨t0, t1, t2, t3⟩ := (hf.ext hu1).at_ k (by omega)
  try simp only [Nat.reduceMul, Nat.reduceAdd] at t0 t1 t2 t3
  rw [show hasF (k : Nat) = (a, b, c) from habc] at t0 t1 t2
  simp only at t0 t1 t2
  have ha0 : (0 : Int) ≤ a := by omega
  have hb0 : (0 : Int) ≤ b := by omega
  have hc0 : (0 : Int) ≤ c := by omega
  have ha1 : (a : Int) ≤ 17 := by omega
  have hb1 : (b : Int) ≤ 17 := by omega
  have hc1 : (c : Int) ≤ 17 := by omega
  obtain ⟨hs0, hs1, hs2⟩ : ¬ nms.length < a ∧ ¬ b < nms.length ∧ l.length = c := by
    unfold shapeBad at hsb
    rw [habc] at hsb
    simp at hsb
    omega
  have q0 : ¬ (nms.length : Int) < a := by omega
  have q1 : ¬ (b : Int) < nms.length := by omega
  have q2 : ((l.length : Int) == (c : Int)) = true := by rw [hs2, beq_iff_eq]
  have q2b : ((l.length : Int) != (c : Int)) = false := by rw [bne, q2]; rfl
  have HB1 := Lib.hid (new_at w (.cells #[.int .i64 (k : Int), .slice a1 nms.length c1, .int .i64 so, .int .i64 nn, .int .i64 mm, .slice a2 l.length c2] 30))
  have HU1 := Lib.hid hu1
  have hb := new_at w (.cells #[.int .i64 (k : Int), .slice a1 nms.length c1, .int .i64 so, .int .i64 nn, .int .i64 mm, .slice a2 l.length c2] 30)
  obtain ⟨y0, y1, y2, y3, y4, y5⟩ := cells6 hb
  rw [hall] at HCF
  have HBF := Lib.hid (new_at1 w (.cells #[.int .i64 (k : Int), .slice a1 nms.length c1, .int .i64 so, .int .i64 nn, .int .i64 mm, .slice a2 l.length c2] 30) (.cells #[.int .i64 a, .int .i64 b, .int .i64 c, .bool (decide (16 ≤ k))] 136))
  have HU2 : Hid (Upto [] w ((w.alloc (.cells #[.int .i64 (k : Int), .slice a1 nms.length c1, .int .i64 so, .int .i64 nn, .int .i64 mm, .slice a2 l.length c2] 30)).alloc (.cells #[.int .i64 a, .int .i64 b, .int .i64 c, .bool (decide (16 ≤ k))] 136))) := Lib.hid (hu1.alloc _)
  have HBO := Lib.hid (alloc_old hb (.cells #[.int .i64 a, .int .i64 b, .int .i64 c, .bool (decide (16 ≤ k))] 136))

  clear habc hsb hall h hs hg hu1 hnm ev hin hb hs2 he hf
  go_enter Tryz.func91, Tryz.ntmps91
  go_wp2_with fail
  refine (HCF.out _ HU2.out).mono ?_
  rintro e w5 ⟨rfl, hu5⟩
  have HU5 := Lib.hid (HU2.out.trans_ext hu5)
  have hb5 := hu5.at HBO.out (by simp)
  have hf5 := hu5.at HBF.out (by simp)
  clear hu5 hb5 hf5 y0 y1 y2 y3 y4 y5 t0 t1 t2 t3
  go_wp2_with fail
  go_ret
  exact ⟨rfl, HU5.out⟩

set_option maxRecDepth 100000 in
set_option maxHeartbeats 6400000 in
theorem has_s1 (k : Nat) (so nn mm : Int) (nms : List (List UInt8)) (l : List Nd) (hin : inN 10000000 (.mk (k : Int) nms so nn mm l)) (v : Value) (w : World) (P : Nat → Prop) (h : NdV w P (.mk (k : Int) nms so nn mm l) v) (he : Env w) (hf : FEnv w) (hk0 : (0 : Int) ≤ (k : Int)) (hk1 : ((k : Int) : Int) ≤ 17) (hsb : shapeBad (k : Int) nms.length l.length = true) (hs0 : nms.length < (hasF (k : Int)).1) : Calls Tryz.prog 91 #[v] w fun e w' => e = .returned (.bool false) ∧ Upto [] w w' := by
  obtain ⟨a1, c1, a2, c2, rfl, hs, hg⟩ := h.open
  unfold inN at hin
  obtain ⟨a1', c1', ev, hnm⟩ := hs.get
  obtain ⟨rfl, rfl⟩ : a1 = a1' ∧ c1 = c1' := by simpa using ev
  have hu1 : Upto [] w (w.alloc (.cells #[.int .i64 (k : Int), .slice a1 nms.length c1, .int .i64 so, .int .i64 nn, .int .i64 mm, .slice a2 l.length c2] 30)) := (Upto.refl [] w).alloc _
  have hll := hin.2.2.1
  have hnl := hin.1
  have HCF := Lib.hid (fun u (hu : Upto [] w u) => containsf_calls nms a1 c1 u (he.ext hu) hnl hin.2.1 (fun i x hi => by
    obtain ⟨g, o, e1, e2⟩ := hnm i _ (by rw [List.getElem?_map, hi]; rfl)
    exact ⟨g, o, e1, (hu.cell (p := ⟨g, o + i, none⟩) (World.block_lt_of_cell? w _ e2) (by simp)).trans e2⟩))
  have hL0 : (0 : Int) ≤ l.length := by omega
  have hL1 : (l.length : Int) ≤ 10000000 := by omega
  have hN0 : (0 : Int) ≤ nms.length := by omega
  have hN1 : (nms.length : Int) ≤ 10000000 := by omega
  obtain ⟨a, b, c, habc, ha17, hb17, hc17⟩ : ∃ a b c : Nat, hasF (k : Int) = (a, b, c) ∧ a ≤ 17 ∧ b ≤ 17 ∧ c ≤ 17 := by
    unfold hasF
    repeat' split
    all_goals exact ⟨_, _, _, rfl, by decide, by decide, by decide⟩
  obtain ⟨t0, t1, t2, t3⟩ := (hf.ext hu1).at_ k (by omega)
  try simp only [Nat.reduceMul, Nat.reduceAdd] at t0 t1 t2 t3
  rw [show hasF (k : Nat) = (a, b, c) from habc] at t0 t1 t2
  simp only at t0 t1 t2
  have ha0 : (0 : Int) ≤ a := by omega
  have hb0 : (0 : Int) ≤ b := by omega
  have hc0 : (0 : Int) ≤ c := by omega
  have ha1 : (a : Int) ≤ 17 := by omega
  have hb1 : (b : Int) ≤ 17 := by omega
  have hc1 : (c : Int) ≤ 17 := by omega
  rw [habc] at hs0
  simp only at hs0
  have q0 : (nms.length : Int) < a := by omega
  have HB1 := Lib.hid (new_at w (.cells #[.int .i64 (k : Int), .slice a1 nms.length c1, .int .i64 so, .int .i64 nn, .int .i64 mm, .slice a2 l.length c2] 30))
  have HU1 := Lib.hid hu1
  have hb := new_at w (.cells #[.int .i64 (k : Int), .slice a1 nms.length c1, .int .i64 so, .int .i64 nn, .int .i64 mm, .slice a2 l.length c2] 30)
  obtain ⟨y0, y1, y2, y3, y4, y5⟩ := cells6 hb
  have HBF := Lib.hid (new_at1 w (.cells #[.int .i64 (k : Int), .slice a1 nms.length c1, .int .i64 so, .int .i64 nn, .int .i64 mm, .slice a2 l.length c2] 30) (.cells #[.int .i64 a, .int .i64 b, .int .i64 c, .bool (decide (16 ≤ k))] 136))
  have HU2 : Hid (Upto [] w ((w.alloc (.cells #[.int .i64 (k : Int), .slice a1 nms.length c1, .int .i64 so, .int .i64 nn, .int .i64 mm, .slice a2 l.length c2] 30)).alloc (.cells #[.int .i64 a, .int .i64 b, .int .i64 c, .bool (decide (16 ≤ k))] 136))) := Lib.hid (hu1.alloc _)
  have HBO := Lib.hid (alloc_old hb (.cells #[.int .i64 a, .int .i64 b, .int .i64 c, .bool (decide (16 ≤ k))] 136))

  clear habc hsb h hs hg hu1 hnm ev hin hb he hf
  go_enter Tryz.func91, Tryz.ntmps91
  go_wp2_with fail
  go_ret
  exact ⟨rfl, HU2.out⟩
set_option maxRecDepth 100000 in
set_option maxHeartbeats 6400000 in
theorem has_s2 (k : Nat) (so nn mm : Int) (nms : List (List UInt8)) (l : List Nd) (hin : inN 10000000 (.mk (k : Int) nms so nn mm l)) (v : Value) (w : World) (P : Nat → Prop) (h : NdV w P (.mk (k : Int) nms so nn mm l) v) (he : Env w) (hf : FEnv w) (hk0 : (0 : Int) ≤ (k : Int)) (hk1 : ((k : Int) : Int) ≤ 17) (hsb : shapeBad (k : Int) nms.length l.length = true) (hs0 : ¬ nms.length < (hasF (k : Int)).1) (hs1 : (hasF (k : Int)).2.1 < nms.length) : Calls Tryz.prog 91 #[v] w fun e w' => e = .returned (.bool false) ∧ Upto [] w w' := by
  obtain ⟨a1, c1, a2, c2, rfl, hs, hg⟩ := h.open
  unfold inN at hin
  obtain ⟨a1', c1', ev, hnm⟩ := hs.get
  obtain ⟨rfl, rfl⟩ : a1 = a1' ∧ c1 = c1' := by simpa using ev
  have hu1 : Upto [] w (w.alloc (.cells #[.int .i64 (k : Int), .slice a1 nms.length c1, .int .i64 so, .int .i64 nn, .int .i64 mm, .slice a2 l.length c2] 30)) := (Upto.refl [] w).alloc _
  have hll := hin.2.2.1
  have hnl := hin.1
  have HCF := Lib.hid (fun u (hu : Upto [] w u) => containsf_calls nms a1 c1 u (he.ext hu) hnl hin.2.1 (fun i x hi => by
    obtain ⟨g, o, e1, e2⟩ := hnm i _ (by rw [List.getElem?_map, hi]; rfl)
    exact ⟨g, o, e1, (hu.cell (p := ⟨g, o + i, none⟩) (World.block_lt_of_cell? w _ e2) (by simp)).trans e2⟩))
  have hL0 : (0 : Int) ≤ l.length := by omega
  have hL1 : (l.length : Int) ≤ 10000000 := by omega
  have hN0 : (0 : Int) ≤ nms.length := by omega
  have hN1 : (nms.length : Int) ≤ 10000000 := by omega
  obtain ⟨a, b, c, habc, ha17, hb17, hc17⟩ : ∃ a b c : Nat, hasF (k : Int) = (a, b, c) ∧ a ≤ 17 ∧ b ≤ 17 ∧ c ≤ 17 := by
    unfold hasF
    repeat' split
    all_goals exact ⟨_, _, _, rfl, by decide, by decide, by decide⟩
  obtain ⟨t0, t1, t2, t3⟩ := (hf.ext hu1).at_ k (by omega)
  try simp only [Nat.reduceMul, Nat.reduceAdd] at t0 t1 t2 t3
  rw [show hasF (k : Nat) = (a, b, c) from habc] at t0 t1 t2
  simp only at t0 t1 t2
  have ha0 : (0 : Int) ≤ a := by omega
  have hb0 : (0 : Int) ≤ b := by omega
  have hc0 : (0 : Int) ≤ c := by omega
  have ha1 : (a : Int) ≤ 17 := by omega
  have hb1 : (b : Int) ≤ 17 := by omega
  have hc1 : (c : Int) ≤ 17 := by omega
  rw [habc] at hs0 hs1
  simp only at hs0 hs1
  have q0 : ¬ (nms.length : Int) < a := by omega
  have q1 : (b : Int) < nms.length := by omega
  have HB1 := Lib.hid (new_at w (.cells #[.int .i64 (k : Int), .slice a1 nms.length c1, .int .i64 so, .int .i64 nn, .int .i64 mm, .slice a2 l.length c2] 30))
  have HU1 := Lib.hid hu1
  have hb := new_at w (.cells #[.int .i64 (k : Int), .slice a1 nms.length c1, .int .i64 so, .int .i64 nn, .int .i64 mm, .slice a2 l.length c2] 30)
  obtain ⟨y0, y1, y2, y3, y4, y5⟩ := cells6 hb
  have HBF := Lib.hid (new_at1 w (.cells #[.int .i64 (k : Int), .slice a1 nms.length c1, .int .i64 so, .int .i64 nn, .int .i64 mm, .slice a2 l.length c2] 30) (.cells #[.int .i64 a, .int .i64 b, .int .i64 c, .bool (decide (16 ≤ k))] 136))
  have HU2 : Hid (Upto [] w ((w.alloc (.cells #[.int .i64 (k : Int), .slice a1 nms.length c1, .int .i64 so, .int .i64 nn, .int .i64 mm, .slice a2 l.length c2] 30)).alloc (.cells #[.int .i64 a, .int .i64 b, .int .i64 c, .bool (decide (16 ≤ k))] 136))) := Lib.hid (hu1.alloc _)
  have HBO := Lib.hid (alloc_old hb (.cells #[.int .i64 a, .int .i64 b, .int .i64 c, .bool (decide (16 ≤ k))] 136))

  clear habc hsb h hs hg hu1 hnm ev hin hb he hf
  go_enter Tryz.func91, Tryz.ntmps91
  go_wp2_with fail
  go_ret
  exact ⟨rfl, HU2.out⟩
set_option maxRecDepth 100000 in
set_option maxHeartbeats 6400000 in
theorem has_s3 (k : Nat) (so nn mm : Int) (nms : List (List UInt8)) (l : List Nd) (hin : inN 10000000 (.mk (k : Int) nms so nn mm l)) (v : Value) (w : World) (P : Nat → Prop) (h : NdV w P (.mk (k : Int) nms so nn mm l) v) (he : Env w) (hf : FEnv w) (hk0 : (0 : Int) ≤ (k : Int)) (hk1 : ((k : Int) : Int) ≤ 17) (hsb : shapeBad (k : Int) nms.length l.length = true) (hs0 : ¬ nms.length < (hasF (k : Int)).1) (hs1 : ¬ (hasF (k : Int)).2.1 < nms.length) (hs3 : l.length ≠ (hasF (k : Int)).2.2) : Calls Tryz.prog 91 #[v] w fun e w' => e = .returned (.bool false) ∧ Upto [] w w' := by
  obtain ⟨a1, c1, a2, c2, rfl, hs, hg⟩ := h.open
  unfold inN at hin
  obtain ⟨a1', c1', ev, hnm⟩ := hs.get
  obtain ⟨rfl, rfl⟩ : a1 = a1' ∧ c1 = c1' := by simpa using ev
  have hu1 : Upto [] w (w.alloc (.cells #[.int .i64 (k : Int), .slice a1 nms.length c1, .int .i64 so, .int .i64 nn, .int .i64 mm, .slice a2 l.length c2] 30)) := (Upto.refl [] w).alloc _
  have hll := hin.2.2.1
  have hnl := hin.1
  have HCF := Lib.hid (fun u (hu : Upto [] w u) => containsf_calls nms a1 c1 u (he.ext hu) hnl hin.2.1 (fun i x hi => by
    obtain ⟨g, o, e1, e2⟩ := hnm i _ (by rw [List.getElem?_map, hi]; rfl)
    exact ⟨g, o, e1, (hu.cell (p := ⟨g, o + i, none⟩) (World.block_lt_of_cell? w _ e2) (by simp)).trans e2⟩))
  have hL0 : (0 : Int) ≤ l.length := by omega
  have hL1 : (l.length : Int) ≤ 10000000 := by omega
  have hN0 : (0 : Int) ≤ nms.length := by omega
  have hN1 : (nms.length : Int) ≤ 10000000 := by omega
  obtain ⟨a, b, c, habc, ha17, hb17, hc17⟩ : ∃ a b c : Nat, hasF (k : Int) = (a, b, c) ∧ a ≤ 17 ∧ b ≤ 17 ∧ c ≤ 17 := by
    unfold hasF
    repeat' split
    all_goals exact ⟨_, _, _, rfl, by decide, by decide, by decide⟩
  obtain ⟨t0, t1, t2, t3⟩ := (hf.ext hu1).at_ k (by omega)
  try simp only [Nat.reduceMul, Nat.reduceAdd] at t0 t1 t2 t3
  rw [show hasF (k : Nat) = (a, b, c) from habc] at t0 t1 t2
  simp only at t0 t1 t2
  have ha0 : (0 : Int) ≤ a := by omega
  have hb0 : (0 : Int) ≤ b := by omega
  have hc0 : (0 : Int) ≤ c := by omega
  have ha1 : (a : Int) ≤ 17 := by omega
  have hb1 : (b : Int) ≤ 17 := by omega
  have hc1 : (c : Int) ≤ 17 := by omega
  rw [habc] at hs0 hs1 hs3
  simp only at hs0 hs1 hs3
  have q0 : ¬ (nms.length : Int) < a := by omega
  have q1 : ¬ (b : Int) < nms.length := by omega
  have q2 : ((l.length : Int) == (c : Int)) = false := by rw [beq_eq_false_iff_ne]; omega
  have q2b : ((l.length : Int) != (c : Int)) = true := by rw [bne, q2]; rfl
  have HB1 := Lib.hid (new_at w (.cells #[.int .i64 (k : Int), .slice a1 nms.length c1, .int .i64 so, .int .i64 nn, .int .i64 mm, .slice a2 l.length c2] 30))
  have HU1 := Lib.hid hu1
  have hb := new_at w (.cells #[.int .i64 (k : Int), .slice a1 nms.length c1, .int .i64 so, .int .i64 nn, .int .i64 mm, .slice a2 l.length c2] 30)
  obtain ⟨y0, y1, y2, y3, y4, y5⟩ := cells6 hb
  have HBF := Lib.hid (new_at1 w (.cells #[.int .i64 (k : Int), .slice a1 nms.length c1, .int .i64 so, .int .i64 nn, .int .i64 mm, .slice a2 l.length c2] 30) (.cells #[.int .i64 a, .int .i64 b, .int .i64 c, .bool (decide (16 ≤ k))] 136))
  have HU2 : Hid (Upto [] w ((w.alloc (.cells #[.int .i64 (k : Int), .slice a1 nms.length c1, .int .i64 so, .int .i64 nn, .int .i64 mm, .slice a2 l.length c2] 30)).alloc (.cells #[.int .i64 a, .int .i64 b, .int .i64 c, .bool (decide (16 ≤ k))] 136))) := Lib.hid (hu1.alloc _)
  have HBO := Lib.hid (alloc_old hb (.cells #[.int .i64 a, .int .i64 b, .int .i64 c, .bool (decide (16 ≤ k))] 136))

  clear habc hsb h hs hg hu1 hnm ev hin hb he hf
  go_enter Tryz.func91, Tryz.ntmps91
  go_wp2_with fail
  go_ret
  exact ⟨rfl, HU2.out⟩
end Go.Proofs.YtbnebkkpmcjmbaaGreatDoor


namespace Go.Proofs.YtbnebkkpmcjmbaaGreatDoor
open Go.RowKit Go.PL Go.Maps
theorem hasf_calls (op so nn mm : Int) (nms : List (List UInt8)) (l : List Nd) (hin : inN 10000000 (.mk op nms so nn mm l)) (v : Value) (w : World) (P : Nat → Prop) (h : NdV w P (.mk op nms so nn mm l) v) (he : Env w) (hf : FEnv w) (hk0 : (0 : Int) ≤ op) (hk1 : op ≤ 17) :
    Calls Tryz.prog 91 #[v] w fun e w' => e = .returned (.bool (!shapeBad op nms.length l.length && nms.all identF && !zeroBad op so nn mm)) ∧ Upto [] w w' := by
  obtain ⟨k, rfl⟩ := Int.eq_ofNat_of_zero_le hk0
  cases hs : shapeBad (k : Int) nms.length l.length with
  | true =>
    rw [show (!true && nms.all identF && !zeroBad (k : Int) so nn mm) = false from rfl]
    by_cases s1 : nms.length < (hasF (k : Int)).1
    · exact has_s1 k so nn mm nms l hin v w P h he hf hk0 hk1 hs s1
    by_cases s2 : (hasF (k : Int)).2.1 < nms.length
    · exact has_s2 k so nn mm nms l hin v w P h he hf hk0 hk1 hs s1 s2
    refine has_s3 k so nn mm nms l hin v w P h he hf hk0 hk1 hs s1 s2 ?_
    intro s3
    unfold shapeBad at hs
    simp at hs
    omega
  | false =>
    cases ha : nms.all identF with
    | false => exact has_n k so nn mm nms l hin v w P h he hf hk0 hk1 hs ha
    | true =>
      have T : zeroBad (k : Int) so nn mm = true → (!false && true && !zeroBad (k : Int) so nn mm) = false := fun h => by rw [h]; rfl
      have G : zeroBad (k : Int) so nn mm = false → (!false && true && !zeroBad (k : Int) so nn mm) = true := fun h => by rw [h]; rfl
      by_cases c7 : k = 7
      · subst c7
        by_cases t1 : so ≠ 0
        · rw [T (by simp [zeroBad, *])]; exact has_7a so nn mm nms l hin v w P h he hf hk0 hk1 hs ha t1
        obtain rfl : so = 0 := Decidable.not_not.1 t1
        by_cases t2 : mm ≠ 0
        · rw [T (by simp [zeroBad, *])]; exact has_7b nn mm nms l hin v w P h he hf hk0 hk1 hs ha t2
        obtain rfl : mm = 0 := Decidable.not_not.1 t2
        rw [G (by simp [zeroBad])]; exact has_7g nn nms l hin v w P h he hf hk0 hk1 hs ha
      by_cases c8 : k = 8
      · subst c8
        by_cases t1 : so ≠ 0
        · rw [T (by simp [zeroBad, *])]; exact has_8a so nn mm nms l hin v w P h he hf hk0 hk1 hs ha t1
        obtain rfl : so = 0 := Decidable.not_not.1 t1
        rw [G (by simp [zeroBad])]; exact has_8g nn mm nms l hin v w P h he hf hk0 hk1 hs ha
      have o7 : (k : Int) ≠ 7 := by omega
      have o8 : (k : Int) ≠ 8 := by omega
      by_cases c16 : k < 16
      · have c16' : (k : Int) < 16 := by omega
        by_cases t1 : so ≠ 0
        · rw [T (by simp [zeroBad, *])]; exact has_oa k so nn mm nms l hin v w P h he hf hk0 hk1 hs ha o7 o8 c16 t1
        obtain rfl : so = 0 := Decidable.not_not.1 t1
        by_cases t2 : nn ≠ 0
        · rw [T (by simp [zeroBad, *])]; exact has_ob k nn mm nms l hin v w P h he hf hk0 hk1 hs ha o7 o8 c16 t2
        obtain rfl : nn = 0 := Decidable.not_not.1 t2
        by_cases t3 : mm ≠ 0
        · rw [T (by simp [zeroBad, *])]; exact has_oc k mm nms l hin v w P h he hf hk0 hk1 hs ha o7 o8 c16 t3
        obtain rfl : mm = 0 := Decidable.not_not.1 t3
        rw [G (by simp [zeroBad])]; exact has_og k nms l hin v w P h he hf hk0 hk1 hs ha o7 o8 c16
      have c16' : ¬ (k : Int) < 16 := by omega
      by_cases t2 : nn ≠ 0
      · rw [T (by simp [zeroBad, *])]; exact has_hb k so nn mm nms l hin v w P h he hf hk0 hk1 hs ha o7 o8 c16 t2
      obtain rfl : nn = 0 := Decidable.not_not.1 t2
      by_cases t3 : mm ≠ 0
      · rw [T (by simp [zeroBad, *])]; exact has_hc k so mm nms l hin v w P h he hf hk0 hk1 hs ha o7 o8 c16 t3
      obtain rfl : mm = 0 := Decidable.not_not.1 t3
      rw [G (by simp [zeroBad, *])]; exact has_hg k so nms l hin v w P h he hf hk0 hk1 hs ha o7 o8 c16
end Go.Proofs.YtbnebkkpmcjmbaaGreatDoor


namespace Go.Proofs.YtbnebkkpmcjmbaaGreatDoor
open Go.RowKit Go.PL Go.Maps
set_option maxRecDepth 100000 in
set_option maxHeartbeats 1600000 in
theorem rg_7a (so nn mm : Int) (a1 a2 : Option Addr) (n1 n2 c1 c2 : Nat) (w : World) (h : nn < 0) : Calls Tryz.prog 92 #[.agg #[.int .i64 7, .slice a1 n1 c1, .int .i64 so, .int .i64 nn, .int .i64 mm, .slice a2 n2 c2]] w fun e w' => e = .returned (.bool false) ∧ Upto [] w w' := by
  have hu : Upto [] w (w.alloc (.cells #[.int .i64 7, .slice a1 n1 c1, .int .i64 so, .int .i64 nn, .int .i64 mm, .slice a2 n2 c2] 30)) := (Upto.refl [] w).alloc _
  have hb := new_at w (.cells #[.int .i64 7, .slice a1 n1 c1, .int .i64 so, .int .i64 nn, .int .i64 mm, .slice a2 n2 c2] 30)
  obtain ⟨y0, y1, y2, y3, y4, y5⟩ := cells6 hb
  have HU := Lib.hid hu
  clear hb hu
  have q : ¬ (0 : Int) ≤ nn := by omega
  go_enter Tryz.func92, Tryz.ntmps92
  go_wp2_with fail
  go_ret
  exact ⟨rfl, HU.out⟩
set_option maxRecDepth 100000 in
set_option maxHeartbeats 1600000 in
theorem rg_7b (so nn mm : Int) (a1 a2 : Option Addr) (n1 n2 c1 c2 : Nat) (w : World) (h : (0 : Int) ≤ nn) (h2 : 7 < nn) : Calls Tryz.prog 92 #[.agg #[.int .i64 7, .slice a1 n1 c1, .int .i64 so, .int .i64 nn, .int .i64 mm, .slice a2 n2 c2]] w fun e w' => e = .returned (.bool false) ∧ Upto [] w w' := by
  have hu : Upto [] w (w.alloc (.cells #[.int .i64 7, .slice a1 n1 c1, .int .i64 so, .int .i64 nn, .int .i64 mm, .slice a2 n2 c2] 30)) := (Upto.refl [] w).alloc _
  have hb := new_at w (.cells #[.int .i64 7, .slice a1 n1 c1, .int .i64 so, .int .i64 nn, .int .i64 mm, .slice a2 n2 c2] 30)
  obtain ⟨y0, y1, y2, y3, y4, y5⟩ := cells6 hb
  have HU := Lib.hid hu
  clear hb hu
  have q : ¬ nn ≤ (7 : Int) := by omega
  go_enter Tryz.func92, Tryz.ntmps92
  go_wp2_with fail
  go_ret
  exact ⟨rfl, HU.out⟩
set_option maxRecDepth 100000 in
set_option maxHeartbeats 1600000 in
theorem rg_7g (so nn mm : Int) (a1 a2 : Option Addr) (n1 n2 c1 c2 : Nat) (w : World) (h : (0 : Int) ≤ nn) (h2 : nn ≤ 7) : Calls Tryz.prog 92 #[.agg #[.int .i64 7, .slice a1 n1 c1, .int .i64 so, .int .i64 nn, .int .i64 mm, .slice a2 n2 c2]] w fun e w' => e = .returned (.bool true) ∧ Upto [] w w' := by
  have hu : Upto [] w (w.alloc (.cells #[.int .i64 7, .slice a1 n1 c1, .int .i64 so, .int .i64 nn, .int .i64 mm, .slice a2 n2 c2] 30)) := (Upto.refl [] w).alloc _
  have hb := new_at w (.cells #[.int .i64 7, .slice a1 n1 c1, .int .i64 so, .int .i64 nn, .int .i64 mm, .slice a2 n2 c2] 30)
  obtain ⟨y0, y1, y2, y3, y4, y5⟩ := cells6 hb
  have HU := Lib.hid hu
  clear hb hu
  go_enter Tryz.func92, Tryz.ntmps92
  go_wp2_with fail
  go_ret
  exact ⟨rfl, HU.out⟩
set_option maxRecDepth 100000 in
set_option maxHeartbeats 1600000 in
theorem rg_8a (so nn mm : Int) (a1 a2 : Option Addr) (n1 n2 c1 c2 : Nat) (w : World) (h : mm < 1) : Calls Tryz.prog 92 #[.agg #[.int .i64 8, .slice a1 n1 c1, .int .i64 so, .int .i64 nn, .int .i64 mm, .slice a2 n2 c2]] w fun e w' => e = .returned (.bool false) ∧ Upto [] w w' := by
  have hu : Upto [] w (w.alloc (.cells #[.int .i64 8, .slice a1 n1 c1, .int .i64 so, .int .i64 nn, .int .i64 mm, .slice a2 n2 c2] 30)) := (Upto.refl [] w).alloc _
  have hb := new_at w (.cells #[.int .i64 8, .slice a1 n1 c1, .int .i64 so, .int .i64 nn, .int .i64 mm, .slice a2 n2 c2] 30)
  obtain ⟨y0, y1, y2, y3, y4, y5⟩ := cells6 hb
  have HU := Lib.hid hu
  clear hb hu
  have q : ¬ (1 : Int) ≤ mm := by omega
  go_enter Tryz.func92, Tryz.ntmps92
  go_wp2_with fail
  go_ret
  exact ⟨rfl, HU.out⟩
set_option maxRecDepth 100000 in
set_option maxHeartbeats 1600000 in
theorem rg_8b (so nn mm : Int) (a1 a2 : Option Addr) (n1 n2 c1 c2 : Nat) (w : World) (h : (1 : Int) ≤ mm) (h2 : 64 < mm) : Calls Tryz.prog 92 #[.agg #[.int .i64 8, .slice a1 n1 c1, .int .i64 so, .int .i64 nn, .int .i64 mm, .slice a2 n2 c2]] w fun e w' => e = .returned (.bool false) ∧ Upto [] w w' := by
  have hu : Upto [] w (w.alloc (.cells #[.int .i64 8, .slice a1 n1 c1, .int .i64 so, .int .i64 nn, .int .i64 mm, .slice a2 n2 c2] 30)) := (Upto.refl [] w).alloc _
  have hb := new_at w (.cells #[.int .i64 8, .slice a1 n1 c1, .int .i64 so, .int .i64 nn, .int .i64 mm, .slice a2 n2 c2] 30)
  obtain ⟨y0, y1, y2, y3, y4, y5⟩ := cells6 hb
  have HU := Lib.hid hu
  clear hb hu
  have q : ¬ mm ≤ (64 : Int) := by omega
  go_enter Tryz.func92, Tryz.ntmps92
  go_wp2_with fail
  go_ret
  exact ⟨rfl, HU.out⟩
set_option maxRecDepth 100000 in
set_option maxHeartbeats 1600000 in
theorem rg_8c (so nn mm : Int) (a1 a2 : Option Addr) (n1 n2 c1 c2 : Nat) (w : World) (h : (1 : Int) ≤ mm) (h2 : mm ≤ 64) (h3 : nn < 0) : Calls Tryz.prog 92 #[.agg #[.int .i64 8, .slice a1 n1 c1, .int .i64 so, .int .i64 nn, .int .i64 mm, .slice a2 n2 c2]] w fun e w' => e = .returned (.bool false) ∧ Upto [] w w' := by
  have hu : Upto [] w (w.alloc (.cells #[.int .i64 8, .slice a1 n1 c1, .int .i64 so, .int .i64 nn, .int .i64 mm, .slice a2 n2 c2] 30)) := (Upto.refl [] w).alloc _
  have hb := new_at w (.cells #[.int .i64 8, .slice a1 n1 c1, .int .i64 so, .int .i64 nn, .int .i64 mm, .slice a2 n2 c2] 30)
  obtain ⟨y0, y1, y2, y3, y4, y5⟩ := cells6 hb
  have HU := Lib.hid hu
  clear hb hu
  have q : ¬ (0 : Int) ≤ nn := by omega
  go_enter Tryz.func92, Tryz.ntmps92
  go_wp2_with fail
  go_ret
  exact ⟨rfl, HU.out⟩
set_option maxRecDepth 100000 in
set_option maxHeartbeats 1600000 in
theorem rg_8d (so nn mm : Int) (a1 a2 : Option Addr) (n1 n2 c1 c2 : Nat) (w : World) (h : (1 : Int) ≤ mm) (h2 : mm ≤ 64) (h3 : (0 : Int) ≤ nn) (h4 : mm ≤ nn) : Calls Tryz.prog 92 #[.agg #[.int .i64 8, .slice a1 n1 c1, .int .i64 so, .int .i64 nn, .int .i64 mm, .slice a2 n2 c2]] w fun e w' => e = .returned (.bool false) ∧ Upto [] w w' := by
  have hu : Upto [] w (w.alloc (.cells #[.int .i64 8, .slice a1 n1 c1, .int .i64 so, .int .i64 nn, .int .i64 mm, .slice a2 n2 c2] 30)) := (Upto.refl [] w).alloc _
  have hb := new_at w (.cells #[.int .i64 8, .slice a1 n1 c1, .int .i64 so, .int .i64 nn, .int .i64 mm, .slice a2 n2 c2] 30)
  obtain ⟨y0, y1, y2, y3, y4, y5⟩ := cells6 hb
  have HU := Lib.hid hu
  clear hb hu
  have q : ¬ nn < mm := by omega
  go_enter Tryz.func92, Tryz.ntmps92
  go_wp2_with fail
  go_ret
  exact ⟨rfl, HU.out⟩
set_option maxRecDepth 100000 in
set_option maxHeartbeats 1600000 in
theorem rg_8g (so nn mm : Int) (a1 a2 : Option Addr) (n1 n2 c1 c2 : Nat) (w : World) (h : (1 : Int) ≤ mm) (h2 : mm ≤ 64) (h3 : (0 : Int) ≤ nn) (h4 : nn < mm) : Calls Tryz.prog 92 #[.agg #[.int .i64 8, .slice a1 n1 c1, .int .i64 so, .int .i64 nn, .int .i64 mm, .slice a2 n2 c2]] w fun e w' => e = .returned (.bool true) ∧ Upto [] w w' := by
  have hu : Upto [] w (w.alloc (.cells #[.int .i64 8, .slice a1 n1 c1, .int .i64 so, .int .i64 nn, .int .i64 mm, .slice a2 n2 c2] 30)) := (Upto.refl [] w).alloc _
  have hb := new_at w (.cells #[.int .i64 8, .slice a1 n1 c1, .int .i64 so, .int .i64 nn, .int .i64 mm, .slice a2 n2 c2] 30)
  obtain ⟨y0, y1, y2, y3, y4, y5⟩ := cells6 hb
  have HU := Lib.hid hu
  clear hb hu
  go_enter Tryz.func92, Tryz.ntmps92
  go_wp2_with fail
  go_ret
  exact ⟨rfl, HU.out⟩
set_option maxRecDepth 100000 in
set_option maxHeartbeats 1600000 in
theorem rg_oa (op so nn mm : Int) (a1 a2 : Option Addr) (n1 n2 c1 c2 : Nat) (w : World) (o7 : op ≠ 7) (o8 : op ≠ 8) (h : so < 0) : Calls Tryz.prog 92 #[.agg #[.int .i64 op, .slice a1 n1 c1, .int .i64 so, .int .i64 nn, .int .i64 mm, .slice a2 n2 c2]] w fun e w' => e = .returned (.bool false) ∧ Upto [] w w' := by
  have hu : Upto [] w (w.alloc (.cells #[.int .i64 op, .slice a1 n1 c1, .int .i64 so, .int .i64 nn, .int .i64 mm, .slice a2 n2 c2] 30)) := (Upto.refl [] w).alloc _
  have hb := new_at w (.cells #[.int .i64 op, .slice a1 n1 c1, .int .i64 so, .int .i64 nn, .int .i64 mm, .slice a2 n2 c2] 30)
  obtain ⟨y0, y1, y2, y3, y4, y5⟩ := cells6 hb
  have HU := Lib.hid hu
  clear hb hu
  have e7 : (op == (7 : Int)) = false := by rw [beq_eq_false_iff_ne]; exact o7
  have e8 : (op == (8 : Int)) = false := by rw [beq_eq_false_iff_ne]; exact o8
  have q : ¬ (0 : Int) ≤ so := by omega
  go_enter Tryz.func92, Tryz.ntmps92
  go_wp2_with fail
  go_ret
  exact ⟨rfl, HU.out⟩
set_option maxRecDepth 100000 in
set_option maxHeartbeats 1600000 in
theorem rg_ob (op so nn mm : Int) (a1 a2 : Option Addr) (n1 n2 c1 c2 : Nat) (w : World) (o7 : op ≠ 7) (o8 : op ≠ 8) (h : (0 : Int) ≤ so) (h2 : 3 < so) : Calls Tryz.prog 92 #[.agg #[.int .i64 op, .slice a1 n1 c1, .int .i64 so, .int .i64 nn, .int .i64 mm, .slice a2 n2 c2]] w fun e w' => e = .returned (.bool false) ∧ Upto [] w w' := by
  have hu : Upto [] w (w.alloc (.cells #[.int .i64 op, .slice a1 n1 c1, .int .i64 so, .int .i64 nn, .int .i64 mm, .slice a2 n2 c2] 30)) := (Upto.refl [] w).alloc _
  have hb := new_at w (.cells #[.int .i64 op, .slice a1 n1 c1, .int .i64 so, .int .i64 nn, .int .i64 mm, .slice a2 n2 c2] 30)
  obtain ⟨y0, y1, y2, y3, y4, y5⟩ := cells6 hb
  have HU := Lib.hid hu
  clear hb hu
  have e7 : (op == (7 : Int)) = false := by rw [beq_eq_false_iff_ne]; exact o7
  have e8 : (op == (8 : Int)) = false := by rw [beq_eq_false_iff_ne]; exact o8
  have q : ¬ so < (4 : Int) := by omega
  go_enter Tryz.func92, Tryz.ntmps92
  go_wp2_with fail
  go_ret
  exact ⟨rfl, HU.out⟩
set_option maxRecDepth 100000 in
set_option maxHeartbeats 1600000 in
theorem rg_og (op so nn mm : Int) (a1 a2 : Option Addr) (n1 n2 c1 c2 : Nat) (w : World) (o7 : op ≠ 7) (o8 : op ≠ 8) (h : (0 : Int) ≤ so) (h2 : so < 4) : Calls Tryz.prog 92 #[.agg #[.int .i64 op, .slice a1 n1 c1, .int .i64 so, .int .i64 nn, .int .i64 mm, .slice a2 n2 c2]] w fun e w' => e = .returned (.bool true) ∧ Upto [] w w' := by
  have hu : Upto [] w (w.alloc (.cells #[.int .i64 op, .slice a1 n1 c1, .int .i64 so, .int .i64 nn, .int .i64 mm, .slice a2 n2 c2] 30)) := (Upto.refl [] w).alloc _
  have hb := new_at w (.cells #[.int .i64 op, .slice a1 n1 c1, .int .i64 so, .int .i64 nn, .int .i64 mm, .slice a2 n2 c2] 30)
  obtain ⟨y0, y1, y2, y3, y4, y5⟩ := cells6 hb
  have HU := Lib.hid hu
  clear hb hu
  have e7 : (op == (7 : Int)) = false := by rw [beq_eq_false_iff_ne]; exact o7
  have e8 : (op == (8 : Int)) = false := by rw [beq_eq_false_iff_ne]; exact o8
  go_enter Tryz.func92, Tryz.ntmps92
  go_wp2_with fail
  go_ret
  exact ⟨rfl, HU.out⟩
end Go.Proofs.YtbnebkkpmcjmbaaGreatDoor


namespace Go.Proofs.YtbnebkkpmcjmbaaGreatDoor
open Go.RowKit Go.PL Go.Maps
theorem ranges_calls (op so nn mm : Int) (nms : List (List UInt8)) (l : List Nd) (v : Value) (w : World) (P : Nat → Prop) (h : NdV w P (.mk op nms so nn mm l) v) (hz : zeroBad op so nn mm = false) :
    Calls Tryz.prog 92 #[v] w fun e w' => e = .returned (.bool (!rangeBad op so nn mm)) ∧ Upto [] w w' := by
  obtain ⟨a1, c1, a2, c2, rfl, -, -⟩ := h.open
  have T : rangeBad op so nn mm = true → (!rangeBad op so nn mm) = false := fun h => by rw [h]; rfl
  have G : rangeBad op so nn mm = false → (!rangeBad op so nn mm) = true := fun h => by rw [h]; rfl
  by_cases c7 : op = 7
  · subst c7
    have hso : so = 0 := by
      unfold zeroBad at hz
      simp at hz
      exact hz.2
    by_cases t1 : nn < 0
    · rw [T (by simp [rangeBad, *])]; exact rg_7a so nn mm a1 a2 _ _ c1 c2 w t1
    by_cases t2 : 7 < nn
    · rw [T (by simp [rangeBad, *])]; exact rg_7b so nn mm a1 a2 _ _ c1 c2 w (by omega) t2
    rw [G (by simp [rangeBad]; omega)]; exact rg_7g so nn mm a1 a2 _ _ c1 c2 w (by omega) (by omega)
  by_cases c8 : op = 8
  · subst c8
    have hso : so = 0 := by
      unfold zeroBad at hz
      simp at hz
      exact hz
    by_cases t1 : mm < 1
    · rw [T (by simp [rangeBad, *])]; exact rg_8a so nn mm a1 a2 _ _ c1 c2 w t1
    by_cases t2 : 64 < mm
    · rw [T (by simp [rangeBad, *])]; exact rg_8b so nn mm a1 a2 _ _ c1 c2 w (by omega) t2
    by_cases t3 : nn < 0
    · rw [T (by simp [rangeBad, *])]; exact rg_8c so nn mm a1 a2 _ _ c1 c2 w (by omega) (by omega) t3
    by_cases t4 : mm ≤ nn
    · rw [T (by simp [rangeBad, *])]; exact rg_8d so nn mm a1 a2 _ _ c1 c2 w (by omega) (by omega) (by omega) t4
    rw [G (by simp [rangeBad]; omega)]; exact rg_8g so nn mm a1 a2 _ _ c1 c2 w (by omega) (by omega) (by omega) (by omega)
  by_cases t1 : so < 0
  · rw [T (by simp [rangeBad, *])]; exact rg_oa op so nn mm a1 a2 _ _ c1 c2 w c7 c8 t1
  by_cases t2 : 3 < so
  · rw [T (by simp [rangeBad, *])]; exact rg_ob op so nn mm a1 a2 _ _ c1 c2 w c7 c8 (by omega) t2
  rw [G (by simp [rangeBad, c7, c8]; omega)]; exact rg_og op so nn mm a1 a2 _ _ c1 c2 w c7 c8 (by omega) (by omega)
end Go.Proofs.YtbnebkkpmcjmbaaGreatDoor


namespace Go.Proofs.YtbnebkkpmcjmbaaGreatDoor
open Go.RowKit Go.PL Go.Maps
theorem ident_all (s : List UInt8) : identF s = nameF s := by
  by_cases h : s.length ≤ 65536
  · exact ident_name h
  · have h1 : identF s = false := by
      unfold identF
      cases ho : oneF s with
      | none => rfl
      | some kv =>
        obtain ⟨k, v⟩ := kv
        exact absurd (oneF_real.1 ho).1 h
    have h2 : nameF s = false := by
      rw [Bool.eq_false_iff]
      intro hn
      simp only [nameF, Bool.and_eq_true, decide_eq_true_eq] at hn
      obtain ⟨⟨n1, -⟩, n3⟩ := hn
      cases s with
      | nil => exact n1 rfl
      | cons b t =>
        cases hc : classify (b :: t) with
        | error e => rw [hc] at n3; cases n3
        | ok p =>
          rw [hc] at n3
          simp only [classify] at hc
          split at hc
          · split at hc
            · cases hc
            · split at hc
              · cases hc
              · cases hc; simp at n3
          · split at hc
            · cases hc
            · split at hc
              · cases hc; simp at n3
              · split at hc
                · cases hc
                · omega
    rw [h1, h2]
set_option maxRecDepth 100000 in
set_option maxHeartbeats 12800000 in
theorem nodes_calls : ∀ (k : Nat) (nd : Nd), sizeF nd ≤ k → inN 10000000 nd → k ≤ 10000000 → ∀ (v : Value) (w : World) (P : Nat → Prop), NdV w P nd v → Env w → FEnv w → Calls Tryz.prog 70 #[v] w fun e w' => e = .returned (.int .i64 (formF nameF nd : Nat)) ∧ Upto [] w w'
  | 0, nd, hk, _, _, _, _, _, _, _, _ => by have := sizeF_pos nd; omega
  | k + 1, .mk op nms so nn mm l, hk, hin, hk7, v, w, P, h, he, hf => by
    have hin0 := hin
    obtain ⟨a1, c1, a2, c2, rfl, -, hg⟩ := h.open
    unfold inN at hin
    have HG := Lib.hid hg
    have hsz : sizesF l ≤ k := by simp only [sizeF] at hk; omega
    have HSZ := Lib.hid hsz
    have HIN := Lib.hid hin
    have HE := Lib.hid (And.intro he hf)
    have hu1 : Upto [] w (w.alloc (.cells #[.int .i64 op, .slice a1 nms.length c1, .int .i64 so, .int .i64 nn, .int .i64 mm, .slice a2 l.length c2] 30)) := (Upto.refl [] w).alloc _
    have HB1 := Lib.hid (new_at w (.cells #[.int .i64 op, .slice a1 nms.length c1, .int .i64 so, .int .i64 nn, .int .i64 mm, .slice a2 l.length c2] 30))
    have HU1 := Lib.hid hu1
    have hll := hin.2.2.1
    have hL0 : (0 : Int) ≤ l.length := by omega
    have hL1 : (l.length : Int) ≤ 10000000 := by omega
    have HID : Hid (nms.all identF = nms.all nameF) := Lib.hid (by rw [show identF = nameF from funext ident_all])
    by_cases hk0 : op < 0
    · have HF : Hid (formF nameF (.mk op nms so nn mm l) = 11) := Lib.hid (by unfold formF kindBad; rw [if_pos (by simp [hk0])])
      rw [HF.out]
      clear h hg hsz hk hu1 hin hin0 he hf
      go_enter Tryz.func70, Tryz.ntmps70
      go_wp2_with fail
      go_ret
      exact ⟨rfl, HU1.out⟩
    by_cases hk1 : 17 < op
    · have HF : Hid (formF nameF (.mk op nms so nn mm l) = 11) := Lib.hid (by unfold formF kindBad; rw [if_pos (by simp [hk1])])
      have hq : (18 : Int) ≤ op := by omega
      rw [HF.out]
      clear h hg hsz hk hu1 hin hin0 he hf
      go_enter Tryz.func70, Tryz.ntmps70
      go_wp2_with fail
      go_ret
      exact ⟨rfl, HU1.out⟩
    have hq : ¬ (18 : Int) ≤ op := by omega
    have HKB : Hid (kindBad op = false) := Lib.hid (by unfold kindBad; simp; omega)
    have HH := Lib.hid (fun u (hu : Upto [] w u) => hasf_calls op so nn mm nms l hin0 _ u P (h.ext hu) (he.ext hu) (hf.ext hu) (by omega) (by omega))
    by_cases hh : (!shapeBad op nms.length l.length && nms.all identF && !zeroBad op so nn mm) = false
    · have HF : Hid (formF nameF (.mk op nms so nn mm l) = 3) := Lib.hid (by
        unfold formF
        rw [if_neg (by rw [HKB.out]; decide)]
        rw [HID.out] at hh
        cases e1 : shapeBad op nms.length l.length with
        | true => rw [if_pos rfl]
        | false =>
          rw [if_neg (by decide)]
          cases e2 : nms.all nameF with
          | false => rw [if_pos rfl]
          | true =>
            rw [if_neg (by decide)]
            cases e3 : zeroBad op so nn mm with
            | true => rw [if_pos rfl]
            | false => rw [e1, e2, e3] at hh; cases hh)
      rw [HF.out]
      rw [hh] at HH
      have hb := new_at w (.cells #[.int .i64 op, .slice a1 nms.length c1, .int .i64 so, .int .i64 nn, .int .i64 mm, .slice a2 l.length c2] 30)
      obtain ⟨y0, y1, y2, y3, y4, y5⟩ := cells6 hb
      clear h hg hsz hk hu1 hin hin0 he hf hh hb
      go_enter Tryz.func70, Tryz.ntmps70
      go_wp2_with fail
      refine (HH.out _ HU1.out).mono ?_
      rintro e w5 ⟨rfl, hu5⟩
      have HU5 := Lib.hid (HU1.out.trans_ext hu5)
      clear hu5
      go_wp2_with fail
      go_ret
      exact ⟨rfl, HU5.out⟩
    have hh := (Bool.not_eq_false _).mp hh
    obtain ⟨hs1, hs2, hs3⟩ : shapeBad op nms.length l.length = false ∧ nms.all nameF = true ∧ zeroBad op so nn mm = false := by
      have h2 := hh
      rw [HID.out] at h2
      simp only [Bool.and_eq_true, Bool.not_eq_true'] at h2
      exact ⟨h2.1.1, h2.1.2, h2.2⟩
    rw [hh] at HH
    have HT : Hid (∀ n : Nat, (if rangeBad op so nn mm then 2 else formsF nameF l) = n → formF nameF (.mk op nms so nn mm l) = n) := Lib.hid (fun n hn => by
      unfold formF
      rw [if_neg (by rw [HKB.out]; decide), if_neg (by rw [hs1]; decide), if_neg (by rw [hs2]; decide), if_neg (by rw [hs3]; decide)]
      exact hn)
    have HR := Lib.hid (fun u (hu : Upto [] w u) => ranges_calls op so nn mm nms l _ u P (h.ext hu) hs3)
    have IH : Hid (∀ (nd : Nd), sizeF nd ≤ k → inN 10000000 nd → ∀ (v : Value) (u : World) (P : Nat → Prop), Upto [] w u → NdV u P nd v → Calls Tryz.prog 70 #[v] u fun e w' => e = .returned (.int .i64 (formF nameF nd : Nat)) ∧ Upto [] u w') := Lib.hid (fun nd h1 h2 v u P hu hn => nodes_calls k nd h1 h2 (by omega) v u P hn (he.ext hu) (hf.ext hu))
    clear hh hs1 hs2 hs3
    have hb := new_at w (.cells #[.int .i64 op, .slice a1 nms.length c1, .int .i64 so, .int .i64 nn, .int .i64 mm, .slice a2 l.length c2] 30)
    obtain ⟨y0, y1, y2, y3, y4, y5⟩ := cells6 hb
    cases hr : rangeBad op so nn mm with
    | true =>
      rw [HT.out 2 (by rw [hr]; rfl)]
      rw [hr] at HR
      clear h hg hsz hk hu1 hin hin0 he hf hb
      go_enter Tryz.func70, Tryz.ntmps70
      go_wp2_with fail
      refine (HH.out _ HU1.out).mono ?_
      rintro e w5 ⟨rfl, hu5⟩
      have HU5 := Lib.hid (HU1.out.trans_ext hu5)
      have hb5 := hu5.at HB1.out (by simp)
      obtain ⟨z0, z1, z2, z3, z4, z5⟩ := cells6 hb5
      clear hu5 hb5 y0 y1 y2 y3 y4 y5
      go_wp2_with fail
      refine (HR.out _ HU5.out).mono ?_
      rintro e w6 ⟨rfl, hu6⟩
      have HU6 := Lib.hid (HU5.out.trans_ext hu6)
      clear hu6
      go_wp2_with fail
      go_ret
      exact ⟨rfl, HU6.out⟩
    | false =>
      rw [HT.out _ (by rw [hr])]
      rw [hr] at HR
      clear h hg hsz hk hu1 hin hin0 he hf hb HT
      go_enter Tryz.func70, Tryz.ntmps70
      go_wp2_with fail
      refine (HH.out _ HU1.out).mono ?_
      rintro e w5 ⟨rfl, hu5⟩
      have HU5 := Lib.hid (HU1.out.trans_ext hu5)
      have hb5 := hu5.at HB1.out (by simp)
      have HB5 := Lib.hid hb5
      obtain ⟨z0, z1, z2, z3, z4, z5⟩ := cells6 hb5
      clear hu5 hb5 y0 y1 y2 y3 y4 y5
      go_wp2_with fail
      refine (HR.out _ HU5.out).mono ?_
      rintro e w6 ⟨rfl, hu6⟩
      have HU6 := Lib.hid (HU5.out.trans_ext hu6)
      have hb6 := hu6.at HB5.out (by simp)
      clear z0 z1 z2 z3 z4 z5
      have z5 := cell_of hb6 5
      simp only [List.getElem?_toArray, List.getElem?_cons_zero, List.getElem?_cons_succ] at z5
      have HB6 := Lib.hid (hu6.at HB5.out (by simp))
      clear hu6 hb6
      go_wp2_with fail
      go_loopw [26] (fun i wr => ∃ m : Nat, m ≤ l.length ∧ i = .int .i64 m ∧ Hid (formsF nameF (l.drop m) = formsF nameF l) ∧ Hid (Upto [] w6 wr)) (fun i _ => l.length - (intOf i).toNat)
      case atStart => exact ⟨0, by omega, rfl, Lib.hid rfl, Lib.hid (Upto.refl _ _)⟩
      case round =>
        obtain ⟨m, hm, rfl, HB9, HV⟩ := hrel
        have hm0 : (0 : Int) ≤ m := by omega
        have HW2 := Lib.hid (HU6.out.trans_ext HV.out)
        rcases Nat.lt_or_ge m l.length with hlt | hge2
        · have hltI : (m : Int) < l.length := by omega
          obtain ⟨x, hx⟩ : ∃ x, l[m]? = some x := ⟨_, List.getElem?_eq_getElem hlt⟩
          have HDR : Hid (l.drop m = x :: l.drop (m + 1)) := Lib.hid (by
            obtain ⟨hi, h3⟩ := List.getElem?_eq_some_iff.1 hx
            rw [List.drop_eq_getElem_cons hi, h3])
          obtain ⟨g, o, xo, xn1, xn2, xn3, xs, xm, xq, xl1, xl2, xl3, rfl, d0, d1, d2, d3, d4, d5, hnx⟩ := HG.out m x hx
          replace d0 := up_cell HW2.out d0
          replace d1 := up_cell HW2.out d1
          replace d2 := up_cell HW2.out d2
          replace d3 := up_cell HW2.out d3
          replace d4 := up_cell HW2.out d4
          replace d5 := up_cell HW2.out d5
          have hxa : Upto [] wr (wr.alloc (.cells #[.int .i64 xo, .slice xn1 xn2 xn3, .int .i64 xs, .int .i64 xm, .int .i64 xq, .slice xl1 xl2 xl3] 30)) := (Upto.refl [] wr).alloc _
          have HXA := Lib.hid (HW2.out.trans_ext hxa)
          have HXV := Lib.hid (HV.out.trans_ext hxa)
          have hn := new_at wr (.cells #[.int .i64 xo, .slice xn1 xn2 xn3, .int .i64 xs, .int .i64 xm, .int .i64 xq, .slice xl1 xl2 xl3] 30)
          obtain ⟨n0, n1, n2, n3, n4, n5⟩ := cells6 hn
          have HC := Lib.hid (IH.out x (by have := HSZ.out; have := sizesF_mem (List.mem_of_getElem? hx); omega) (insN_mem HIN.out.2.2.2 (List.mem_of_getElem? hx)) _ (wr.alloc (.cells #[.int .i64 xo, .slice xn1 xn2 xn3, .int .i64 xs, .int .i64 xm, .int .i64 xq, .slice xl1 xl2 xl3] 30)) P HXA.out (hnx.ext HXA.out))
          by_cases hz : formF nameF x = 0
          · have HA2 : Hid (formsF nameF (l.drop (m + 1)) = formsF nameF l) := Lib.hid (by
              rw [← HB9.out, HDR.out]
              conv => rhs; unfold formsF
              rw [hz]
              rfl)
            rw [hz] at HC
            clear hx hz hnx hxa hn
            go_wp2_with fail
            refine HC.out.mono ?_
            rintro e w7 ⟨rfl, hu7⟩
            have HU7 := Lib.hid (HXV.out.trans_ext hu7)
            clear hu7
            go_wp2_with fail
            go_roundw
            case rel => exact ⟨m + 1, by omega, by go_num, HA2, HU7⟩
            case measure => simp [intOf]; omega
          · have HF : Hid (formsF nameF l = formF nameF x) := Lib.hid (by
              rw [← HB9.out, HDR.out]
              unfold formsF
              rw [if_pos hz])
            generalize hfx : formF nameF x = fx at *
            have ez : ((fx : Int) == 0) = false := by rw [beq_eq_false_iff_ne]; omega
            have ez2 : ((fx : Int) != 0) = true := by rw [bne, ez]; rfl
            clear hx hz hnx hfx hxa hn
            go_wp2_with fail
            refine HC.out.mono ?_
            rintro e w7 ⟨rfl, hu7⟩
            have HU7 := Lib.hid (HXA.out.trans_ext hu7)
            clear hu7
            go_wp2_with fail
            go_ret
            rw [HF.out]
            exact ⟨rfl, HU7.out⟩
        · have hgeJ : ¬ (m : Int) < l.length := by omega
          have HF : Hid (formsF nameF l = 0) := Lib.hid (by
            rw [← HB9.out, List.drop_of_length_le (by omega)]
            rfl)
          go_wp2_with fail
          go_ret
          rw [HF.out]
          exact ⟨rfl, HW2.out⟩
end Go.Proofs.YtbnebkkpmcjmbaaGreatDoor


namespace Go.Proofs.YtbnebkkpmcjmbaaGreatDoor
open Go.RowKit Go.PL Go.Maps
set_option maxRecDepth 100000 in
set_option maxHeartbeats 3200000 in
theorem checkf_calls (nd : Nd) (v : Value) (w : World) (P : Nat → Prop) (h : NdV w P nd v) (hk : sizeF nd ≤ 10000000) (hin : inN 10000000 nd) (he : Env w) (hf : FEnv w) : Calls Tryz.prog 40 #[v] w fun e w' => e = .returned (.int .i64 (checkF nameF nd : Nat)) ∧ Upto [] w w' := by
  obtain ⟨xo, xn1, xn2, xn3, xs, xm, xq, xl1, xl2, xl3, rfl⟩ := h.six
  have hua : Upto [] w (w.alloc (.cells #[.int .i64 xo, .slice xn1 xn2 xn3, .int .i64 xs, .int .i64 xm, .int .i64 xq, .slice xl1 xl2 xl3] 30)) := (Upto.refl [] w).alloc _
  have HS := Lib.hid (fun u (hu : Upto [] w u) => nodes_calls _ nd (Nat.le_refl _) hin hk _ u P (h.ext hu) (he.ext hu) (hf.ext hu))
  have HD := Lib.hid (fun u (hu : Upto [] w u) => great_calls nd _ u P (h.ext hu) hk)
  have HUA := Lib.hid hua
  have HNB := Lib.hid (new_at w (.cells #[.int .i64 xo, .slice xn1 xn2 xn3, .int .i64 xs, .int .i64 xm, .int .i64 xq, .slice xl1 xl2 xl3] 30))
  clear h hua hin he hf
  by_cases h1 : formF nameF nd = 0
  · have HF : Hid (checkF nameF nd = greatF nd) := Lib.hid (by unfold checkF; rw [h1]; rfl)
    rw [HF.out]
    rw [h1] at HS
    clear h1
    go_enter Tryz.func40, Tryz.ntmps40
    go_wp2_with fail
    refine (HS.out _ HUA.out).mono ?_
    rintro e w5 ⟨rfl, hu5⟩
    have HU5 := Lib.hid (HUA.out.trans_ext hu5)
    have hb5 := hu5.at HNB.out (by simp)
    obtain ⟨y0, y1, y2, y3, y4, y5⟩ := cells6 hb5
    clear hu5 hb5
    go_wp2_with fail
    refine (HD.out _ HU5.out).mono ?_
    rintro e w6 ⟨rfl, hu6⟩
    have HU6 := Lib.hid (HU5.out.trans_ext hu6)
    clear hu6
    go_wp2_with fail
    go_ret
    exact ⟨rfl, HU6.out⟩
  · have HF : Hid (checkF nameF nd = formF nameF nd) := Lib.hid (by unfold checkF; rw [if_pos h1])
    rw [HF.out]
    generalize hfx : formF nameF nd = fx at *
    have ez : ((fx : Int) == 0) = false := by rw [beq_eq_false_iff_ne]; omega
    have ez2 : ((fx : Int) != 0) = true := by rw [bne, ez]; rfl
    clear hfx h1
    go_enter Tryz.func40, Tryz.ntmps40
    go_wp2_with fail
    refine (HS.out _ HUA.out).mono ?_
    rintro e w5 ⟨rfl, hu5⟩
    have HU5 := Lib.hid (HUA.out.trans_ext hu5)
    clear hu5
    go_wp2_with fail
    go_ret
    exact ⟨rfl, HU5.out⟩
end Go.Proofs.YtbnebkkpmcjmbaaGreatDoor


namespace Go.Proofs.YtbnebkkpmcjmbaaGreatDoor
open Go.RowKit Go.PL Go.Maps
def adjN : Nd := .mk 16 [[121]] 0 0 0 [.mk 5 [[120], [121]] 0 0 0 []]
theorem adj_check : checkF nameF adjN = 0 := by kernel_rfl
theorem adj_in : inN 10000000 adjN := by
  unfold adjN
  simp [inN, insN]
theorem name_x : identF [120] = true := by rw [ident_is]; kernel_rfl
theorem name_y : identF [121] = true := by rw [ident_is]; kernel_rfl
/-- a clone of the formula lies in three blocks that are apart -/
theorem adj_apart {w : World} {e : Ending} {w' : World} (h : ClPost2 w 16 [[121]] 0 0 0 [.mk 5 [[120], [121]] 0 0 0 []] e w') : ∃ g1 o1 c1 gl ol cl g o c2 c3 : Nat, ∃ a3 : Option Addr, e = .returned (.agg #[.int .i64 16, .slice (some ⟨g1, o1, none⟩) 1 c1, .int .i64 0, .int .i64 0, .int .i64 0, .slice (some ⟨gl, ol, none⟩) 1 cl]) ∧ (g1 ≠ gl ∧ g1 ≠ g ∧ gl ≠ g) ∧ QnB w' g1 o1 gl ol g o c2 c3 0 0 0 a3 [121] [120] [121] ∧ Upto [] w w' ∧ w.heap.size ≤ g1 ∧ w.heap.size ≤ gl ∧ w.heap.size ≤ g := by
  obtain ⟨vn, vl, m, rfl, hu, hs, hl⟩ := h
  rcases hs with ⟨h0, -⟩ | ⟨g1, o1, c1, rfl, ⟨⟨hn1, hm1⟩, -, -⟩, hcell⟩
  · simp at h0
  rcases hl with ⟨h0, -⟩ | ⟨gl, ol, cl, rfl, ⟨⟨hnl, hml⟩, -⟩, hnds⟩
  · cases h0
  unfold NdsV at hnds
  obtain ⟨⟨v0, v1, v2, v3, v4, v5, k0, k1, k2, k3, k4, k5, hnd⟩, -⟩ := hnds
  unfold NdV at hnd
  obtain ⟨vn2, vl2, e2, hs2, hl2⟩ := hnd
  simp only [Value.agg.injEq, Array.mk.injEq, List.cons.injEq, and_true] at e2
  obtain ⟨rfl, rfl, rfl, rfl, rfl, rfl⟩ := e2
  rcases hs2 with ⟨h0, -⟩ | ⟨g, o, c2, rfl, ⟨⟨hng, hmg, hne⟩, -, hcap⟩, hcell2⟩
  · simp at h0
  obtain ⟨a3, c3, rfl⟩ : ∃ a c, v5 = .slice a 0 c := by
    rcases hl2 with ⟨-, a, c, rfl⟩ | ⟨g, o, c, rfl, -⟩
    · exact ⟨a, c, rfl⟩
    · exact ⟨_, c, rfl⟩
  obtain ⟨cs1, t1, hh1⟩ := hn1.2
  obtain ⟨csl, tl, hhl⟩ := hnl.2
  obtain ⟨cs, t, hh⟩ := hng.2
  have n0 := hcell 0 (sV [121]) rfl
  have q0 := hcell2 0 (sV [120]) rfl
  have q1 := hcell2 1 (sV [121]) rfl
  rw [cell_of hh1] at n0
  rw [cell_of hh] at q0 q1
  rw [cell_of hhl] at k0 k1 k2 k3 k4 k5
  have a1 := hn1.1
  have a2 := hnl.1
  have a4 := hng.1
  unfold New at a1 a2 a4
  exact ⟨g1, o1, c1, gl, ol, cl, g, o, c2, c3, a3, rfl, ⟨by omega, by omega, fun e => hne e.symm⟩, ⟨⟨cs1, t1, hh1, n0⟩, ⟨csl, tl, hhl, k0, k1, k2, k3, k4, k5⟩, ⟨t, cs, ⟨cs, hh, q0, q1, fun _ _ _ => rfl⟩⟩, hcap⟩, hu, a1, a2, a4⟩
end Go.Proofs.YtbnebkkpmcjmbaaGreatDoor


namespace Go.Proofs.YtbnebkkpmcjmbaaGreatDoor
open Go.RowKit Go.PL Go.Maps
def RnPost (w : World) (e : Ending) (w' : World) : Prop := ∃ g1 o1 c1 gl ol cl g o c2 c3 : Nat, ∃ a3 : Option Addr, e = .returned (.tuple #[.agg #[.int .i64 16, .slice (some ⟨g1, o1, none⟩) 1 c1, .int .i64 0, .int .i64 0, .int .i64 0, .slice (some ⟨gl, ol, none⟩) 1 cl], .int .i64 0]) ∧ QnB w' g1 o1 gl ol g o c2 c3 0 0 0 a3 [121, 50] [121] [121, 50] ∧ Upto [] w w'
set_option maxRecDepth 100000 in
set_option maxHeartbeats 3200000 in
theorem renameT_calls (b1 b2 : Option Addr) (d1 d2 : Nat) (P : Nat → Prop) (w : World) (he : Env w) (hf : FEnv w) (h : NdV w P adjN (.agg #[.int .i64 16, .slice b1 1 d1, .int .i64 0, .int .i64 0, .int .i64 0, .slice b2 1 d2])) : Calls Tryz.prog 11 #[.agg #[.int .i64 16, .slice b1 1 d1, .int .i64 0, .int .i64 0, .int .i64 0, .slice b2 1 d2], .string ⟨[120].toArray⟩, .string ⟨[121].toArray⟩] w (RnPost w) := by
  obtain ⟨W, hW⟩ : ∃ W, W = (w.alloc (.cells #[.int .i64 16, .slice b1 1 d1, .int .i64 0, .int .i64 0, .int .i64 0, .slice b2 1 d2] 30)).alloc (.cells #[.int .i64 0, .slice none 0 0, .int .i64 0, .int .i64 0, .int .i64 0, .slice none 0 0] 30) := ⟨_, rfl⟩
  have HU : Hid (Upto [] w W) := Lib.hid (by rw [hW]; exact ((Upto.refl [] w).alloc _).alloc _)
  have HB1 : Hid (W.heap[w.heap.size]? = some (.cells #[.int .i64 16, .slice b1 1 d1, .int .i64 0, .int .i64 0, .int .i64 0, .slice b2 1 d2] 30 (0, 0))) := Lib.hid (by rw [hW]; exact alloc_old (new_at w _) _)
  have HB2 : Hid (W.heap[w.heap.size + 1]? = some (.cells #[.int .i64 0, .slice none 0 0, .int .i64 0, .int .i64 0, .int .i64 0, .slice none 0 0] 30 (0, 0))) := Lib.hid (by rw [hW]; exact new_at1 w _ _)
  have HCK : Hid (∀ u, Upto [] w u → Calls Tryz.prog 40 #[.agg #[.int .i64 16, .slice b1 1 d1, .int .i64 0, .int .i64 0, .int .i64 0, .slice b2 1 d2]] u fun e w' => e = .returned (.int .i64 0) ∧ Upto [] u w') := Lib.hid (fun u hu => by
    have := checkf_calls adjN _ u P (h.ext hu) (by decide) adj_in (he.ext hu) (hf.ext hu)
    rw [adj_check] at this
    exact this)
  have HIX : Hid (∀ u, Upto [] w u → Calls Tryz.prog 41 #[.string ⟨#[120]⟩] u fun e w' => e = .returned (.bool true) ∧ Upto [] u w') := Lib.hid (fun u hu => by
    have := isIdent_calls [120] u (he.ext hu) (by simp)
    rw [name_x] at this
    exact this)
  have HIY : Hid (∀ u, Upto [] w u → Calls Tryz.prog 41 #[.string ⟨#[121]⟩] u fun e w' => e = .returned (.bool true) ∧ Upto [] u w') := Lib.hid (fun u hu => by
    have := isIdent_calls [121] u (he.ext hu) (by simp)
    rw [name_y] at this
    exact this)
  have HCL := Lib.hid (fun u (hu : Upto [] w u) => fclone2_calls 9 16 [[121]] 0 0 0 [.mk 5 [[120], [121]] 0 0 0 []] (by decide) (by decide) (by simp [bigN, bigsN]) P _ u (h.ext hu))
  have HE := Lib.hid he
  obtain ⟨x0, x1, x2, x3, x4, x5⟩ := cells6 HB1.out
  clear h he hf
  go_enter Tryz.func11, Tryz.ntmps11
  go_wp2_with fail
  simp only [← hW]
  clear hW
  go_wp2_with fail
  refine (HCK.out _ HU.out).mono ?_
  rintro e w1 ⟨rfl, hu1⟩
  have HU1 := Lib.hid hu1
  clear hu1
  go_wp2_with fail
  refine (HIX.out _ (HU.out.trans_ext HU1.out)).mono ?_
  rintro e w2 ⟨rfl, hu2⟩
  have HU2 := Lib.hid (HU1.out.trans_ext hu2)
  clear hu2
  go_wp2_with fail
  refine (HIY.out _ (HU.out.trans_ext HU2.out)).mono ?_
  rintro e w3 ⟨rfl, hu3⟩
  have HU3 := Lib.hid (HU2.out.trans_ext hu3)
  have HC3 := Lib.hid (HU3.out.at HB1.out (by simp))
  clear hu3 x0 x1 x2 x3 x4 x5
  obtain ⟨x0, x1, x2, x3, x4, x5⟩ := cells6 HC3.out
  go_wp2_with fail
  refine (HCL.out _ (HU.out.trans_ext HU3.out)).mono ?_
  rintro e w4 hcp
  obtain ⟨g1, o1, c1, gl, ol, cl, g, o, c2, c3, a3, rfl, hd, hq, hu4, s1, s2, s3⟩ := adj_apart hcp
  have HW3 := Lib.hid (lt_of_heap (HU3.out.at HB2.out (by simp)))
  have HC4 := Lib.hid (hu4.at HC3.out (by simp))
  have HZ4 := Lib.hid (hu4.at (HU3.out.at HB2.out (by simp)) (by simp))
  have HU4 := Lib.hid (HU.out.trans_ext (HU3.out.trans_ext hu4))
  clear x0 x1 x2 x3 x4 x5 hcp hu4
  obtain ⟨x0, x1, x2, x3, x4, x5⟩ := cells6 HC4.out
  obtain ⟨f0, f1, f2, f3, f4, f5⟩ := frees6 HC4.out
  go_wp2_with fail
  obtain ⟨W5, hW5⟩ : ∃ W5, W5 = ((((((w4.setCell ⟨w.heap.size, 0, none⟩ (.int .i64 16)).setCell ⟨w.heap.size, 1, none⟩ (.slice (some ⟨g1, o1, none⟩) 1 c1)).setCell ⟨w.heap.size, 2, none⟩ (.int .i64 0)).setCell ⟨w.heap.size, 3, none⟩ (.int .i64 0)).setCell ⟨w.heap.size, 4, none⟩ (.int .i64 0)).setCell ⟨w.heap.size, 5, none⟩ (.slice (some ⟨gl, ol, none⟩) 1 cl)) := ⟨_, rfl⟩
  have HS5 : Hid (Upto [w.heap.size] w4 W5) := Lib.hid (by rw [hW5]; exact nd_self w4 w.heap.size (.int .i64 16) (.slice (some ⟨g1, o1, none⟩) 1 c1) (.int .i64 0) (.int .i64 0) (.int .i64 0) (.slice (some ⟨gl, ol, none⟩) 1 cl))
  have HC5 : Hid (W5.heap[w.heap.size]? = some (.cells #[.int .i64 16, .slice (some ⟨g1, o1, none⟩) 1 c1, .int .i64 0, .int .i64 0, .int .i64 0, .slice (some ⟨gl, ol, none⟩) 1 cl] 30 (0, 0))) := Lib.hid (by rw [hW5]; exact nd_store HC4.out (.int .i64 16) (.slice (some ⟨g1, o1, none⟩) 1 c1) (.int .i64 0) (.int .i64 0) (.int .i64 0) (.slice (some ⟨gl, ol, none⟩) 1 cl))
  have HU5 : Hid (Upto [] w W5) := Lib.hid (by rw [hW5]; exact nd_up HU4.out (Or.inr (by omega)) (.int .i64 16) (.slice (some ⟨g1, o1, none⟩) 1 c1) (.int .i64 0) (.int .i64 0) (.int .i64 0) (.slice (some ⟨gl, ol, none⟩) 1 cl))
  simp only [← hW5]
  clear hW5 x0 x1 x2 x3 x4 x5 f0 f1 f2 f3 f4 f5
  have HQ5 := Lib.hid (hq.away HS5.out (by have := HW3.out; simp; omega))
  have HZ5 := Lib.hid (HS5.out.at HZ4.out (by simp))
  have HSZ := Lib.hid (And.intro s1 (And.intro s2 s3))
  have HD := Lib.hid hd
  clear hq s1 s2 s3 hd
  obtain ⟨x0, x1, x2, x3, x4, x5⟩ := cells6 HC5.out
  go_wp2_with fail
  refine (rename16_calls g1 o1 c1 gl ol cl g o c2 c3 0 0 0 a3 W5 (HE.out.ext HU5.out) HD.out HQ5.out).mono ?_
  rintro e w6 ⟨rfl, hq6, hu6⟩
  have HQ6 := Lib.hid hq6
  have HZ6 := Lib.hid (hu6.at HZ5.out (by have := HSZ.out; have := HW3.out; simp; omega))
  have HU6 : Hid (Upto [] w w6) := Lib.hid (HU5.out.trans hu6 (fun k hk => Or.inr (by have := HSZ.out; have := HW3.out; simp at hk; omega)))
  clear hq6 hu6 x0 x1 x2 x3 x4 x5
  obtain ⟨x0, x1, x2, x3, x4, x5⟩ := cells6 HZ6.out
  obtain ⟨f0, f1, f2, f3, f4, f5⟩ := frees6 HZ6.out
  go_wp2_with fail
  clear x0 x1 x2 x3 x4 x5 f0 f1 f2 f3 f4 f5
  have hst := nd_store HZ6.out (.int .i64 16) (.slice (some ⟨g1, o1, none⟩) 1 c1) (.int .i64 0) (.int .i64 0) (.int .i64 0) (.slice (some ⟨gl, ol, none⟩) 1 cl)
  have hself := nd_self w6 (w.heap.size + 1) (.int .i64 16) (.slice (some ⟨g1, o1, none⟩) 1 c1) (.int .i64 0) (.int .i64 0) (.int .i64 0) (.slice (some ⟨gl, ol, none⟩) 1 cl)
  have hup := nd_up HU6.out (B := w.heap.size + 1) (Or.inr (by omega)) (.int .i64 16) (.slice (some ⟨g1, o1, none⟩) 1 c1) (.int .i64 0) (.int .i64 0) (.int .i64 0) (.slice (some ⟨gl, ol, none⟩) 1 cl)
  have hqn := HQ6.out.away hself (by have := HSZ.out; have := HW3.out; simp; omega)
  obtain ⟨q0, q1, q2, q3, q4, q5⟩ := cells6 hst
  exact bodyPost_ret (v := .tuple #[.agg #[.int .i64 16, .slice (some ⟨g1, o1, none⟩) 1 c1, .int .i64 0, .int .i64 0, .int .i64 0, .slice (some ⟨gl, ol, none⟩) 1 cl], .int .i64 0]) (by simp [results, Tryz.results11, go_sem, q0, q1, q2, q3, q4, q5]) rfl ⟨g1, o1, c1, gl, ol, cl, g, o, c2, c3, a3, rfl, hqn, hup⟩
end Go.Proofs.YtbnebkkpmcjmbaaGreatDoor


namespace Go.Proofs.YtbnebkkpmcjmbaaGreatDoor
open Go.RowKit Go.PL Go.Maps
/-- a look-up in a set of names -/
theorem seen_look {w : World} {b : Nat} {L : List (List UInt8)} (hm : MapL Tryz.prog 9 w b (L.map kwE)) (x : List UInt8) (hl : x.length ≤ 9223372036854775807) : (Instr.lookup 114 (.map (some b)) (.string ⟨x.toArray⟩) false).run Tryz.prog w = .ok (.bool (L.contains x)) w := by
  rcases hm.look lawS Tryz.underlying114 (zeroB w) (sb_key hl) false with ⟨h1, h2⟩ | ⟨u, h1, h2⟩
  · have : L.contains x = false := by
      cases hc : L.contains x with
      | false => rfl
      | true => exact absurd rfl (h2 (kwE x) (List.mem_map.2 ⟨x, by simpa using hc, rfl⟩))
    rw [this]
    exact h1
  · obtain ⟨y, hy, hq⟩ := List.mem_map.1 h1
    have hq1 : sb y = sb x := congrArg Prod.fst hq
    have hq2 : Value.bool true = u := congrArg Prod.snd hq
    have hyx := sb_inj hq1
    subst hyx
    have : L.contains y = true := by simpa using hy
    rw [this, hq2]
    exact h2
theorem seen_new {L : List (List UInt8)} {x : List UInt8} (h : L.contains x = false) : ∀ p ∈ L.map kwE, p.1 ≠ sb x := by
  intro p hp e
  obtain ⟨y, hy, rfl⟩ := List.mem_map.1 hp
  have hyx : y = x := sb_inj e
  subst hyx
  rw [List.contains_iff_mem.2 hy] at h
  cases h
theorem sortW_nil {s : Int} : sortW s = [] ↔ s < 0 ∨ 3 < s := by
  unfold sortW
  split; simp; omega
  split; simp; omega
  split; simp; omega
  split; simp; omega
  simp; omega
set_option maxRecDepth 100000 in
set_option maxHeartbeats 12800000 in
theorem checkq_calls (q : Qn) (v : Value) (w : World) (P : Nat → Prop) (h : QnV w P q v) (hk : sizeF q.body ≤ 10000000) (hin : inN 10000000 q.body) (hfn : ∀ y ∈ q.free, y.1.length ≤ 10000000) (hE : Env w ∧ SEnv w ∧ FEnv w) : Calls Tryz.prog 62 #[v] w fun e w' => e = .returned (.int .i64 (rightF nameF q : Nat)) ∧ Upto [] w w' := by
  obtain ⟨he, hse, hfe⟩ := hE
  obtain ⟨f1, f3, o1, a1, a2, a3, s1, n1, m1, l1, l2, l3, rfl, hv, hn⟩ := h.open
  have hu1 : Upto [] w (w.alloc (.cells #[.slice f1 q.free.length f3, .int .i64 o1, .slice a1 a2 a3, .int .i64 s1, .int .i64 n1, .int .i64 m1, .slice l1 l2 l3] 53)) := (Upto.refl [] w).alloc _
  have HU1 := Lib.hid hu1
  by_cases h8 : 8 < q.free.length
  · have h8I : (8 : Int) < q.free.length := by omega
    have HF : Hid (rightF nameF q = 8) := Lib.hid (by unfold rightF; rw [if_pos h8])
    rw [HF.out]
    clear h hv hn hk hin hfn hu1 he hse hfe
    go_enter Tryz.func62, Tryz.ntmps62
    go_wp2_with fail
    go_ret
    exact ⟨rfl, HU1.out⟩
  have h8I : ¬ (8 : Int) < q.free.length := by omega
  have H8 := Lib.hid h8
  have HG := Lib.hid (vars_slice hv)
  have HFN := Lib.hid hfn
  have HCK := Lib.hid (fun u (hu : Upto [] w u) => checkf_calls q.body _ u P (hn.ext hu) hk hin (he.ext hu) (hfe.ext hu))
  have HID := Lib.hid (fun (x : List UInt8) (hx : x.length ≤ 281474976710656) u (hu : Upto [] w u) => isIdent_calls x u (he.ext hu) hx)
  have HSN := Lib.hid (fun (s : Int) u (hu : Upto [] w u) => sname_calls s u (hse.upto hu (by simp)))
  have hL0 : (0 : Int) ≤ q.free.length := by omega
  have hL1 : (q.free.length : Int) ≤ 8 := by omega
  have hm0 := MapL.made Tryz.prog 9 (w.alloc (.cells #[.slice f1 q.free.length f3, .int .i64 o1, .slice a1 a2 a3, .int .i64 s1, .int .i64 n1, .int .i64 m1, .slice l1 l2 l3] 53))
  have hsz : (w.alloc (.cells #[.slice f1 q.free.length f3, .int .i64 o1, .slice a1 a2 a3, .int .i64 s1, .int .i64 n1, .int .i64 m1, .slice l1 l2 l3] 53)).heap.size = w.heap.size + 1 := by simp
  rw [hsz] at hm0
  have HM0 := Lib.hid hm0
  have hu2 : Upto [] w ((w.alloc (.cells #[.slice f1 q.free.length f3, .int .i64 o1, .slice a1 a2 a3, .int .i64 s1, .int .i64 n1, .int .i64 m1, .slice l1 l2 l3] 53)).alloc (.map #[] 0)) := hu1.alloc _
  have HU2 := Lib.hid hu2
  have HB1 := Lib.hid (alloc_old (new_at w (.cells #[.slice f1 q.free.length f3, .int .i64 o1, .slice a1 a2 a3, .int .i64 s1, .int .i64 n1, .int .i64 m1, .slice l1 l2 l3] 53)) (.map #[] 0))
  have hmm := @run_makeMap Tryz.prog
  clear h hv hn hk hin hfn hu1 hu2 h8 hm0 hsz he hse hfe
  go_enter Tryz.func62, Tryz.ntmps62
  go_wp2_with fail
  generalize hW2 : ((w.alloc (.cells #[.slice f1 q.free.length f3, .int .i64 o1, .slice a1 a2 a3, .int .i64 s1, .int .i64 n1, .int .i64 m1, .slice l1 l2 l3] 53)).alloc (.map #[] 0)) = W2 at *
  obtain ⟨bm, hbm, HBM⟩ : ∃ bm, bm = w.heap.size + 1 ∧ Hid (bm = w.heap.size + 1) := ⟨_, rfl, Lib.hid rfl⟩
  rw [← hbm] at HM0 ⊢
  have HBW : Hid (w.heap.size < W2.heap.size) := Lib.hid (by rw [← hW2]; simp; omega)
  clear hW2 hbm hmm
  go_loopw [14] (fun i wr => ∃ j : Nat, j ≤ q.free.length ∧ i = .int .i64 j ∧ Hid (varsE nameF (q.free.drop j) ((q.free.take j).map Prod.fst) = varsE nameF q.free []) ∧ Hid (MapL Tryz.prog 9 wr bm (((q.free.take j).map Prod.fst).map kwE)) ∧ Hid (Upto [bm] W2 wr)) (fun i _ => q.free.length - (intOf i).toNat)
  case atStart => exact ⟨0, by omega, rfl, Lib.hid (by simp), HM0, Lib.hid (Upto.refl _ _)⟩
  case round =>
    obtain ⟨j, hj, rfl, HE, HM, HU⟩ := hrel
    have hj0 : (0 : Int) ≤ j := by omega
    have hb := HU.out.at HB1.out (by have := HBM.out; simp; omega)
    obtain ⟨y0, y1, y2, y3, y4, y5, y6⟩ := cells7 hb
    have HW : Hid (Upto [] w wr) := Lib.hid (HU2.out.trans HU.out (fun k hk => by have := HBM.out; simp at hk; subst hk; right; omega))
    rcases Nat.lt_or_ge j q.free.length with hlt | hge
    · have hltI : (j : Int) < q.free.length := by omega
      obtain ⟨x, hx⟩ : ∃ x, q.free[j]? = some x := ⟨_, List.getElem?_eq_getElem hlt⟩
      have HDR : Hid (q.free.drop j = x :: q.free.drop (j + 1)) := Lib.hid (by
        obtain ⟨hi, h3⟩ := List.getElem?_eq_some_iff.1 hx
        rw [List.drop_eq_getElem_cons hi, h3])
      have HTK : Hid ((q.free.take (j + 1)).map Prod.fst = (q.free.take j).map Prod.fst ++ [x.1]) := Lib.hid (by
        rw [List.take_add_one, hx]
        simp)
      have hnl := HFN.out x (List.mem_of_getElem? hx)
      obtain ⟨g, o, rfl, c0, c1⟩ := HG.out j x hx
      replace c0 := up_cell HW.out c0
      replace c1 := up_cell HW.out c1
      obtain ⟨x1, x2⟩ := x
      simp only at c0 c1 hnl HTK
      have hxa : Upto [] wr (wr.alloc (.cells #[.string ⟨x1.toArray⟩, .int .i64 x2] 86)) := (Upto.refl [] wr).alloc _
      have HXV := Lib.hid (HU.out.trans_same (hxa.mono (by simp)))
      have HXA := Lib.hid (HW.out.trans_ext hxa)
      have HXM := Lib.hid (HM.out.upto hxa (by simp))
      have hn := new_at wr (.cells #[.string ⟨x1.toArray⟩, .int .i64 x2] 86)
      have HN := Lib.hid hn
      obtain ⟨n0, n1⟩ := cells2 hn
      have HC := Lib.hid (HID.out x1 (by omega) _ HXA.out)
      rw [ident_all] at HC
      have hbb : nameF x1 = true ∨ nameF x1 = false := by cases nameF x1 <;> simp
      rcases hbb with hb2 | hb2
      case inr =>
        have HF : Hid (rightF nameF q = 3) := Lib.hid (right_vars H8.out (by decide) (by rw [← HE.out, HDR.out]; unfold varsE; rw [if_pos hb2]))
        rw [hb2] at HC
        clear hx hb hb2 hxa hn hnl
        go_wp2_with fail
        refine HC.out.mono ?_
        rintro e w5 ⟨rfl, hu5⟩
        have HU5 := Lib.hid (HXA.out.trans_ext hu5)
        clear hu5
        go_wp2_with fail
        go_ret
        rw [HF.out]
        exact ⟨rfl, HU5.out⟩
      case inl =>
        have hKx : x1.length ≤ 9223372036854775807 := by omega
        by_cases hs : (decide (x2 < 0) || decide (3 < x2)) = true
        · have HF : Hid (rightF nameF q = 2) := Lib.hid (right_vars H8.out (by decide) (by rw [← HE.out, HDR.out]; unfold varsE; rw [if_neg (by rw [hb2]; decide), if_pos hs]))
          rw [hb2] at HC
          have HSW : Hid (sortW x2 = []) := Lib.hid (sortW_nil.2 (by simpa using hs))
          clear hx hb hb2 hxa hn hnl hs hKx
          go_wp2_with fail
          refine HC.out.mono ?_
          rintro e w5 ⟨rfl, hu5⟩
          have HU5 := Lib.hid (HXA.out.trans_ext hu5)
          have HS := Lib.hid (HSN.out x2 _ HU5.out)
          rw [HSW.out] at HS
          have hb5 := hu5.at HN.out (by simp)
          obtain ⟨z0, z1⟩ := cells2 hb5
          clear hu5 hb5 z0
          go_wp2_with fail
          refine HS.out.mono ?_
          rintro e w6 ⟨rfl, hu6⟩
          have HU6 := Lib.hid (HU5.out.trans_ext hu6)
          clear hu6
          go_wp2_with fail
          go_ret
          rw [HF.out]
          exact ⟨rfl, HU6.out⟩
        have HS9 := Lib.hid hs
        have HSW : Hid (sortW x2 ≠ []) := Lib.hid (fun e => hs (by have := sortW_nil.1 e; simpa using this))
        have HNM := Lib.hid hb2
        rw [hb2] at HC
        obtain ⟨SW, hSW⟩ : ∃ SW, SW = sortW x2 := ⟨_, rfl⟩
        have hsw0 : SW ≠ [] := by rw [hSW]; exact HSW.out
        have HSV : Hid (sortW x2 = SW) := Lib.hid hSW.symm
        have e1 : (SW == []) = false := by simpa using hsw0
        have e2 : SW.isEmpty = false := by cases SW with | nil => exact absurd rfl hsw0 | cons a r => rfl
        clear hx hb hb2 hxa hn hnl hs hSW hsw0
        go_wp2_with fail
        refine HC.out.mono ?_
        rintro e w5 ⟨rfl, hu5⟩
        have HU5 := Lib.hid (HXA.out.trans_ext hu5)
        have HV5 := Lib.hid (HXV.out.trans_same (hu5.mono (by simp)))
        have HM5 := Lib.hid (HXM.out.upto hu5 (by simp))
        have HS := Lib.hid (HSN.out x2 _ HU5.out)
        rw [HSV.out] at HS
        have HN5 := Lib.hid (hu5.at HN.out (by simp))
        have hb5 := HN5.out
        obtain ⟨z0, z1⟩ := cells2 hb5
        clear hu5 hb5
        go_wp2_with fail
        refine HS.out.mono ?_
        rintro e w6 ⟨rfl, hu6⟩
        have HU6 := Lib.hid (HU5.out.trans_ext hu6)
        have HV6 := Lib.hid (HV5.out.trans_same (hu6.mono (by simp)))
        have HM6 := Lib.hid (HM5.out.upto hu6 (by simp))
        have hb6 := hu6.at HN5.out (by simp)
        obtain ⟨u0, u1⟩ := cells2 hb6
        have hlk := seen_look HM6.out x1 hKx
        clear hu6 hb6 z0 z1
        have hbb : ((q.free.take j).map Prod.fst).contains x1 = true ∨ ((q.free.take j).map Prod.fst).contains x1 = false := by cases ((q.free.take j).map Prod.fst).contains x1 <;> simp
        rcases hbb with hb2 | hb2
        · have HF : Hid (rightF nameF q = 7) := Lib.hid (right_vars H8.out (by decide) (by
            rw [← HE.out, HDR.out]; unfold varsE
            rw [if_neg (by rw [HNM.out]; decide), if_neg HS9.out, if_pos hb2]))
          rw [hb2] at hlk
          clear hb2
          go_wp2_with fail
          go_ret
          rw [HF.out]
          exact ⟨rfl, HU6.out⟩
        · have HE2 : Hid (varsE nameF (q.free.drop (j + 1)) ((q.free.take (j + 1)).map Prod.fst) = varsE nameF q.free []) := Lib.hid (by
            rw [HTK.out, ← HE.out, HDR.out]
            conv => rhs; unfold varsE
            rw [if_neg (by rw [HNM.out]; decide), if_neg HS9.out, if_neg (by rw [hb2]; decide)])
          have HNW := Lib.hid (seen_new hb2)
          have HKX := Lib.hid (sb_key hKx)
          have HT2 : Hid (((q.free.take (j + 1)).map Prod.fst).map kwE = ((q.free.take j).map Prod.fst).map kwE ++ [(sb x1, .bool true)]) := Lib.hid (by rw [HTK.out, List.map_append]; rfl)
          rw [hb2] at hlk
          clear hb2
          go_wp2_with (refine wpList_insert _ rfl _ _ _ 114 rfl 9 4 lawS Tryz.underlying114 bm _ rfl HM6.out (sb x1) (.bool true) _ rfl rfl HKX.out HNW.out ?_; intro w7 hm7 hg7)
          have HM7 := Lib.hid hm7
          have HV7 := Lib.hid (HV6.out.grown hg7 (fun k hk => by cases hk; simp))
          clear hm7 hg7 hlk
          go_wp2_with fail
          go_roundw
          case rel => exact ⟨j + 1, by omega, by go_num, HE2, by rw [HT2.out]; exact HM7, HV7⟩
          case measure => simp [intOf]; omega
    · have hgeI : ¬ (j : Int) < q.free.length := by omega
      have HF : Hid (rightF nameF q = checkF nameF q.body) := Lib.hid (right_body H8.out (by
        rw [← HE.out, List.drop_of_length_le (by omega)]
        rfl))
      have HC := Lib.hid (HCK.out wr HW.out)
      clear hb
      go_wp2_with fail
      refine HC.out.mono ?_
      rintro e w5 ⟨rfl, hu5⟩
      have HU5 := Lib.hid (HW.out.trans_ext hu5)
      clear hu5
      go_wp2_with fail
      go_ret
      rw [HF.out]
      exact ⟨rfl, HU5.out⟩
end Go.Proofs.YtbnebkkpmcjmbaaGreatDoor


namespace Go.Proofs.YtbnebkkpmcjmbaaGreatDoor
open Go.RowKit Go.PL Go.Maps
theorem adj_right : rightF nameF ⟨[], adjN⟩ = 0 := by kernel_rfl
set_option maxRecDepth 100000 in
set_option maxHeartbeats 2000000 in
theorem check9_calls (g1 o1 c1 gl ol cl g o c2 : Nat) (so nn mm : Int) (a3 : Option Addr) (c3 : Nat) (P : Nat → Prop) (w : World) (hE : Env w ∧ SEnv w ∧ FEnv w) (hv : NdV w P adjN (.agg #[.int .i64 16, .slice (some ⟨g1, o1, none⟩) 1 c1, .int .i64 0, .int .i64 0, .int .i64 0, .slice (some ⟨gl, ol, none⟩) 1 cl])) (hn : w.cell? ⟨g1, o1, none⟩ = some (sV [121])) (h0 : w.cell? ⟨g, o, none⟩ = some (sV [120])) (hl : LfB w gl ol (some ⟨g, o, none⟩) 2 c2 so nn mm a3 c3) : Calls Tryz.prog 37 #[.agg #[.slice none 0 0, .int .i64 16, .slice (some ⟨g1, o1, none⟩) 1 c1, .int .i64 0, .int .i64 0, .int .i64 0, .slice (some ⟨gl, ol, none⟩) 1 cl]] w fun e w' => e = .returned (.agg #[.int .i64 21, .string ⟨#[120]⟩]) ∧ Upto [] w w' := by
  obtain ⟨W, hW⟩ : ∃ W, W = (w.alloc (.cells #[.slice none 0 0, .int .i64 16, .slice (some ⟨g1, o1, none⟩) 1 c1, .int .i64 0, .int .i64 0, .int .i64 0, .slice (some ⟨gl, ol, none⟩) 1 cl] 53)).alloc (.cells #[.int .i64 0, .string ⟨#[]⟩] 64) := ⟨_, rfl⟩
  have HU : Hid (Upto [] w W) := Lib.hid (by rw [hW]; exact ((Upto.refl [] w).alloc _).alloc _)
  have HB1 : Hid (W.heap[w.heap.size]? = some (.cells #[.slice none 0 0, .int .i64 16, .slice (some ⟨g1, o1, none⟩) 1 c1, .int .i64 0, .int .i64 0, .int .i64 0, .slice (some ⟨gl, ol, none⟩) 1 cl] 53 (0, 0))) := Lib.hid (by rw [hW]; exact alloc_old (new_at w _) _)
  have HB2 : Hid (W.heap[w.heap.size + 1]? = some (.cells #[.int .i64 0, .string ⟨#[]⟩] 64 (0, 0))) := Lib.hid (by rw [hW]; exact new_at1 w _ _)
  have HCQ : Hid (∀ u, Upto [] w u → Calls Tryz.prog 62 #[.agg #[.slice none 0 0, .int .i64 16, .slice (some ⟨g1, o1, none⟩) 1 c1, .int .i64 0, .int .i64 0, .int .i64 0, .slice (some ⟨gl, ol, none⟩) 1 cl]] u fun e w' => e = .returned (.int .i64 0) ∧ Upto [] u w') := Lib.hid (fun u hu => by
    have := checkq_calls ⟨[], adjN⟩ (.agg #[.slice none 0 0, .int .i64 16, .slice (some ⟨g1, o1, none⟩) 1 c1, .int .i64 0, .int .i64 0, .int .i64 0, .slice (some ⟨gl, ol, none⟩) 1 cl]) u P ⟨_, _, _, _, _, _, _, rfl, SlP.nil, hv.ext hu⟩ (by decide) adj_in (by simp) ⟨hE.1.ext hu, hE.2.1.upto hu (by simp), hE.2.2.ext hu⟩
    rw [adj_right] at this
    exact this)
  have HCK := Lib.hid (fun b u (hu : Upto [] w u) hb => check16_calls g1 o1 c1 gl ol cl g o c2 so nn mm a3 c3 b u hb ((hu.cell (World.block_lt_of_cell? w _ hn) (by simp)).trans hn) ((hu.cell (World.block_lt_of_cell? w _ h0) (by simp)).trans h0) (hl.ext hu))
  obtain ⟨x0, x1, x2, x3, x4, x5, x6⟩ := cells7 HB1.out
  clear hl h0 hn hv hE
  have hmm := @run_makeMap Tryz.prog
  go_enter Tryz.func37, Tryz.ntmps37
  go_wp2_with fail
  simp only [← hW]
  clear hW
  go_wp2_with fail
  refine (HCQ.out _ HU.out).mono ?_
  rintro e w1 ⟨rfl, hu1⟩
  have HU1 := Lib.hid (HU.out.trans_ext hu1)
  have HB3 := Lib.hid (hu1.at HB1.out (by simp))
  have HR3 := Lib.hid (hu1.at HB2.out (by simp))
  clear hu1 x0 x1 x2 x3 x4 x5 x6
  obtain ⟨W4, hW4⟩ : ∃ W4, W4 = w1.alloc (.map #[] 0) := ⟨_, rfl⟩
  have HU4 : Hid (Upto [] w W4) := Lib.hid (by rw [hW4]; exact HU1.out.alloc _)
  have HB4 : Hid (W4.heap[w.heap.size]? = some (.cells #[.slice none 0 0, .int .i64 16, .slice (some ⟨g1, o1, none⟩) 1 c1, .int .i64 0, .int .i64 0, .int .i64 0, .slice (some ⟨gl, ol, none⟩) 1 cl] 53 (0, 0))) := Lib.hid (by rw [hW4]; exact alloc_old HB3.out _)
  have HR4 : Hid (W4.heap[w.heap.size + 1]? = some (.cells #[.int .i64 0, .string ⟨#[]⟩] 64 (0, 0))) := Lib.hid (by rw [hW4]; exact alloc_old HR3.out _)
  have HM4 : Hid (W4.heap[w1.heap.size]? = some (.map #[] 0)) := Lib.hid (by rw [hW4]; exact (Go.MapKept.heap_alloc w1 _).1)
  obtain ⟨x0, x1, x2, x3, x4, x5, x6⟩ := cells7 HB4.out
  rw [hW4] at x0 x1 x2 x3 x4 x5 x6
  go_wp2_with fail
  simp only [← hW4] at x0 x1 x2 x3 x4 x5 x6 ⊢
  clear hW4
  go_loopw [17] (fun vi wr => vi = .int .i64 0 ∧ wr = W4) (fun _ _ => 0)
  case atStart => exact ⟨rfl, rfl⟩
  case round =>
    obtain ⟨rfl, rfl⟩ := hrel
    go_wp2_with fail
    refine (HCK.out _ _ HU4.out HM4.out).mono ?_
    rintro e w7 ⟨rfl, hu7⟩
    have HR7 := Lib.hid (hu7.at HR4.out (by simp))
    have HU7 := Lib.hid (HU4.out.trans_ext hu7)
    clear hu7 x0 x1 x2 x3 x4 x5 x6
    obtain ⟨y0, y1⟩ := cells2 HR7.out
    obtain ⟨f0, f1⟩ := frees2 HR7.out
    go_wp2_with fail
    clear y0 y1 f0 f1
    have hst := set_same (set_same HR7.out 0 (.int .i64 21)) 1 (.string ⟨#[120]⟩)
    simp only [List.setIfInBounds_toArray, List.set_cons_zero, List.set_cons_succ] at hst
    have hup := (HU7.out.setCell (p := ⟨w.heap.size + 1, 0, none⟩) (Or.inr (by simp)) (.int .i64 21)).setCell (p := ⟨w.heap.size + 1, 1, none⟩) (Or.inr (by simp)) (.string ⟨#[120]⟩)
    obtain ⟨q0, q1⟩ := cells2 hst
    exact bodyPost_ret (v := .agg #[.int .i64 21, .string ⟨#[120]⟩]) (by simp [results, Tryz.results37, go_sem, q0, q1]) rfl ⟨rfl, hup⟩
end Go.Proofs.YtbnebkkpmcjmbaaGreatDoor


namespace Go.Proofs.YtbnebkkpmcjmbaaGreatDoor
open Go.RowKit Go.PL Go.Maps
theorem fresh_a3 : freshF [97] [[97], [97, 50]] = [97, 51] := by kernel_rfl
set_option maxRecDepth 100000 in
set_option maxHeartbeats 4000000 in
theorem known12_calls (w : World) (hE : Env w ∧ SEnv w ∧ FEnv w) : Calls Tryz.prog 9 #[] w fun e w' => e = .returned (.bool true) ∧ Upto [] w w' := by
  obtain ⟨he, hse, hfe⟩ := hE
  obtain ⟨W, hW⟩ : ∃ W, W = (((w.alloc (.cells #[.string ⟨#[121]⟩] 9)).alloc (.cells #[.string ⟨#[120]⟩, .string ⟨#[121]⟩] 9)).alloc (.cells #[.int .i64 5, .slice (some ⟨w.heap.size + 1, 0, none⟩) 2 2, .int .i64 0, .int .i64 0, .int .i64 0, .slice none 0 0] 30)).alloc (.cells #[.int .i64 16, .slice (some ⟨w.heap.size, 0, none⟩) 1 1, .int .i64 0, .int .i64 0, .int .i64 0, .slice (some ⟨w.heap.size + 1 + 1, 0, none⟩) 1 1] 30) := ⟨_, rfl⟩
  have HU : Hid (Upto [] w W) := Lib.hid (by rw [hW]; exact ((((Upto.refl [] w).alloc _).alloc _).alloc _).alloc _)
  have HB0 : Hid (W.heap[w.heap.size]? = some (.cells #[.string ⟨#[121]⟩] 9 (0, 0))) := Lib.hid (by rw [hW]; exact alloc_old (alloc_old (alloc_old (new_at w _) _) _) _)
  have HB1 : Hid (W.heap[w.heap.size + 1]? = some (.cells #[.string ⟨#[120]⟩, .string ⟨#[121]⟩] 9 (0, 0))) := Lib.hid (by rw [hW]; exact alloc_old (alloc_old (new_at1 w _ _) _) _)
  have HB2 : Hid (W.heap[w.heap.size + 1 + 1]? = some (.cells #[.int .i64 5, .slice (some ⟨w.heap.size + 1, 0, none⟩) 2 2, .int .i64 0, .int .i64 0, .int .i64 0, .slice none 0 0] 30 (0, 0))) := Lib.hid (by rw [hW]; exact alloc_old (new_at2 w _ _ _) _)
  have HB3 : Hid (W.heap[w.heap.size + 1 + 1 + 1]? = some (.cells #[.int .i64 16, .slice (some ⟨w.heap.size, 0, none⟩) 1 1, .int .i64 0, .int .i64 0, .int .i64 0, .slice (some ⟨w.heap.size + 1 + 1, 0, none⟩) 1 1] 30 (0, 0))) := Lib.hid (by
    rw [hW]
    have := new_at (((w.alloc (.cells #[.string ⟨#[121]⟩] 9)).alloc (.cells #[.string ⟨#[120]⟩, .string ⟨#[121]⟩] 9)).alloc (.cells #[.int .i64 5, .slice (some ⟨w.heap.size + 1, 0, none⟩) 2 2, .int .i64 0, .int .i64 0, .int .i64 0, .slice none 0 0] 30)) (.cells #[.int .i64 16, .slice (some ⟨w.heap.size, 0, none⟩) 1 1, .int .i64 0, .int .i64 0, .int .i64 0, .slice (some ⟨w.heap.size + 1 + 1, 0, none⟩) 1 1] 30)
    simpa using this)
  have HND : Hid (NdV W (fun _ => True) adjN (.agg #[.int .i64 16, .slice (some ⟨w.heap.size, 0, none⟩) 1 1, .int .i64 0, .int .i64 0, .int .i64 0, .slice (some ⟨w.heap.size + 1 + 1, 0, none⟩) 1 1])) := Lib.hid (NdV.one (SlP.block trivial HB0.out 1 1 [sV [121]] (fun j u hj => by simpa [sV] using hj)) (NdV.atom (SlP.block trivial HB1.out 2 2 [sV [120], sV [121]] (fun j u hj => by simpa [sV] using hj))) trivial HB2.out)
  have HLF : Hid (LfB W (w.heap.size + 1 + 1) 0 (some ⟨w.heap.size + 1, 0, none⟩) 2 2 0 0 0 none 0) := Lib.hid (by
    obtain ⟨k0, k1, k2, k3, k4, k5⟩ := cells6 HB2.out
    exact ⟨k0, k1, k2, k3, k4, k5⟩)
  have HN1 : Hid (W.cell? ⟨w.heap.size, 0, none⟩ = some (sV [121])) := Lib.hid (cell_of HB0.out 0)
  have HN0 : Hid (W.cell? ⟨w.heap.size + 1, 0, none⟩ = some (sV [120])) := Lib.hid (cell_of HB1.out 0)
  have HRN := Lib.hid (renameT_calls (some ⟨w.heap.size, 0, none⟩) (some ⟨w.heap.size + 1 + 1, 0, none⟩) 1 1 _ W (he.ext HU.out) (hfe.ext HU.out) HND.out)
  have HC9 := Lib.hid (fun u (hu : Upto [] W u) => check9_calls w.heap.size 0 1 (w.heap.size + 1 + 1) 0 1 (w.heap.size + 1) 0 2 0 0 0 none 0 _ u ⟨(he.ext HU.out).ext hu, (hse.upto HU.out (by simp)).upto hu (by simp), (hfe.ext HU.out).ext hu⟩ (HND.out.ext hu) ((hu.cell (World.block_lt_of_cell? W _ HN1.out) (by simp)).trans HN1.out) ((hu.cell (World.block_lt_of_cell? W _ HN0.out) (by simp)).trans HN0.out) (HLF.out.ext hu))
  have HRK := Lib.hid (fun u (hu : Upto [] W u) => rank16_calls w.heap.size 0 1 (w.heap.size + 1 + 1) 0 1 (some ⟨w.heap.size + 1, 0, none⟩) 2 2 0 0 0 none 0 u (HLF.out.ext hu))
  have HFR := Lib.hid (fun (u : World) (hu : Upto [] W u) (v : Value) (h : SlP u (fun _ => True) v 2 [sV [97], sV [97, 50]]) => freshP_calls [97] [[97], [97, 50]] v u _ h (by decide) (by decide) ((he.ext HU.out).ext hu))
  clear he hse hfe
  go_enter Tryz.func9, Tryz.ntmps9
  go_wp2_with fail
  simp only [← hW]
  clear hW
  refine HRN.out.mono ?_
  rintro e w1 ⟨g1, o1, c1, gl, ol, cl, g, o, c2, c3, a3, rfl, hq, hu1⟩
  have HQ2 := Lib.hid (hq.ext ((Upto.refl [] w1).alloc (.cells #[.int .i64 16, .slice (some ⟨g1, o1, none⟩) 1 c1, .int .i64 0, .int .i64 0, .int .i64 0, .slice (some ⟨gl, ol, none⟩) 1 cl] 30)))
  have HU2 := Lib.hid (hu1.alloc (.cells #[.int .i64 16, .slice (some ⟨g1, o1, none⟩) 1 c1, .int .i64 0, .int .i64 0, .int .i64 0, .slice (some ⟨gl, ol, none⟩) 1 cl] 30))
  obtain ⟨k0, k1, k2, k3, k4, k5⟩ := cells6 (HU2.out.at HB3.out (by simp))
  obtain ⟨m0, -, m1, m2, m3, m4, m5, m6⟩ := HQ2.out.cells
  obtain ⟨t2, cs2, hnm⟩ := HQ2.out.nm
  obtain ⟨n0, n1, -, -⟩ := hnm.cells
  unfold sV at m0 n0 n1
  clear hq hu1 hnm
  go_wp2_with fail
  refine (HC9.out _ HU2.out).mono ?_
  rintro e w3 ⟨rfl, hu3⟩
  have HU4 := Lib.hid ((HU2.out.trans_ext hu3).alloc (.cells #[.int .i64 21, .string ⟨#[120]⟩] 64))
  clear hu3 k0 k1 k2 k3 k4 k5 m0 m1 m2 m3 m4 m5 m6 n0 n1
  obtain ⟨k0, k1, k2, k3, k4, k5⟩ := cells6 (HU4.out.at HB3.out (by simp))
  go_wp2_with fail
  refine (HRK.out _ HU4.out).mono ?_
  rintro e w5 ⟨rfl, hu5⟩
  have HU6 := Lib.hid ((HU4.out.trans_ext hu5).alloc (.cells #[.string ⟨#[97]⟩, .string ⟨#[97, 50]⟩] 9))
  clear hu5 k0 k1 k2 k3 k4 k5
  have HF6 := Lib.hid (HFR.out _ HU6.out _ (SlP.block trivial (new_at w5 (.cells #[.string ⟨#[97]⟩, .string ⟨#[97, 50]⟩] 9)) 2 2 [sV [97], sV [97, 50]] (fun j u hj => by simpa [sV] using hj)))
  go_wp2_with fail
  refine HF6.out.mono ?_
  rintro e w7 ⟨rfl, hu7⟩
  rw [fresh_a3]
  have HU7 := Lib.hid (HU.out.trans_ext (HU6.out.trans_ext hu7))
  clear hu7
  go_wp2_with fail
  go_ret
  exact ⟨rfl, HU7.out⟩
end Go.Proofs.YtbnebkkpmcjmbaaGreatDoor


namespace Go.Proofs.YtbnebkkpmcjmbaaGreatDoor
open Go.RowKit Go.PL Go.Maps
set_option maxRecDepth 100000 in
set_option maxHeartbeats 3200000 in
theorem same_calls (ls : List (List UInt8)) (va vb : Value) (w : World) (P Q : Nat → Prop) (h : SlP w P va ls.length (ls.map sV)) (h2 : SlP w Q vb ls.length (ls.map sV)) (hl : ls.length ≤ 1000000) : Calls Tryz.prog 22 #[va, vb] w fun e w' => e = .returned (.bool true) ∧ Upto [] w w' := by
  obtain ⟨a, c, rfl⟩ := h.len
  obtain ⟨b, d, rfl⟩ := h2.len
  have HS := Lib.hid h
  have HT := Lib.hid h2
  generalize hn : ls.length = n at *
  have HN := Lib.hid hn
  have hn0 : (0 : Int) ≤ n := by omega
  have hn1 : (n : Int) ≤ 1000000 := by omega
  clear h h2 hn
  go_enter Tryz.func22, Tryz.ntmps22
  go_wp2_with fail
  go_loopw [5] (fun i wr => ∃ j : Nat, j ≤ n ∧ i = .int .i64 j ∧ Hid (Upto [] w wr)) (fun i _ => n - (intOf i).toNat)
  case atStart => exact ⟨0, by omega, rfl, Lib.hid (Upto.refl _ _)⟩
  case round =>
    obtain ⟨j, hj, rfl, HU⟩ := hrel
    have hj0 : (0 : Int) ≤ j := by omega
    rcases Nat.lt_or_ge j n with hlt | hge
    · obtain ⟨y, hy⟩ : ∃ y, ls[j]? = some y := ⟨_, List.getElem?_eq_getElem (by have := HN.out; omega)⟩
      obtain ⟨g, o, rfl, hc⟩ := slp_cell HS.out HN.out j y hy
      obtain ⟨g2, o2, rfl, hc2⟩ := slp_cell HT.out HN.out j y hy
      have e0 : ∀ u : Ext wr, u.w.cell? ⟨g, o + j, none⟩ = some (.string ⟨y.toArray⟩) := fun u => hc u.w (HU.out.trans_ext u.up)
      have e1 : ∀ u : Ext wr, u.w.cell? ⟨g2, o2 + j, none⟩ = some (.string ⟨y.toArray⟩) := fun u => hc2 u.w (HU.out.trans_ext u.up)
      have hltI : (j : Int) < n := by omega
      have hne : (y != y) = false := by simp
      clear hc hc2 hy
      go_wp2_with fail
      refine wp_region_seg_all [] [] [0, 1, 2, 3, 4, 5, 6, 7, 8] (by kernel_rfl) (by kernel_rfl) ?_
      with_reducible refine seg_plain (o := ?o1) ?hi1 ?hA1 ?hC1 ?hp1 ?hw1 ?h1
      case hi1 => rfl
      case hA1 => rfl
      case hC1 => rfl
      case hp1 => rfl
      case hw1 => kernel_rfl
      intro K' hK'
      go_big_quiet_op
      go_big_quiet_on
      with_reducible refine seg_plain (o := ?o2) ?hi2 ?hA2 ?hC2 ?hp2 ?hw2 ?h2
      case hi2 => rfl
      case hA2 => rfl
      case hC2 => rfl
      case hp2 => rfl
      case hw2 => kernel_rfl
      intro K' hK'
      go_big_quiet_op
      go_big_quiet_on
      with_reducible refine seg_plain (o := ?o3) ?hi3 ?hA3 ?hC3 ?hp3 ?hw3 ?h3
      case hi3 => rfl
      case hA3 => rfl
      case hC3 => rfl
      case hp3 => rfl
      case hw3 => kernel_rfl
      intro K' hK'
      go_big_quiet_op
      go_big_quiet_on
      with_reducible refine seg_plain (o := ?o4) ?hi4 ?hA4 ?hC4 ?hp4 ?hw4 ?h4
      case hi4 => rfl
      case hA4 => rfl
      case hC4 => rfl
      case hp4 => rfl
      case hw4 => kernel_rfl
      intro K' hK'
      go_big_quiet_op
      go_big_quiet_on
      with_reducible refine seg_plain (o := ?o5) ?hi5 ?hA5 ?hC5 ?hp5 ?hw5 ?h5
      case hi5 => rfl
      case hA5 => rfl
      case hC5 => rfl
      case hp5 => rfl
      case hw5 => kernel_rfl
      intro K' hK'
      go_big_quiet_op
      go_big_quiet_on
      with_reducible refine seg_plain (o := ?o6) ?hi6 ?hA6 ?hC6 ?hp6 ?hw6 ?h6
      case hi6 => rfl
      case hA6 => rfl
      case hC6 => rfl
      case hp6 => rfl
      case hw6 => kernel_rfl
      intro K' hK'
      go_big_quiet_op
      go_big_quiet_on
      with_reducible refine seg_plain (o := ?o7) ?hi7 ?hA7 ?hC7 ?hp7 ?hw7 ?h7
      case hi7 => rfl
      case hA7 => rfl
      case hC7 => rfl
      case hp7 => rfl
      case hw7 => kernel_rfl
      intro K' hK'
      go_big_quiet_op
      go_big_quiet_on
      with_reducible refine seg_plain (o := ?o8) ?hi8 ?hA8 ?hC8 ?hp8 ?hw8 ?h8
      case hi8 => rfl
      case hA8 => rfl
      case hC8 => rfl
      case hp8 => rfl
      case hw8 => kernel_rfl
      intro K' hK'
      go_big_quiet_op
      go_big_quiet_on
      with_reducible refine seg_plain (o := ?o9) ?hi9 ?hA9 ?hC9 ?hp9 ?hw9 ?h9
      case hi9 => rfl
      case hA9 => rfl
      case hC9 => rfl
      case hp9 => rfl
      case hw9 => kernel_rfl
      intro K' hK'
      go_big_quiet_op
      go_big_quiet_on
      intro w9 hg
      have HU9 := Lib.hid (HU.out.trans_ext hg.up)
      clear hg e0 e1
      go_wp2_with fail
      go_roundw
      case rel => exact ⟨j + 1, by omega, by go_num, HU9⟩
      case measure => simp [intOf]; omega
    · obtain rfl : j = n := by omega
      have hgeI : ¬ (j : Int) < j := by omega
      go_wp2_with fail
      go_ret
      exact ⟨rfl, HU.out⟩
set_option maxRecDepth 100000 in
set_option maxHeartbeats 3200000 in
theorem short_calls (nd : Nd) (v : Value) (w : World) (P : Nat → Prop) (h : NdV w P nd v) (hk : sizeF nd ≤ 10000000) : Calls Tryz.prog 10 #[v] w fun e w' => e = .returned (.bool (decide (sizeF nd ≤ 60) && decide (depthF nd ≤ 20))) ∧ Upto [] w w' := by
  obtain ⟨op, a1, n1, c1, so, nn, mm, a2, n2, c2, rfl⟩ := h.six
  obtain ⟨W, hW⟩ : ∃ W, W = w.alloc (.cells #[.int .i64 op, .slice a1 n1 c1, .int .i64 so, .int .i64 nn, .int .i64 mm, .slice a2 n2 c2] 25) := ⟨_, rfl⟩
  have HU1 : Hid (Upto [] w W) := Lib.hid (by rw [hW]; exact (Upto.refl [] w).alloc _)
  have HB1 : Hid (W.heap[w.heap.size]? = some (.cells #[.int .i64 op, .slice a1 n1 c1, .int .i64 so, .int .i64 nn, .int .i64 mm, .slice a2 n2 c2] 25 (0, 0))) := Lib.hid (by rw [hW]; exact new_at w _)
  have HC1 := Lib.hid (fun u (hu : Upto [] w u) => count_calls 10000000 nd hk (by omega) _ u P (h.ext hu))
  have HC2 := Lib.hid (fun u (hu : Upto [] w u) => deep_calls 10000000 nd hk (by omega) _ u P (h.ext hu))
  have hd := depth_le_size nd
  generalize sizeF nd = N at *
  generalize depthF nd = D at *
  have hN0 : (0 : Int) ≤ N := by omega
  have hN1 : (N : Int) ≤ 10000000 := by omega
  have hD0 : (0 : Int) ≤ D := by omega
  have hD1 : (D : Int) ≤ 10000000 := by omega
  obtain ⟨x0, x1, x2, x3, x4, x5⟩ := cells6 HB1.out
  clear h hd hk
  go_enter Tryz.func10, Tryz.ntmps10
  go_wp2_with fail
  simp only [← hW]
  clear hW
  try go_wp2_with fail
  refine (HC1.out _ HU1.out).mono ?_
  rintro e w2 ⟨rfl, hu2⟩
  have HU2 := Lib.hid (HU1.out.trans_ext hu2)
  have HB2 := Lib.hid (hu2.at HB1.out (by simp))
  clear hu2 x0 x1 x2 x3 x4 x5
  obtain ⟨x0, x1, x2, x3, x4, x5⟩ := cells6 HB2.out
  by_cases h60 : N ≤ 60
  · have h60I : (N : Int) ≤ 60 := by omega
    go_wp2_with fail
    refine (HC2.out _ HU2.out).mono ?_
    rintro e w3 ⟨rfl, hu3⟩
    have HU3 := Lib.hid (HU2.out.trans_ext hu3)
    clear hu3
    by_cases h20 : D ≤ 20
    · have h20I : (D : Int) ≤ 20 := by omega
      go_wp2_with fail
      go_ret
      exact ⟨ret_bool (by simp [h60, h20] <;> omega), HU3.out⟩
    · have h20I : ¬ (D : Int) ≤ 20 := by omega
      go_wp2_with fail
      go_ret
      exact ⟨ret_bool (by simp [h60, h20] <;> omega), HU3.out⟩
  · have h60I : ¬ (N : Int) ≤ 60 := by omega
    go_wp2_with fail
    go_ret
    exact ⟨ret_bool (by simp [h60] <;> omega), HU2.out⟩
theorem form_parts {op so n m : Int} {nms : List (List UInt8)} {l : List Nd} (h : formF nameF (.mk op nms so n m l) = 0) : kindBad op = false ∧ shapeBad op nms.length l.length = false ∧ rangeBad op so n m = false ∧ formsF nameF l = 0 := by
  unfold formF at h
  split at h
  · cases h
  · rename_i h1
    split at h
    · cases h
    · rename_i h2
      split at h
      · cases h
      · split at h
        · cases h
        · split at h
          · cases h
          · rename_i h5
            exact ⟨by simpa using h1, by simpa using h2, by simpa using h5, h⟩
theorem forms_parts {x : Nd} {xs : List Nd} (h : formsF nameF (x :: xs) = 0) : formF nameF x = 0 ∧ formsF nameF xs = 0 := by
  unfold formsF at h
  split at h
  · rename_i h1
    exact absurd h h1
  · rename_i h1
    exact ⟨by simpa using h1, h⟩
theorem names_most {op : Int} {k n : Nat} (h : shapeBad op k n = false) : k ≤ 17 ∧ (op = 10 ∨ op = 16 ∨ op = 17 → 0 < k) := by
  simp only [shapeBad, Bool.or_eq_false_iff, decide_eq_false_iff_not] at h
  obtain ⟨⟨h1, h2⟩, -⟩ := h
  unfold hasF at h1 h2
  constructor
  · split at h2
    · simp at h2; omega
    · split at h2
      · simp at h2; omega
      · split at h2
        · simp at h2; omega
        · split at h2
          · simp at h2; omega
          · split at h2
            · simp at h2; omega
            · split at h2 <;> simp at h2 <;> omega
  · intro ho
    rcases ho with rfl | rfl | rfl <;> simp at h1 <;> omega
mutual
theorem good_of : ∀ n : Nd, formF nameF n = 0 → goodN n ∧ sortN n ∧ nmsF n ≤ 17 * sizeF n
  | .mk op nms so nn mm l, h => by
    obtain ⟨-, h2, h3, h4⟩ := form_parts h
    obtain ⟨k1, k2, k3⟩ := goods_of l h4
    obtain ⟨m1, m2⟩ := names_most h2
    unfold goodN sortN nmsF sizeF
    refine ⟨⟨m2, k1⟩, ⟨fun ho => ?_, k2⟩, by omega⟩
    simp only [rangeBad, Bool.or_eq_false_iff, decide_eq_false_iff_not] at h3
    obtain ⟨⟨-, h5⟩, h6⟩ := h3
    omega
theorem goods_of : ∀ l : List Nd, formsF nameF l = 0 → goodsN l ∧ sortsN l ∧ nmssF l ≤ 17 * sizesF l
  | [], _ => by unfold goodsN sortsN; simp [nmssF]
  | x :: xs, h => by
    obtain ⟨h1, h2⟩ := forms_parts h
    obtain ⟨k1, k2, k3⟩ := good_of x h1
    obtain ⟨j1, j2, j3⟩ := goods_of xs h2
    unfold goodsN sortsN nmssF sizesF
    exact ⟨⟨k1, j1⟩, ⟨k2, j2⟩, by omega⟩
end
theorem form_of_check {n : Nd} (h : checkF nameF n = 0) : formF nameF n = 0 := by
  unfold checkF at h
  split at h
  · rename_i h1
    exact absurd h h1
  · rename_i h1
    simpa using h1
end Go.Proofs.YtbnebkkpmcjmbaaGreatDoor


namespace Go.Proofs.YtbnebkkpmcjmbaaGreatDoor
open Go.RowKit Go.PL Go.Maps
theorem fq_out {w w2 : World} {ls : List (List UInt8)} {e : Ending} (h : FqPost w ls e w2) : ∃ y : Option Addr × Nat, e = .returned (.slice y.1 ls.length y.2) ∧ Upto [] w w2 ∧ SlP w2 (fun _ => True) (.slice y.1 ls.length y.2) ls.length (ls.map sV) ∧ ∀ b ∈ ([] : List Nat), w.heap.size ≤ b ∧ b < w2.heap.size := by
  obtain ⟨v, rfl, h2⟩ := h
  obtain ⟨a, c, rfl⟩ := h2.slp.len
  exact ⟨(a, c), rfl, h2.up, h2.slp.mono (fun _ _ _ => trivial), fun b hb => by cases hb⟩
set_option maxRecDepth 100000 in
set_option maxHeartbeats 12800000 in
theorem scopeNames_walk (nd : Nd) (v : Value) (w : World) (hq : ArgN w nd v) (hE : Env w ∧ SEnv w ∧ FEnv w) : Calls Tryz.prog 6 #[v] w fun e w' => e = .returned (.bool true) ∧ Upto [] w w' := by
  obtain ⟨h, hsz, hin⟩ := hq
  obtain ⟨op, a1, n1, c1, so, nn, mm, a2, n2, c2, rfl⟩ := h.six
  obtain ⟨W, hW⟩ : ∃ W, W = w.alloc (.cells #[.int .i64 op, .slice a1 n1 c1, .int .i64 so, .int .i64 nn, .int .i64 mm, .slice a2 n2 c2] 25) := ⟨_, rfl⟩
  have HU1 : Hid (Upto [] w W) := Lib.hid (by rw [hW]; exact (Upto.refl [] w).alloc _)
  have HB1 : Hid (W.heap[w.heap.size]? = some (.cells #[.int .i64 op, .slice a1 n1 c1, .int .i64 so, .int .i64 nn, .int .i64 mm, .slice a2 n2 c2] 25 (0, 0))) := Lib.hid (by rw [hW]; exact new_at w _)
  have HKN := Lib.hid (fun u (hu : Upto [] w u) => known12_calls u ⟨hE.1.ext hu, hE.2.1.upto hu (by simp), hE.2.2.ext hu⟩)
  have HSH := Lib.hid (fun u (hu : Upto [] w u) => short_calls nd _ u _ (h.ext hu) (by omega))
  have HCK := Lib.hid (fun u (hu : Upto [] w u) => checkR_calls nd _ u _ (h.ext hu) (by omega) (inN.mono (by omega) _ hin))
  have HOF := Lib.hid (fun u (hu : Upto [] w u) => of_calls 10000000 nd (by omega) (by omega) (inN.big (M := 1048576) (by omega) _ hin) _ _ u (h.ext hu))
  have HND := Lib.hid (fun u (hu : Upto [] w u) => h.ext hu)
  have HSS : Hid ((decide (sizeF nd ≤ 60) && decide (depthF nd ≤ 20)) = true → sizeF nd ≤ 60) := Lib.hid (fun hb => by simp at hb; exact hb.1)
  generalize hS : (decide (sizeF nd ≤ 60) && decide (depthF nd ≤ 20)) = S at *
  have HGF : Hid (checkF nameF nd = 0 → goodN nd ∧ sortN nd ∧ nmsF nd ≤ 17 * sizeF nd) := Lib.hid (fun hc => good_of nd (form_of_check hc))
  generalize hC : checkF nameF nd = C at *
  obtain ⟨x0, x1, x2, x3, x4, x5⟩ := cells6 HB1.out
  clear h hsz hin hE hS hC
  go_enter Tryz.func6, Tryz.ntmps6
  go_wp2_with fail
  simp only [← hW]
  clear hW
  try go_wp2_with fail
  refine (HKN.out _ HU1.out).mono ?_
  rintro e w2 ⟨rfl, hu2⟩
  have HU2 := Lib.hid (HU1.out.trans_ext hu2)
  have HB2 := Lib.hid (hu2.at HB1.out (by simp))
  clear hu2 x0 x1 x2 x3 x4 x5
  obtain ⟨x0, x1, x2, x3, x4, x5⟩ := cells6 HB2.out
  go_wp2_with fail
  refine (HSH.out _ HU2.out).mono ?_
  rintro e w3 ⟨rfl, hu3⟩
  have HU3 := Lib.hid (HU2.out.trans_ext hu3)
  have HB3 := Lib.hid (hu3.at HB2.out (by simp))
  clear hu3 x0 x1 x2 x3 x4 x5
  obtain ⟨x0, x1, x2, x3, x4, x5⟩ := cells6 HB3.out
  cases S with
  | false =>
    go_wp2_with fail
    go_ret
    exact ⟨rfl, HU3.out⟩
  | true =>
    have hs60 := HSS.out rfl
    have HS60 := Lib.hid hs60
    clear hs60
    go_wp2_with fail
    refine (HCK.out _ HU3.out).mono ?_
    rintro e w4 ⟨rfl, hu4⟩
    have HU4 := Lib.hid (HU3.out.trans_ext hu4)
    have HB4 := Lib.hid (hu4.at HB3.out (by simp))
    clear hu4 x0 x1 x2 x3 x4 x5
    obtain ⟨x0, x1, x2, x3, x4, x5⟩ := cells6 HB4.out
    by_cases hc0 : C = 0
    · subst hc0
      obtain ⟨g1, g2, g3⟩ := HGF.out rfl
      have HG := Lib.hid (And.intro g1 (And.intro g2 g3))
      clear g1 g2 g3
      go_wp2_with fail
      refine (HOF.out _ HU4.out).mono ?_
      rintro e w5 ⟨v5, rfl, hn5, hu5⟩
      obtain ⟨xo, xa1, xn1, xc1, xs, xn, xm, xa2, xn2, xc2, rfl⟩ := hn5.six
      have HN5 := Lib.hid hn5
      have HU5 := Lib.hid (HU4.out.trans_ext hu5)
      have HB5 := Lib.hid (hu5.at HB4.out (by simp))
      obtain ⟨W6, hW6⟩ : ∃ W6, W6 = w5.alloc (.cells #[.int .i64 xo, .slice xa1 xn1 xc1, .int .i64 xs, .int .i64 xn, .int .i64 xm, .slice xa2 xn2 xc2] 30) := ⟨_, rfl⟩
      have HV6 : Hid (Upto [] w5 W6) := Lib.hid (by rw [hW6]; exact (Upto.refl [] w5).alloc _)
      have HB6 : Hid (W6.heap[w.heap.size]? = some (.cells #[.int .i64 op, .slice a1 n1 c1, .int .i64 so, .int .i64 nn, .int .i64 mm, .slice a2 n2 c2] 25 (0, 0))) := Lib.hid (HV6.out.at HB5.out (by simp))
      have HX6 : Hid (W6.heap[w5.heap.size]? = some (.cells #[.int .i64 xo, .slice xa1 xn1 xc1, .int .i64 xs, .int .i64 xn, .int .i64 xm, .slice xa2 xn2 xc2] 30 (0, 0))) := Lib.hid (by rw [hW6]; exact new_at w5 _)
      have HU6 := Lib.hid (HU5.out.trans_ext HV6.out)
      have HSZ : Hid (sizeF nd ≤ 60) := HS60
      have HNM : Hid (nmsF nd ≤ 1020) := Lib.hid (by have := HG.out.2.2; have := HSZ.out; omega)
      have HF1 : Hid (∀ u, Upto [] W6 u → Calls Tryz.prog 19 #[.agg #[.int .i64 xo, .slice xa1 xn1 xc1, .int .i64 xs, .int .i64 xn, .int .i64 xm, .slice xa2 xn2 xc2]] u (FqPost u (freeR nd))) := Lib.hid (fun u hu => by
        have := Free_calls nd _ u _ (HN5.out.ext (HV6.out.trans_ext hu)) (by have := HSZ.out; omega) HG.out.1 (by have := HNM.out; omega)
        rwa [free_same] at this)
      have HF2 : Hid (∀ u, Upto [] W6 u → Calls Tryz.prog 21 #[.agg #[.int .i64 op, .slice a1 n1 c1, .int .i64 so, .int .i64 nn, .int .i64 mm, .slice a2 n2 c2]] u (FqPost u (freeR nd))) := Lib.hid (fun u hu => freeRef_calls 1000 nd (by have := HSZ.out; omega) (by omega) HG.out.1 (by have := HNM.out; omega) _ u _ (HND.out u (HU6.out.trans_ext hu)))
      have HF3 : Hid (∀ u, Upto [] W6 u → Calls Tryz.prog 20 #[.agg #[.int .i64 xo, .slice xa1 xn1 xc1, .int .i64 xs, .int .i64 xn, .int .i64 xm, .slice xa2 xn2 xc2]] u (FqPost u (boundR nd))) := Lib.hid (fun u hu => by
        have := Bound_calls nd _ u _ (HN5.out.ext (HV6.out.trans_ext hu)) (by have := HSZ.out; omega) HG.out.1
        rwa [bound_same] at this)
      have HF4 : Hid (∀ u, Upto [] W6 u → Calls Tryz.prog 25 #[.agg #[.int .i64 op, .slice a1 n1 c1, .int .i64 so, .int .i64 nn, .int .i64 mm, .slice a2 n2 c2]] u (FqPost u (boundR nd))) := Lib.hid (fun u hu => boundRef_calls 1000 nd (by have := HSZ.out; omega) (by omega) HG.out.1 _ u _ (HND.out u (HU6.out.trans_ext hu)))
      have HR1 : Hid (∀ u, Upto [] W6 u → Calls Tryz.prog 26 #[.agg #[.int .i64 xo, .slice xa1 xn1 xc1, .int .i64 xs, .int .i64 xn, .int .i64 xm, .slice xa2 xn2 xc2]] u fun e w' => e = .returned (.int .i64 (rankF nd)) ∧ Upto [] u w') := Lib.hid (fun u hu => rankP_calls 1000 nd (by have := HSZ.out; omega) (by omega) HG.out.1 _ u _ (HN5.out.ext (HV6.out.trans_ext hu)))
      have HR2 : Hid (∀ u, Upto [] W6 u → Calls Tryz.prog 27 #[.agg #[.int .i64 op, .slice a1 n1 c1, .int .i64 so, .int .i64 nn, .int .i64 mm, .slice a2 n2 c2]] u fun e w' => e = .returned (.int .i64 (rankF nd)) ∧ Upto [] u w') := Lib.hid (fun u hu => rankR_calls 1000 nd (by have := HSZ.out; omega) (by omega) HG.out.1 _ u _ (HND.out u (HU6.out.trans_ext hu)))
      have HC1 : Hid (∀ u, Upto [] W6 u → Calls Tryz.prog 28 #[.agg #[.int .i64 xo, .slice xa1 xn1 xc1, .int .i64 xs, .int .i64 xn, .int .i64 xm, .slice xa2 xn2 xc2]] u fun e w' => e = .returned (.int .i64 (cntF true nd)) ∧ Upto [] u w') := Lib.hid (fun u hu => SetQuantifiers_calls nd _ u _ (HN5.out.ext (HV6.out.trans_ext hu)) (by have := HSZ.out; omega) HG.out.2.1)
      have HC2 : Hid (∀ u, Upto [] W6 u → Calls Tryz.prog 24 #[.agg #[.int .i64 op, .slice a1 n1 c1, .int .i64 so, .int .i64 nn, .int .i64 mm, .slice a2 n2 c2], .bool true] u fun e w' => e = .returned (.int .i64 (cntF true nd)) ∧ Upto [] u w') := Lib.hid (fun u hu => quantR_calls true 1000 nd (by have := HSZ.out; omega) (by omega) HG.out.1 _ u _ (HND.out u (HU6.out.trans_ext hu)))
      have HC3 : Hid (∀ u, Upto [] W6 u → Calls Tryz.prog 23 #[.agg #[.int .i64 xo, .slice xa1 xn1 xc1, .int .i64 xs, .int .i64 xn, .int .i64 xm, .slice xa2 xn2 xc2]] u fun e w' => e = .returned (.int .i64 (cntF false nd)) ∧ Upto [] u w') := Lib.hid (fun u hu => Quantifiers_calls nd _ u _ (HN5.out.ext (HV6.out.trans_ext hu)) (by have := HSZ.out; omega) HG.out.2.1)
      have HC4 : Hid (∀ u, Upto [] W6 u → Calls Tryz.prog 24 #[.agg #[.int .i64 op, .slice a1 n1 c1, .int .i64 so, .int .i64 nn, .int .i64 mm, .slice a2 n2 c2], .bool false] u fun e w' => e = .returned (.int .i64 (cntF false nd)) ∧ Upto [] u w') := Lib.hid (fun u hu => quantR_calls false 1000 nd (by have := HSZ.out; omega) (by omega) HG.out.1 _ u _ (HND.out u (HU6.out.trans_ext hu)))
      have HL1 : Hid ((freeR nd).length ≤ 1000000) := Lib.hid (by have h1 := freeR_len nd; have h2 := HNM.out; omega)
      have HL2 : Hid ((boundR nd).length ≤ 1000000) := Lib.hid (by have h1 := boundR_len nd; have h2 := HSZ.out; omega)
      generalize freeR nd = L1 at *
      generalize boundR nd = L2 at *
      generalize rankF nd = R at *
      generalize cntF true nd = C1 at *
      generalize cntF false nd = C2 at *
      have HUW := Lib.hid HU6.out
      clear hn5 hu5 x0 x1 x2 x3 x4 x5
      go_wp2_with fail
      simp only [← hW6]
      clear hW6
      have e0 : ∀ u : Ext W6, u.w.cell? ⟨w.heap.size, 0, none⟩ = some (.int .i64 op) := fun u => u.cell (cell_of HB6.out 0)
      have e1 : ∀ u : Ext W6, u.w.cell? ⟨w.heap.size, 1, none⟩ = some (.slice a1 n1 c1) := fun u => u.cell (cell_of HB6.out 1)
      have e2 : ∀ u : Ext W6, u.w.cell? ⟨w.heap.size, 2, none⟩ = some (.int .i64 so) := fun u => u.cell (cell_of HB6.out 2)
      have e3 : ∀ u : Ext W6, u.w.cell? ⟨w.heap.size, 3, none⟩ = some (.int .i64 nn) := fun u => u.cell (cell_of HB6.out 3)
      have e4 : ∀ u : Ext W6, u.w.cell? ⟨w.heap.size, 4, none⟩ = some (.int .i64 mm) := fun u => u.cell (cell_of HB6.out 4)
      have e5 : ∀ u : Ext W6, u.w.cell? ⟨w.heap.size, 5, none⟩ = some (.slice a2 n2 c2) := fun u => u.cell (cell_of HB6.out 5)
      have k0 : ∀ u : Ext W6, u.w.cell? ⟨w5.heap.size, 0, none⟩ = some (.int .i64 xo) := fun u => u.cell (cell_of HX6.out 0)
      have k1 : ∀ u : Ext W6, u.w.cell? ⟨w5.heap.size, 1, none⟩ = some (.slice xa1 xn1 xc1) := fun u => u.cell (cell_of HX6.out 1)
      have k2 : ∀ u : Ext W6, u.w.cell? ⟨w5.heap.size, 2, none⟩ = some (.int .i64 xs) := fun u => u.cell (cell_of HX6.out 2)
      have k3 : ∀ u : Ext W6, u.w.cell? ⟨w5.heap.size, 3, none⟩ = some (.int .i64 xn) := fun u => u.cell (cell_of HX6.out 3)
      have k4 : ∀ u : Ext W6, u.w.cell? ⟨w5.heap.size, 4, none⟩ = some (.int .i64 xm) := fun u => u.cell (cell_of HX6.out 4)
      have k5 : ∀ u : Ext W6, u.w.cell? ⟨w5.heap.size, 5, none⟩ = some (.slice xa2 xn2 xc2) := fun u => u.cell (cell_of HX6.out 5)
      refine wp_region_seg_at [1, 3, 4, 7, 9, 10, 14, 16, 21, 23, 28, 30] [] [0, 1, 2, 3, 4, 5, 6, 7, 8, 9, 10, 11, 12, 13, 14, 15, 16, 17, 18, 19, 20, 21, 22, 23, 24, 25, 26, 27, 28, 29, 30, 31, 32] [33] 33 (by kernel_rfl) (by kernel_rfl) (by kernel_rfl) ?_
      with_reducible refine seg_plain (o := ?o1) ?hi1 ?hA1 ?hC1 ?hp1 ?hw1 ?h1
      case hi1 => rfl
      case hA1 => rfl
      case hC1 => rfl
      case hp1 => rfl
      case hw1 => kernel_rfl
      intro K' hK'
      go_big_quiet_op
      go_big_quiet_on
      with_reducible refine seg_callO (o := ?o2) (f := 19) (args := #[.agg #[.int .i64 xo, .slice xa1 xn1 xc1, .int .i64 xs, .int .i64 xn, .int .i64 xm, .slice xa2 xn2 xc2]]) (Y := Option Addr × Nat) (fun y => .slice y.1 (L1).length y.2) (fun y u => SlP u (fun _ => True) (.slice y.1 (L1).length y.2) (L1).length ((L1).map sV)) (fun _ => []) ?hi2 ?hA2 ?hC2 ?hw2 ?hs2 ?hn2 ?hr2 ?hc2 ?h2
      case hi2 => rfl
      case hA2 => rfl
      case hC2 => rfl
      case hw2 => kernel_rfl
      case hs2 => exact fun _ _ _ h hu => h.ext hu
      case hn2 => exact fun _ => List.nodup_nil
      case hr2 => exact fun w => by go_simp
      case hc2 => exact fun w' hu hd => (HF1.out w' hu).mono fun e w2 hh => fq_out hh
      rintro ⟨pa, pc⟩
      simp only [Act.put, List.setIfInBounds_toArray, List.set_cons_zero, List.set_cons_succ]
      with_reducible refine seg_plain (o := ?o3) ?hi3 ?hA3 ?hC3 ?hp3 ?hw3 ?h3
      case hi3 => rfl
      case hA3 => rfl
      case hC3 => rfl
      case hp3 => rfl
      case hw3 => kernel_rfl
      intro K' hK'
      go_big_quiet_op
      go_big_quiet_on
      with_reducible refine seg_callO (o := ?o4) (f := 21) (args := #[.agg #[.int .i64 op, .slice a1 n1 c1, .int .i64 so, .int .i64 nn, .int .i64 mm, .slice a2 n2 c2]]) (Y := Option Addr × Nat) (fun y => .slice y.1 (L1).length y.2) (fun y u => SlP u (fun _ => True) (.slice y.1 (L1).length y.2) (L1).length ((L1).map sV)) (fun _ => []) ?hi4 ?hA4 ?hC4 ?hw4 ?hs4 ?hn4 ?hr4 ?hc4 ?h4
      case hi4 => rfl
      case hA4 => rfl
      case hC4 => rfl
      case hw4 => kernel_rfl
      case hs4 => exact fun _ _ _ h hu => h.ext hu
      case hn4 => exact fun _ => List.nodup_nil
      case hr4 => exact fun w => by go_simp
      case hc4 => exact fun w' hu hd => (HF2.out w' hu).mono fun e w2 hh => fq_out hh
      rintro ⟨qa, qc⟩
      simp only [Act.put, List.setIfInBounds_toArray, List.set_cons_zero, List.set_cons_succ]
      with_reducible refine seg_call (o := ?o5) (f := 22) (args := #[.slice pa L1.length pc, .slice qa L1.length qc]) (v := .bool true) ?hi5 ?hA5 ?hC5 ?hw5 ?hr5 ?hc5 ?h5
      case hi5 => rfl
      case hA5 => rfl
      case hC5 => rfl
      case hw5 => kernel_rfl
      case hr5 => exact fun w => by go_simp
      case hc5 => exact fun w' hu hd => same_calls L1 _ _ w' _ _ (hd.2.1 (by kernel_rfl)) (hd.1 (by kernel_rfl)) HL1.out
      simp only [Act.put, List.setIfInBounds_toArray, List.set_cons_zero, List.set_cons_succ]
      with_reducible refine seg_plain (o := ?o6) ?hi6 ?hA6 ?hC6 ?hp6 ?hw6 ?h6
      case hi6 => rfl
      case hA6 => rfl
      case hC6 => rfl
      case hp6 => rfl
      case hw6 => kernel_rfl
      intro K' hK'
      go_big_quiet_op
      go_big_quiet_on
      with_reducible refine seg_plain (o := ?o7) ?hi7 ?hA7 ?hC7 ?hp7 ?hw7 ?h7
      case hi7 => rfl
      case hA7 => rfl
      case hC7 => rfl
      case hp7 => rfl
      case hw7 => kernel_rfl
      intro K' hK'
      go_big_quiet_op
      go_big_quiet_on
      with_reducible refine seg_callO (o := ?o8) (f := 20) (args := #[.agg #[.int .i64 xo, .slice xa1 xn1 xc1, .int .i64 xs, .int .i64 xn, .int .i64 xm, .slice xa2 xn2 xc2]]) (Y := Option Addr × Nat) (fun y => .slice y.1 (L2).length y.2) (fun y u => SlP u (fun _ => True) (.slice y.1 (L2).length y.2) (L2).length ((L2).map sV)) (fun _ => []) ?hi8 ?hA8 ?hC8 ?hw8 ?hs8 ?hn8 ?hr8 ?hc8 ?h8
      case hi8 => rfl
      case hA8 => rfl
      case hC8 => rfl
      case hw8 => kernel_rfl
      case hs8 => exact fun _ _ _ h hu => h.ext hu
      case hn8 => exact fun _ => List.nodup_nil
      case hr8 => exact fun w => by go_simp
      case hc8 => exact fun w' hu hd => (HF3.out w' hu).mono fun e w2 hh => fq_out hh
      rintro ⟨ra, rc⟩
      simp only [Act.put, List.setIfInBounds_toArray, List.set_cons_zero, List.set_cons_succ]
      with_reducible refine seg_plain (o := ?o9) ?hi9 ?hA9 ?hC9 ?hp9 ?hw9 ?h9
      case hi9 => rfl
      case hA9 => rfl
      case hC9 => rfl
      case hp9 => rfl
      case hw9 => kernel_rfl
      intro K' hK'
      go_big_quiet_op
      go_big_quiet_on
      with_reducible refine seg_callO (o := ?o10) (f := 25) (args := #[.agg #[.int .i64 op, .slice a1 n1 c1, .int .i64 so, .int .i64 nn, .int .i64 mm, .slice a2 n2 c2]]) (Y := Option Addr × Nat) (fun y => .slice y.1 (L2).length y.2) (fun y u => SlP u (fun _ => True) (.slice y.1 (L2).length y.2) (L2).length ((L2).map sV)) (fun _ => []) ?hi10 ?hA10 ?hC10 ?hw10 ?hs10 ?hn10 ?hr10 ?hc10 ?h10
      case hi10 => rfl
      case hA10 => rfl
      case hC10 => rfl
      case hw10 => kernel_rfl
      case hs10 => exact fun _ _ _ h hu => h.ext hu
      case hn10 => exact fun _ => List.nodup_nil
      case hr10 => exact fun w => by go_simp
      case hc10 => exact fun w' hu hd => (HF4.out w' hu).mono fun e w2 hh => fq_out hh
      rintro ⟨sa, sc⟩
      simp only [Act.put, List.setIfInBounds_toArray, List.set_cons_zero, List.set_cons_succ]
      with_reducible refine seg_call (o := ?o11) (f := 22) (args := #[.slice ra L2.length rc, .slice sa L2.length sc]) (v := .bool true) ?hi11 ?hA11 ?hC11 ?hw11 ?hr11 ?hc11 ?h11
      case hi11 => rfl
      case hA11 => rfl
      case hC11 => rfl
      case hw11 => kernel_rfl
      case hr11 => exact fun w => by go_simp
      case hc11 => exact fun w' hu hd => same_calls L2 _ _ w' _ _ (hd.2.1 (by kernel_rfl)) (hd.1 (by kernel_rfl)) HL2.out
      simp only [Act.put, List.setIfInBounds_toArray, List.set_cons_zero, List.set_cons_succ]
      with_reducible refine seg_plain (o := ?o12) ?hi12 ?hA12 ?hC12 ?hp12 ?hw12 ?h12
      case hi12 => rfl
      case hA12 => rfl
      case hC12 => rfl
      case hp12 => rfl
      case hw12 => kernel_rfl
      intro K' hK'
      go_big_quiet_op
      go_big_quiet_on
      with_reducible refine seg_plain (o := ?o13) ?hi13 ?hA13 ?hC13 ?hp13 ?hw13 ?h13
      case hi13 => rfl
      case hA13 => rfl
      case hC13 => rfl
      case hp13 => rfl
      case hw13 => kernel_rfl
      intro K' hK'
      go_big_quiet_op
      go_big_quiet_on
      with_reducible refine seg_plain (o := ?o14) ?hi14 ?hA14 ?hC14 ?hp14 ?hw14 ?h14
      case hi14 => rfl
      case hA14 => rfl
      case hC14 => rfl
      case hp14 => rfl
      case hw14 => kernel_rfl
      intro K' hK'
      go_big_quiet_op
      go_big_quiet_on
      with_reducible refine seg_call (o := ?o15) (f := 26) (args := #[.agg #[.int .i64 xo, .slice xa1 xn1 xc1, .int .i64 xs, .int .i64 xn, .int .i64 xm, .slice xa2 xn2 xc2]]) (v := .int .i64 R) ?hi15 ?hA15 ?hC15 ?hw15 ?hr15 ?hc15 ?h15
      case hi15 => rfl
      case hA15 => rfl
      case hC15 => rfl
      case hw15 => kernel_rfl
      case hr15 => exact fun w => by go_simp
      case hc15 => exact fun w' hu hd => HR1.out w' hu
      simp only [Act.put, List.setIfInBounds_toArray, List.set_cons_zero, List.set_cons_succ]
      with_reducible refine seg_plain (o := ?o16) ?hi16 ?hA16 ?hC16 ?hp16 ?hw16 ?h16
      case hi16 => rfl
      case hA16 => rfl
      case hC16 => rfl
      case hp16 => rfl
      case hw16 => kernel_rfl
      intro K' hK'
      go_big_quiet_op
      go_big_quiet_on
      with_reducible refine seg_call (o := ?o17) (f := 27) (args := #[.agg #[.int .i64 op, .slice a1 n1 c1, .int .i64 so, .int .i64 nn, .int .i64 mm, .slice a2 n2 c2]]) (v := .int .i64 R) ?hi17 ?hA17 ?hC17 ?hw17 ?hr17 ?hc17 ?h17
      case hi17 => rfl
      case hA17 => rfl
      case hC17 => rfl
      case hw17 => kernel_rfl
      case hr17 => exact fun w => by go_simp
      case hc17 => exact fun w' hu hd => HR2.out w' hu
      simp only [Act.put, List.setIfInBounds_toArray, List.set_cons_zero, List.set_cons_succ]
      with_reducible refine seg_plain (o := ?o18) ?hi18 ?hA18 ?hC18 ?hp18 ?hw18 ?h18
      case hi18 => rfl
      case hA18 => rfl
      case hC18 => rfl
      case hp18 => rfl
      case hw18 => kernel_rfl
      intro K' hK'
      go_big_quiet_op
      go_big_quiet_on
      with_reducible refine seg_plain (o := ?o19) ?hi19 ?hA19 ?hC19 ?hp19 ?hw19 ?h19
      case hi19 => rfl
      case hA19 => rfl
      case hC19 => rfl
      case hp19 => rfl
      case hw19 => kernel_rfl
      intro K' hK'
      go_big_quiet_op
      go_big_quiet_on
      with_reducible refine seg_plain (o := ?o20) ?hi20 ?hA20 ?hC20 ?hp20 ?hw20 ?h20
      case hi20 => rfl
      case hA20 => rfl
      case hC20 => rfl
      case hp20 => rfl
      case hw20 => kernel_rfl
      intro K' hK'
      go_big_quiet_op
      go_big_quiet_on
      with_reducible refine seg_plain (o := ?o21) ?hi21 ?hA21 ?hC21 ?hp21 ?hw21 ?h21
      case hi21 => rfl
      case hA21 => rfl
      case hC21 => rfl
      case hp21 => rfl
      case hw21 => kernel_rfl
      intro K' hK'
      go_big_quiet_op
      go_big_quiet_on
      with_reducible refine seg_call (o := ?o22) (f := 28) (args := #[.agg #[.int .i64 xo, .slice xa1 xn1 xc1, .int .i64 xs, .int .i64 xn, .int .i64 xm, .slice xa2 xn2 xc2]]) (v := .int .i64 C1) ?hi22 ?hA22 ?hC22 ?hw22 ?hr22 ?hc22 ?h22
      case hi22 => rfl
      case hA22 => rfl
      case hC22 => rfl
      case hw22 => kernel_rfl
      case hr22 => exact fun w => by go_simp
      case hc22 => exact fun w' hu hd => HC1.out w' hu
      simp only [Act.put, List.setIfInBounds_toArray, List.set_cons_zero, List.set_cons_succ]
      with_reducible refine seg_plain (o := ?o23) ?hi23 ?hA23 ?hC23 ?hp23 ?hw23 ?h23
      case hi23 => rfl
      case hA23 => rfl
      case hC23 => rfl
      case hp23 => rfl
      case hw23 => kernel_rfl
      intro K' hK'
      go_big_quiet_op
      go_big_quiet_on
      with_reducible refine seg_call (o := ?o24) (f := 24) (args := #[.agg #[.int .i64 op, .slice a1 n1 c1, .int .i64 so, .int .i64 nn, .int .i64 mm, .slice a2 n2 c2], .bool true]) (v := .int .i64 C1) ?hi24 ?hA24 ?hC24 ?hw24 ?hr24 ?hc24 ?h24
      case hi24 => rfl
      case hA24 => rfl
      case hC24 => rfl
      case hw24 => kernel_rfl
      case hr24 => exact fun w => by go_simp
      case hc24 => exact fun w' hu hd => HC2.out w' hu
      simp only [Act.put, List.setIfInBounds_toArray, List.set_cons_zero, List.set_cons_succ]
      with_reducible refine seg_plain (o := ?o25) ?hi25 ?hA25 ?hC25 ?hp25 ?hw25 ?h25
      case hi25 => rfl
      case hA25 => rfl
      case hC25 => rfl
      case hp25 => rfl
      case hw25 => kernel_rfl
      intro K' hK'
      go_big_quiet_op
      go_big_quiet_on
      with_reducible refine seg_plain (o := ?o26) ?hi26 ?hA26 ?hC26 ?hp26 ?hw26 ?h26
      case hi26 => rfl
      case hA26 => rfl
      case hC26 => rfl
      case hp26 => rfl
      case hw26 => kernel_rfl
      intro K' hK'
      go_big_quiet_op
      go_big_quiet_on
      with_reducible refine seg_plain (o := ?o27) ?hi27 ?hA27 ?hC27 ?hp27 ?hw27 ?h27
      case hi27 => rfl
      case hA27 => rfl
      case hC27 => rfl
      case hp27 => rfl
      case hw27 => kernel_rfl
      intro K' hK'
      go_big_quiet_op
      go_big_quiet_on
      with_reducible refine seg_plain (o := ?o28) ?hi28 ?hA28 ?hC28 ?hp28 ?hw28 ?h28
      case hi28 => rfl
      case hA28 => rfl
      case hC28 => rfl
      case hp28 => rfl
      case hw28 => kernel_rfl
      intro K' hK'
      go_big_quiet_op
      go_big_quiet_on
      with_reducible refine seg_call (o := ?o29) (f := 23) (args := #[.agg #[.int .i64 xo, .slice xa1 xn1 xc1, .int .i64 xs, .int .i64 xn, .int .i64 xm, .slice xa2 xn2 xc2]]) (v := .int .i64 C2) ?hi29 ?hA29 ?hC29 ?hw29 ?hr29 ?hc29 ?h29
      case hi29 => rfl
      case hA29 => rfl
      case hC29 => rfl
      case hw29 => kernel_rfl
      case hr29 => exact fun w => by go_simp
      case hc29 => exact fun w' hu hd => HC3.out w' hu
      simp only [Act.put, List.setIfInBounds_toArray, List.set_cons_zero, List.set_cons_succ]
      with_reducible refine seg_plain (o := ?o30) ?hi30 ?hA30 ?hC30 ?hp30 ?hw30 ?h30
      case hi30 => rfl
      case hA30 => rfl
      case hC30 => rfl
      case hp30 => rfl
      case hw30 => kernel_rfl
      intro K' hK'
      go_big_quiet_op
      go_big_quiet_on
      with_reducible refine seg_call (o := ?o31) (f := 24) (args := #[.agg #[.int .i64 op, .slice a1 n1 c1, .int .i64 so, .int .i64 nn, .int .i64 mm, .slice a2 n2 c2], .bool false]) (v := .int .i64 C2) ?hi31 ?hA31 ?hC31 ?hw31 ?hr31 ?hc31 ?h31
      case hi31 => rfl
      case hA31 => rfl
      case hC31 => rfl
      case hw31 => kernel_rfl
      case hr31 => exact fun w => by go_simp
      case hc31 => exact fun w' hu hd => HC4.out w' hu
      simp only [Act.put, List.setIfInBounds_toArray, List.set_cons_zero, List.set_cons_succ]
      with_reducible refine seg_plain (o := ?o32) ?hi32 ?hA32 ?hC32 ?hp32 ?hw32 ?h32
      case hi32 => rfl
      case hA32 => rfl
      case hC32 => rfl
      case hp32 => rfl
      case hw32 => kernel_rfl
      intro K' hK'
      go_big_quiet_op
      go_big_quiet_on
      with_reducible refine seg_plain (o := ?o33) ?hi33 ?hA33 ?hC33 ?hp33 ?hw33 ?h33
      case hi33 => rfl
      case hA33 => rfl
      case hC33 => rfl
      case hp33 => rfl
      case hw33 => kernel_rfl
      intro K' hK'
      go_big_quiet_op
      go_big_quiet_on
      intro w9 hg
      have HU9 := Lib.hid (HU6.out.trans_ext hg.up)
      simp only [List.drop_succ_cons, List.drop_zero]
      clear hg e0 e1 e2 e3 e4 e5 k0 k1 k2 k3 k4 k5
      go_wp2_with fail
      go_ret
      exact ⟨rfl, HU9.out⟩
    · have hci : ¬ (C : Int) = 0 := by omega
      have hb1 : ((C : Int) == 0) = false := by simpa using hc0
      have hb2 : ((C : Int) != 0) = true := by simpa using hc0
      clear hc0
      go_wp2_with fail
      go_ret
      exact ⟨rfl, HU4.out⟩
end Go.Proofs.YtbnebkkpmcjmbaaGreatDoor

