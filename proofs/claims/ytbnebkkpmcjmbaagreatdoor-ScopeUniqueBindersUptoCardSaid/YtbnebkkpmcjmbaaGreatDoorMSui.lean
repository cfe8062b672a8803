/- Texts merged, in build order: Ws, Ui. -/
import Derived.Test.YtbnebkkpmcjmbaaGreatDoorMSuh
import Derived.Test.YtbnebkkpmcjmbaaGreatDoorRows
import Derived.WalkKit
import Derived.WalkSpells
import Derived.WalkLawsBesides
import Derived.Maps.OwnSet
import Derived.Lib.Hide
import Derived.Laws.BytesArg
import Derived.Deep.QuietTactic
import Derived.BigQuiet
import Derived.Test.YtbnebkkpmcjmbaaGreatDoorProg
import Derived.Shelf.Small.Strs
import Derived.Shelf.LaysM
import Derived.Shelf.Strings.SplitShaped
import Derived.Deep.DeepCutAuto
import Derived.Deep.CutBlock
import Derived.Lib.Strings
import Derived.Lib.Walk
import Derived.Lib.ConvBytes
import Derived.Lib.ParseIntBMem
import Derived.Lib.AtoiErrMem
import Derived.Lib.BufferWrite
import Derived.Lib.UnsafeStr
import Derived.Lib.IfaceEq
import Derived.Laws.MakeOwn
import Derived.Laws.Strings3
import Derived.Laws.Closers25
import Derived.Laws.Closers25b
import Derived.RegionTactic
import Derived.Deep.RegionWith
import Derived.BigCall
import Derived.BigGuard
import Derived.Lib.AppendIntMem
import Derived.Carry
import Derived.OrdersHeld
import Derived.Deep.RegionHeld3
import Derived.Shelf.Strconv.Itoa3
import Derived.Shelf.Slices.Turned
import Derived.Shelf.Slices.Clone
import Derived.Deep.RegionLaw
import Derived.Lib.ItoaNum
import Derived.RangeFuncNested
import Derived.RangeFuncBound
import Derived.RangeFuncCalls
import Derived.RangeFuncLeaves
import Derived.RangeFuncBox
import Derived.Shelf.Abstract
import Derived.OwnWalkIn
import Derived.TacticsInMore
import Derived.LoopNIn
import Derived.LoopIn
import Derived.Laws.EntriesVeiled
import Derived.Laws.AppendOwn
import Derived.Test.YtbnebkkpmcjmbaaGreatDoorCards
import Derived.Test.YtbnebkkpmcjmbaaGreatDoorTie
import Derived.ProofKit
import Derived.OpenShut
import Derived.Deep.DeepHandedRow
import Derived.Deep.Slices
import Derived.Lay
import Derived.ChangeCalls
import Derived.LaidSub
import Derived.MakeChecks
import Derived.LaidLaws
import Derived.Lib.LaidTab
import Derived.Shelf.SlMaps.Clone
namespace Go.Proofs.YtbnebkkpmcjmbaaGreatDoor
open Go.RowKit Go.PL Go.Maps
mutual
theorem big_nms : ∀ (n : Nd), nmsF n ≤ 10000000 → bigN n
  | .mk op nms so nn mm l, h => by
    simp only [nmsF] at h
    unfold bigN
    exact ⟨by omega, bigs_nms l (by omega)⟩
theorem bigs_nms : ∀ (l : List Nd), nmssF l ≤ 10000000 → bigsN l
  | [], _ => by unfold bigsN; trivial
  | x :: xs, h => by
    simp only [nmssF] at h
    unfold bigsN
    exact ⟨big_nms x (by omega), bigs_nms xs (by omega)⟩
end
/-- both begin with the same names -/
theorem taken_same (q : Qn) : SameTk (takenP q) (takenR q) := fun y => by
  unfold takenP takenR
  rw [List.mem_append, folds_mem, free_same]
  exact Or.comm
/-- the program and the reference answer the same question -/
theorem uniq_apart (q : Qn) : uniqQ q = apartQ q := by
  unfold uniqQ apartQ
  rw [(apN_same q.body [] _ _ (taken_same q)).1]
/-- what is left of a question's size and names -/
theorem apart_shape {q : Qn} (h : formF nameF q.body = 0) (hs : (takenR q).length + sizeF q.body ≤ 8000) : sizeF (apartQ q).body = sizeF q.body ∧ nmsF (apartQ q).body = nmsF q.body := by
  obtain ⟨-, h2, h3, -⟩ := apN_shape q.body [] (takenR q) h (by simp) hs
  exact ⟨h2, h3⟩
/-- a question's seven cells -/
structure QY where
  fa : Option Addr
  fc : Nat
  o : Int
  a1 : Option Addr
  a2 : Nat
  a3 : Nat
  s : Int
  n : Int
  m : Int
  l1 : Option Addr
  l2 : Nat
  l3 : Nat
instance : Nonempty QY := ⟨⟨none, 0, 0, none, 0, 0, 0, 0, 0, none, 0, 0⟩⟩
theorem qy_of {w' w2 : World} {Q : Nat → Prop} {x : Qn} {r : Ending} (h : ∃ v, r = .returned v ∧ QnV w2 Q x v ∧ Upto [] w' w2) : ∃ y : QY, r = .returned (.agg #[.slice y.fa x.free.length y.fc, .int .i64 y.o, .slice y.a1 y.a2 y.a3, .int .i64 y.s, .int .i64 y.n, .int .i64 y.m, .slice y.l1 y.l2 y.l3]) ∧ Upto [] w' w2 ∧ QnV w2 (fun _ => True) x (.agg #[.slice y.fa x.free.length y.fc, .int .i64 y.o, .slice y.a1 y.a2 y.a3, .int .i64 y.s, .int .i64 y.n, .int .i64 y.m, .slice y.l1 y.l2 y.l3]) ∧ ∀ b ∈ ([] : List Nat), w'.heap.size ≤ b ∧ b < w2.heap.size := by
  obtain ⟨v, rfl, h2, h3⟩ := h
  obtain ⟨f1, f3, o1, a1, a2, a3, s1, n1, m1, l1, l2, l3, rfl, -, -⟩ := h2.open
  exact ⟨⟨f1, f3, o1, a1, a2, a3, s1, n1, m1, l1, l2, l3⟩, rfl, h3, h2.keep (Keep.mono (fun _ _ _ => trivial)), fun b hb => by cases hb⟩
set_option maxRecDepth 100000 in
set_option maxHeartbeats 12800000 in
theorem scopeUniqueBinders_walk (q : Qn) (v : Value) (w : World) (hq : ArgQ w q v) (hE : Env w ∧ SEnv w ∧ FEnv w) (hpw : PowT w) : Calls Tryz.prog 7 #[v] w fun e w' => e = .returned (.bool true) ∧ Upto [] w w' := by
  obtain ⟨f1, f3, o1, a1, a2, a3, s1, n1, m1, l1, l2, l3, rfl, hv, hnd⟩ := hq.val.open
  have HQ := Lib.hid hq
  have HEN := Lib.hid (And.intro hE hpw)
  have HKN := Lib.hid (fun u (hu : Upto [] w u) => known12_calls u ⟨hE.1.ext hu, hE.2.1.upto hu (by simp), hE.2.2.ext hu⟩)
  have HSH := Lib.hid (fun u (hu : Upto [] w u) => short_calls q.body _ u _ (hnd.ext hu) (by have := hq.sz; omega))
  have HBG : Hid (bigN q.body ∧ inN 10000000 q.body ∧ ∀ y ∈ q.free, y.1.length ≤ 10000000) := Lib.hid ⟨inN.big (M := 1048576) (by omega) _ hq.ins, inN.mono (by omega) _ hq.ins, fun y hy => by have := hq.nm y hy; omega⟩
  have HOQ := Lib.hid (fun u (hu : Upto [] w u) => ofq_calls q _ u _ (hq.val.keep (Keep.upto hu (by simp))) (by have := hq.sz; omega) HBG.out.1 (by have := hq.fr; omega))
  have HRT := Lib.hid (fun u (hu : Upto [] w u) => right_calls q _ u _ (hq.val.keep (Keep.upto hu (by simp))) (by have := hq.sz; omega) HBG.out.2.1 HBG.out.2.2)
  have HSS : Hid ((decide (sizeF q.body ≤ 60) && decide (depthF q.body ≤ 20)) = true → sizeF q.body ≤ 60) := Lib.hid (fun hb => by simp at hb; exact hb.1)
  generalize hS : (decide (sizeF q.body ≤ 60) && decide (depthF q.body ≤ 20)) = S at *
  have hL0 : (0 : Int) ≤ q.free.length := by omega
  have hL1 : (q.free.length : Int) ≤ 1048576 := by have := hq.fr; omega
  clear hq hE hpw hv hnd hS
  obtain ⟨W, hW⟩ : ∃ W, W = w.alloc (.cells #[.slice f1 q.free.length f3, .int .i64 o1, .slice a1 a2 a3, .int .i64 s1, .int .i64 n1, .int .i64 m1, .slice l1 l2 l3] 50) := ⟨_, rfl⟩
  have HU1 : Hid (Upto [] w W) := Lib.hid (by rw [hW]; exact (Upto.refl [] w).alloc _)
  have HB1 : Hid (W.heap[w.heap.size]? = some (.cells #[.slice f1 q.free.length f3, .int .i64 o1, .slice a1 a2 a3, .int .i64 s1, .int .i64 n1, .int .i64 m1, .slice l1 l2 l3] 50 (0, 0))) := Lib.hid (by rw [hW]; exact new_at w _)
  obtain ⟨y0, y1, y2, y3, y4, y5, y6⟩ := cells7 HB1.out
  go_enter Tryz.func7, Tryz.ntmps7
  go_wp2_with fail
  simp only [← hW]
  clear hW
  try go_wp2_with fail
  refine (HKN.out _ HU1.out).mono ?_
  rintro r w2 ⟨rfl, hu2⟩
  have HU2 := Lib.hid (HU1.out.trans_ext hu2)
  have HB2 := Lib.hid (hu2.at HB1.out (by simp))
  clear hu2 y0 y1 y2 y3 y4 y5 y6
  obtain ⟨y0, y1, y2, y3, y4, y5, y6⟩ := cells7 HB2.out
  go_wp2_with fail
  refine (HSH.out _ HU2.out).mono ?_
  rintro r w3 ⟨rfl, hu3⟩
  have HU3 := Lib.hid (HU2.out.trans_ext hu3)
  have HB3 := Lib.hid (hu3.at HB2.out (by simp))
  clear hu3 y0 y1 y2 y3 y4 y5 y6
  obtain ⟨y0, y1, y2, y3, y4, y5, y6⟩ := cells7 HB3.out
  cases S with
  | false =>
    go_wp2_with fail
    go_ret
    exact ⟨rfl, HU3.out⟩
  | true =>
  have HS60 := Lib.hid (HSS.out rfl)
  by_cases h12 : 12 < q.free.length
  · have h12I : (12 : Int) < q.free.length := by omega
    clear h12
    go_wp2_with fail
    go_ret
    exact ⟨rfl, HU3.out⟩
  have h12I : ¬ (12 : Int) < q.free.length := by omega
  have H12 := Lib.hid h12
  clear h12
  go_wp2_with fail
  refine (HOQ.out _ HU3.out).mono ?_
  rintro r w4 ⟨v4, rfl, hq4, hu4⟩
  have HUE := Lib.hid (HU3.out.trans_ext hu4)
  have HB4 := Lib.hid (hu4.at HB3.out (by simp))
  have HQ4 := Lib.hid hq4
  have HEN4 : Hid ((Env w4 ∧ SEnv w4 ∧ FEnv w4) ∧ PowT w4) := Lib.hid ⟨⟨HEN.out.1.1.ext HUE.out, HEN.out.1.2.1.upto HUE.out (by simp), HEN.out.1.2.2.ext HUE.out⟩, HEN.out.2.ext HUE.out⟩
  obtain ⟨h1, h3, x1, b1, b2, b3, x2, x3, x4, m1', m2', m3', rfl, -, -⟩ := hq4.open
  clear hu4 hq4 y0 y1 y2 y3 y4 y5 y6
  by_cases hR0 : rightF nameF q = 0
  case neg =>
    have HUQ := Lib.hid (uniq_err q _ w4 _ HQ4.out (by have := HS60.out; omega) HBG.out.2.1 HBG.out.2.2 HEN4.out.1 hR0)
    obtain ⟨R, hR⟩ : ∃ R, R = rightF nameF q := ⟨_, rfl⟩
    rw [← hR] at HUQ HRT hR0
    have hci : ¬ (R : Int) = 0 := by omega
    have hc1 : ((R : Int) == 0) = false := by rw [beq_eq_false_iff_ne]; exact hci
    have hc2 : ((R : Int) != 0) = true := by rw [bne, hc1]; rfl
    have hcc : ((R : Int) == (R : Int)) = true := beq_self_eq_true _
    clear hR0 hR
    go_wp2_with fail
    refine HUQ.out.mono ?_
    rintro r w6 ⟨rfl, hu6⟩
    unfold zeroQ
    obtain ⟨W7, hW7⟩ : ∃ W7, W7 = w6.alloc (.cells #[.slice none 0 0, .int .i64 0, .slice none 0 0, .int .i64 0, .int .i64 0, .int .i64 0, .slice none 0 0] 53) := ⟨_, rfl⟩
    have HV7 : Hid (Upto [] w6 W7) := Lib.hid (by rw [hW7]; exact (Upto.refl [] w6).alloc _)
    have HB6 := Lib.hid (hu6.at HB4.out (by simp))
    have HB7 := Lib.hid (HV7.out.at HB6.out (by simp))
    have HY7 : Hid (W7.heap[w6.heap.size]? = some (.cells #[.slice none 0 0, .int .i64 0, .slice none 0 0, .int .i64 0, .int .i64 0, .int .i64 0, .slice none 0 0] 53 (0, 0))) := Lib.hid (by rw [hW7]; exact new_at w6 _)
    have HU7 := Lib.hid ((HUE.out.trans_ext hu6).trans_ext HV7.out)
    have hbx : (w6.alloc (.cells #[.slice none 0 0, .int .i64 0, .slice none 0 0, .int .i64 0, .int .i64 0, .int .i64 0, .slice none 0 0] 53)).heap[w.heap.size]? = _ := alloc_old HB6.out _
    have HBX := Lib.hid hbx
    clear hu6 hbx
    obtain ⟨y0, y1, y2, y3, y4, y5, y6⟩ := cells7 HBX.out
    go_wp2_with fail
    simp only [← hW7]
    clear hW7 HBX y0 y1 y2 y3 y4 y5 y6
    refine (HRT.out _ HU7.out).mono ?_
    rintro r w8 ⟨rfl, hu8⟩
    have HU8 := Lib.hid (HU7.out.trans_ext hu8)
    have HY8 := Lib.hid (hu8.at HY7.out (by simp))
    clear hu8
    obtain ⟨z0, z1, z2, z3, z4, z5, z6⟩ := cells7 HY8.out
    go_wp2_with fail
    refine (backq_calls .zero zeroQ w8 (fun _ => True) (QnV.zero _ _) (by unfold Qn.zero Nd.zero; simp [sizeF, sizesF]) (by unfold Qn.zero Nd.zero bigN bigsN; simp) (by unfold Qn.zero; simp)).mono ?_
    rintro r w9 ⟨v9, rfl, hq9, hu9⟩
    have HQ9 := Lib.hid hq9
    have HU9 := Lib.hid (HU8.out.trans_ext hu9)
    obtain ⟨g1, g3, p1, c1, c2, c3, p2, p3, p4, e1, e2, e3, rfl, -, -⟩ := hq9.open
    have HAL := Lib.hid (alike_calls .zero .zero (New w8) (fun _ => True) _ zeroQ w9 (by unfold Qn.zero; simp) (huge_of _ (by unfold Qn.zero Nd.zero; simp [sizeF, sizesF]) (by unfold Qn.zero Nd.zero bigN bigsN; simp)) (by unfold Qn.zero; simp) hq9 (QnV.zero _ _))
    rw [(alikeF_eq _ _).2 rfl] at HAL
    unfold zeroQ at HAL
    clear hq9 hu9 z0 z1 z2 z3 z4 z5 z6
    go_wp2_with fail
    refine HAL.out.mono ?_
    rintro r w10 ⟨rfl, hu10⟩
    have HU10 := Lib.hid (HU9.out.trans_ext hu10)
    clear hu10
    go_wp2_with fail
    go_ret
    exact ⟨rfl, HU10.out⟩
  case pos =>
    have HR0 := Lib.hid hR0
    have hck : checkF nameF q.body = 0 := by
      have := hR0
      unfold rightF at this
      split at this
      · cases this
      · split at this
        · rename_i h5; exact absurd this h5
        · exact this
    have hfo := form_of_check hck
    have hnm := (small_of HS60.out hck).2.2
    have hlr : (takenR q).length ≤ 1040 := by
      have h1 := fold_len (q.free.map Prod.fst) (freeR q.body)
      have h2 := freeR_len q.body
      rw [List.length_map] at h1
      have := H12.out
      unfold takenR
      omega
    have hsh := apart_shape hfo (by have := HS60.out; omega)
    have HFO : Hid (sizeF (apartQ q).body ≤ 60 ∧ nmsF (apartQ q).body ≤ 1020 ∧ (apartQ q).free.length ≤ 12 ∧ bigN (apartQ q).body) := Lib.hid ⟨by rw [hsh.1]; exact HS60.out, by rw [hsh.2]; exact hnm, by have := H12.out; show q.free.length ≤ 12; omega, big_nms _ (by rw [hsh.2]; omega)⟩
    have HUQ := Lib.hid (uniq_ok q _ w4 _ HQ4.out (by have := HS60.out; omega) HBG.out.2.1 HBG.out.2.2 HEN4.out.1 HEN4.out.2 hR0 hfo (by have := H12.out; omega) (by have := HS60.out; omega))
    have HAQ := Lib.hid (fun u (hu : Upto [] w u) => apartQ_calls q _ u _ (HQ.out.val.keep (Keep.upto hu (by simp))) hfo (by have := H12.out; omega) (by have := HS60.out; omega))
    rw [hR0] at HRT
    clear hR0 hck hfo hnm hlr hsh
    go_wp2_with fail
    refine HUQ.out.mono ?_
    rintro r w6 ⟨v6, rfl, hq6, hu6⟩
    rw [uniq_apart] at hq6
    have HQ6 := Lib.hid hq6
    obtain ⟨g1, g3, p1, c1, c2, c3, p2, p3, p4, e1, e2, e3, rfl, -, -⟩ := hq6.open
    obtain ⟨LN, hLN⟩ : ∃ LN, LN = (apartQ q).free.length := ⟨_, rfl⟩
    have HLN := Lib.hid hLN
    rw [← hLN] at HQ6 ⊢
    clear hLN
    obtain ⟨W7, hW7⟩ : ∃ W7, W7 = w6.alloc (.cells #[.slice g1 LN g3, .int .i64 p1, .slice c1 c2 c3, .int .i64 p2, .int .i64 p3, .int .i64 p4, .slice e1 e2 e3] 53) := ⟨_, rfl⟩
    have HV7 : Hid (Upto [] w6 W7) := Lib.hid (by rw [hW7]; exact (Upto.refl [] w6).alloc _)
    have HB6 := Lib.hid (hu6.at HB4.out (by simp))
    have HB7 := Lib.hid (HV7.out.at HB6.out (by simp))
    have HY7 : Hid (W7.heap[w6.heap.size]? = some (.cells #[.slice g1 LN g3, .int .i64 p1, .slice c1 c2 c3, .int .i64 p2, .int .i64 p3, .int .i64 p4, .slice e1 e2 e3] 53 (0, 0))) := Lib.hid (by rw [hW7]; exact new_at w6 _)
    have HU7 := Lib.hid ((HUE.out.trans_ext hu6).trans_ext HV7.out)
    have hbx : (w6.alloc (.cells #[.slice g1 LN g3, .int .i64 p1, .slice c1 c2 c3, .int .i64 p2, .int .i64 p3, .int .i64 p4, .slice e1 e2 e3] 53)).heap[w.heap.size]? = _ := alloc_old HB6.out _
    have HBX := Lib.hid hbx
    clear hu6 hbx hq6
    obtain ⟨y0, y1, y2, y3, y4, y5, y6⟩ := cells7 HBX.out
    go_wp2_with fail
    simp only [← hW7]
    clear hW7 HBX y0 y1 y2 y3 y4 y5 y6
    refine (HRT.out _ HU7.out).mono ?_
    rintro r w8 ⟨rfl, hu8⟩
    have HU8 := Lib.hid (HU7.out.trans_ext hu8)
    have HY8 := Lib.hid (hu8.at HY7.out (by simp))
    have HB8 := Lib.hid (hu8.at HB7.out (by simp))
    have HQ8 := Lib.hid (HQ6.out.keep (Keep.upto (HV7.out.trans_ext hu8) (by simp)))
    clear hu8
    go_wp2_with fail
    have k0 : ∀ u : Ext w8, u.w.cell? ⟨w6.heap.size, 0, none⟩ = some (.slice g1 LN g3) := fun u => u.cell (cell_of HY8.out 0)
    have k1 : ∀ u : Ext w8, u.w.cell? ⟨w6.heap.size, 1, none⟩ = some (.int .i64 p1) := fun u => u.cell (cell_of HY8.out 1)
    have k2 : ∀ u : Ext w8, u.w.cell? ⟨w6.heap.size, 2, none⟩ = some (.slice c1 c2 c3) := fun u => u.cell (cell_of HY8.out 2)
    have k3 : ∀ u : Ext w8, u.w.cell? ⟨w6.heap.size, 3, none⟩ = some (.int .i64 p2) := fun u => u.cell (cell_of HY8.out 3)
    have k4 : ∀ u : Ext w8, u.w.cell? ⟨w6.heap.size, 4, none⟩ = some (.int .i64 p3) := fun u => u.cell (cell_of HY8.out 4)
    have k5 : ∀ u : Ext w8, u.w.cell? ⟨w6.heap.size, 5, none⟩ = some (.int .i64 p4) := fun u => u.cell (cell_of HY8.out 5)
    have k6 : ∀ u : Ext w8, u.w.cell? ⟨w6.heap.size, 6, none⟩ = some (.slice e1 e2 e3) := fun u => u.cell (cell_of HY8.out 6)
    have j0 : ∀ u : Ext w8, u.w.cell? ⟨w.heap.size, 0, none⟩ = some (.slice f1 q.free.length f3) := fun u => u.cell (cell_of HB8.out 0)
    have j1 : ∀ u : Ext w8, u.w.cell? ⟨w.heap.size, 1, none⟩ = some (.int .i64 o1) := fun u => u.cell (cell_of HB8.out 1)
    have j2 : ∀ u : Ext w8, u.w.cell? ⟨w.heap.size, 2, none⟩ = some (.slice a1 a2 a3) := fun u => u.cell (cell_of HB8.out 2)
    have j3 : ∀ u : Ext w8, u.w.cell? ⟨w.heap.size, 3, none⟩ = some (.int .i64 s1) := fun u => u.cell (cell_of HB8.out 3)
    have j4 : ∀ u : Ext w8, u.w.cell? ⟨w.heap.size, 4, none⟩ = some (.int .i64 n1) := fun u => u.cell (cell_of HB8.out 4)
    have j5 : ∀ u : Ext w8, u.w.cell? ⟨w.heap.size, 5, none⟩ = some (.int .i64 m1) := fun u => u.cell (cell_of HB8.out 5)
    have j6 : ∀ u : Ext w8, u.w.cell? ⟨w.heap.size, 6, none⟩ = some (.slice l1 l2 l3) := fun u => u.cell (cell_of HB8.out 6)
    have HC1 := Lib.hid (fun u (hu : Upto [] w8 u) => backq_calls (apartQ q) _ u _ (HQ8.out.keep (Keep.upto hu (by simp))) (by have := HFO.out; omega) HFO.out.2.2.2 (by have := HFO.out; omega))
    have HC2 := Lib.hid (fun u (hu : Upto [] w8 u) => HAQ.out u (HU8.out.trans_ext hu))
    have HC3 := Lib.hid (fun (u : World) (a b : Value) (ha : QnV u (fun _ => True) (apartQ q) a) (hb : QnV u (fun _ => True) (apartQ q) b) => alike_calls (apartQ q) (apartQ q) _ _ a b u (by have := HFO.out; omega) (huge_of _ (by have := HFO.out; omega) HFO.out.2.2.2) (by have := HFO.out; omega) ha hb)
    rw [(alikeF_eq _ _).2 rfl] at HC3
    refine wp_region_seg_all [4, 6, 7] [] [0, 1, 2, 3, 4, 5, 6, 7, 8, 9] (by kernel_rfl) (by kernel_rfl) ?_
    with_reducible refine seg_plain (o := ?o1) ?hi1 ?hA1 ?hC1 ?hp1 ?hw1 ?h1
    case hi1 => rfl
    case hA1 => rfl
    case hC1 => rfl
    case hp1 => rfl
    case hw1 => kernel_rfl
    intro K' hK'
    go_big_quiet_op
    go_big_quiet_on
    with_reducible refine seg_plain (o := ?o2) ?hi2 ?hA2 ?hC2 ?hp2 ?hw2 ?h2
    case hi2 => rfl
    case hA2 => rfl
    case hC2 => rfl
    case hp2 => rfl
    case hw2 => kernel_rfl
    intro K' hK'
    go_big_quiet_op
    go_big_quiet_on
    with_reducible refine seg_plain (o := ?o3) ?hi3 ?hA3 ?hC3 ?hp3 ?hw3 ?h3
    case hi3 => rfl
    case hA3 => rfl
    case hC3 => rfl
    case hp3 => rfl
    case hw3 => kernel_rfl
    intro K' hK'
    go_big_quiet_op
    go_big_quiet_on
    with_reducible refine seg_plain (o := ?o4) ?hi4 ?hA4 ?hC4 ?hp4 ?hw4 ?h4
    case hi4 => rfl
    case hA4 => rfl
    case hC4 => rfl
    case hp4 => rfl
    case hw4 => kernel_rfl
    intro K' hK'
    go_big_quiet_op
    go_big_quiet_on
    with_reducible refine seg_callO (o := ?o5) (f := 33) (args := #[.agg #[.slice g1 LN g3, .int .i64 p1, .slice c1 c2 c3, .int .i64 p2, .int .i64 p3, .int .i64 p4, .slice e1 e2 e3]]) (Y := QY) (fun y => .agg #[.slice y.fa (apartQ q).free.length y.fc, .int .i64 y.o, .slice y.a1 y.a2 y.a3, .int .i64 y.s, .int .i64 y.n, .int .i64 y.m, .slice y.l1 y.l2 y.l3]) (fun y u => QnV u (fun _ => True) (apartQ q) (.agg #[.slice y.fa (apartQ q).free.length y.fc, .int .i64 y.o, .slice y.a1 y.a2 y.a3, .int .i64 y.s, .int .i64 y.n, .int .i64 y.m, .slice y.l1 y.l2 y.l3])) (fun _ => []) ?hi5 ?hA5 ?hC5 ?hw5 ?hs5 ?hn5 ?hr5 ?hc5 ?h5
    case hi5 => rfl
    case hA5 => rfl
    case hC5 => rfl
    case hw5 => kernel_rfl
    case hs5 => exact fun _ _ _ h hu => h.keep (Keep.upto hu (by simp))
    case hn5 => exact fun _ => List.nodup_nil
    case hr5 => exact fun w => by go_simp
    case hc5 => exact fun w' hu hd => (HC1.out w' hu).mono fun r w2 hh => qy_of hh
    rintro ⟨ra, rb, r1, r2, r3, r4, r5, r6, r7, r8, r9, r10⟩
    simp only [Act.put, List.setIfInBounds_toArray, List.set_cons_zero, List.set_cons_succ]
    with_reducible refine seg_plain (o := ?o6) ?hi6 ?hA6 ?hC6 ?hp6 ?hw6 ?h6
    case hi6 => rfl
    case hA6 => rfl
    case hC6 => rfl
    case hp6 => rfl
    case hw6 => kernel_rfl
    intro K' hK'
    go_big_quiet_op
    go_big_quiet_on
    with_reducible refine seg_callO (o := ?o7) (f := 34) (args := #[.agg #[.slice f1 q.free.length f3, .int .i64 o1, .slice a1 a2 a3, .int .i64 s1, .int .i64 n1, .int .i64 m1, .slice l1 l2 l3]]) (Y := QY) (fun y => .agg #[.slice y.fa (apartQ q).free.length y.fc, .int .i64 y.o, .slice y.a1 y.a2 y.a3, .int .i64 y.s, .int .i64 y.n, .int .i64 y.m, .slice y.l1 y.l2 y.l3]) (fun y u => QnV u (fun _ => True) (apartQ q) (.agg #[.slice y.fa (apartQ q).free.length y.fc, .int .i64 y.o, .slice y.a1 y.a2 y.a3, .int .i64 y.s, .int .i64 y.n, .int .i64 y.m, .slice y.l1 y.l2 y.l3])) (fun _ => []) ?hi7 ?hA7 ?hC7 ?hw7 ?hs7 ?hn7 ?hr7 ?hc7 ?h7
    case hi7 => rfl
    case hA7 => rfl
    case hC7 => rfl
    case hw7 => kernel_rfl
    case hs7 => exact fun _ _ _ h hu => h.keep (Keep.upto hu (by simp))
    case hn7 => exact fun _ => List.nodup_nil
    case hr7 => exact fun w => by go_simp
    case hc7 => exact fun w' hu hd => (HC2.out w' hu).mono fun r w2 hh => qy_of hh
    rintro ⟨ta, tb, t1, t2, t3, t4, t5, t6, t7, t8, t9, t10⟩
    simp only [Act.put, List.setIfInBounds_toArray, List.set_cons_zero, List.set_cons_succ]
    with_reducible refine seg_call (o := ?o8) (f := 32) (args := #[.agg #[.slice ra (apartQ q).free.length rb, .int .i64 r1, .slice r2 r3 r4, .int .i64 r5, .int .i64 r6, .int .i64 r7, .slice r8 r9 r10], .agg #[.slice ta (apartQ q).free.length tb, .int .i64 t1, .slice t2 t3 t4, .int .i64 t5, .int .i64 t6, .int .i64 t7, .slice t8 t9 t10]]) (v := .bool true) ?hi8 ?hA8 ?hC8 ?hw8 ?hr8 ?hc8 ?h8
    case hi8 => rfl
    case hA8 => rfl
    case hC8 => rfl
    case hw8 => kernel_rfl
    case hr8 => exact fun w => by go_simp
    case hc8 => exact fun w' hu hd => HC3.out w' _ _ (hd.2.1 (by kernel_rfl)) (hd.1 (by kernel_rfl))
    simp only [Act.put, List.setIfInBounds_toArray, List.set_cons_zero, List.set_cons_succ]
    with_reducible refine seg_plain (o := ?o9) ?hi9 ?hA9 ?hC9 ?hp9 ?hw9 ?h9
    case hi9 => rfl
    case hA9 => rfl
    case hC9 => rfl
    case hp9 => rfl
    case hw9 => kernel_rfl
    intro K' hK'
    go_big_quiet_op
    go_big_quiet_on
    with_reducible refine seg_plain (o := ?o10) ?hi10 ?hA10 ?hC10 ?hp10 ?hw10 ?h10
    case hi10 => rfl
    case hA10 => rfl
    case hC10 => rfl
    case hp10 => rfl
    case hw10 => kernel_rfl
    intro K' hK'
    go_big_quiet_op
    go_big_quiet_on
    intro w10 hg
    have HU10 := Lib.hid (HU8.out.trans_ext hg.up)
    clear hg
    go_wp2_with fail
    go_ret
    exact ⟨rfl, HU10.out⟩
end Go.Proofs.YtbnebkkpmcjmbaaGreatDoor


namespace Go.Proofs.YtbnebkkpmcjmbaaGreatDoor
open Go.RowKit Go.PL Go.Maps
open Go.ChangeShapes Go.WideShapes Go.ChangeAt Go.Deep
set_option maxRecDepth 100000 in
theorem pow_of {W : World} {L : List (String × DataW Unit)} (h : laidMet Tryz.prog L W) (hf : L.filter (fun x => x.1 == "internal/strconv.uint64pow10") = [("internal/strconv.uint64pow10", Lib.tabData .u64 Lib.pow10Tab)]) : PowT W := by
  have h1 := h.filter (fun x => x.1 == "internal/strconv.uint64pow10")
  rw [hf] at h1
  exact Lib.tabIs_of_head (g := 3) (by kernel_rfl) (by kernel_rfl) (t := 155) Tryz.underlying155 Tryz.underlying145 (by kernel_rfl) (by kernel_rfl) h1
end Go.Proofs.YtbnebkkpmcjmbaaGreatDoor

