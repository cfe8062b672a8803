/- Texts merged, in build order: Cn2, Ga, Z1, Gb, Ka, Kb, Kc, Kd, Ge, Hp, Wa, Ta, Gg, Tb, Tc, Td, Te, Tf, Gh, Gi, Hb, Tg, Th, Ti, Tm. -/
import Derived.Test.YtbnebkkpmcjmbaaGreatDoorMSab
import Derived.Test.YtbnebkkpmcjmbaaGreatDoorRows
import Derived.WalkKit
import Derived.WalkSpells
import Derived.WalkLawsBesides
import Derived.Maps.OwnSet
import Derived.Lib.Hide
import Derived.Laws.BytesArg
import Derived.Deep.QuietTactic
import Derived.BigQuiet
import Derived.Test.YtbnebkkpmcjmbaaGreatDoorProg
import Derived.Shelf.Small.Strs
import Derived.Shelf.LaysM
import Derived.Shelf.Strings.SplitShaped
import Derived.Deep.DeepCutAuto
import Derived.Deep.CutBlock
import Derived.Lib.Strings
import Derived.Lib.Walk
import Derived.Lib.ConvBytes
import Derived.Lib.ParseIntBMem
import Derived.Lib.AtoiErrMem
import Derived.Lib.BufferWrite
import Derived.Lib.UnsafeStr
import Derived.Lib.IfaceEq
import Derived.Laws.MakeOwn
import Derived.Laws.Strings3
import Derived.Laws.Closers25
import Derived.Laws.Closers25b
import Derived.RegionTactic
import Derived.Deep.RegionWith
import Derived.BigCall
import Derived.BigGuard
import Derived.Lib.AppendIntMem
import Derived.Carry
import Derived.OrdersHeld
import Derived.Deep.RegionHeld3
import Derived.Shelf.Strconv.Itoa3
import Derived.Shelf.Slices.Turned
import Derived.Shelf.Slices.Clone
import Derived.Deep.RegionLaw
import Derived.Lib.ItoaNum
import Derived.RangeFuncNested
import Derived.RangeFuncBound
import Derived.RangeFuncCalls
import Derived.RangeFuncLeaves
import Derived.RangeFuncBox
import Derived.Shelf.Abstract
import Derived.OwnWalkIn
import Derived.TacticsInMore
import Derived.LoopNIn
import Derived.LoopIn
import Derived.Laws.EntriesVeiled
import Derived.Laws.AppendOwn
namespace Go.Proofs.YtbnebkkpmcjmbaaGreatDoor
open Go.RowKit Go.PL Go.Maps
def ClPost2 (w : World) (op : Int) (names : List (List UInt8)) (so nn mm : Int) (l : List Nd) (e : Ending) (w' : World) : Prop := ∃ vn vl m, e = .returned (.agg #[.int .i64 op, vn, .int .i64 so, .int .i64 nn, .int .i64 mm, vl]) ∧ Upto [] w w' ∧ SlP w' (fun b => Nu w w' b ∧ b < m) vn names.length (names.map sV) ∧
  ((l = [] ∧ ∃ a c, vl = .slice a 0 c) ∨ ∃ g o c, vl = .slice (some ⟨g, o, none⟩) l.length c ∧ ((Nu w w' g ∧ m ≤ g) ∧ IsC w' g) ∧ NdsV w' (fun b => Nu w w' b ∧ m ≤ b ∧ b ≠ g) g o l)
theorem ClRow.list2 {w0 w : World} {B : Nat} {c : Nat → Nat → Value} {v : Value} {ms : List Nd} (h : ClRow w0 w B c v ms) : (ms = [] ∧ ∃ a c, v = .slice a 0 c) ∨ ∃ g o c, v = .slice (some ⟨g, o, none⟩) ms.length c ∧ (v.ownBlock = some g ∧ Unf w g) ∧ NdsV w (Lu w0 w B v) g o ms := by
  rcases h.row.2 with ⟨e, h0⟩ | ⟨g, cap, cur, e, _, hh, _, _, _, ht⟩
  · exact Or.inl ⟨List.eq_nil_of_length_eq_zero h0, none, 0, e⟩
  · refine Or.inr ⟨g, 0, cap, e, ⟨by rw [e]; rfl, _, _, hh⟩, nds_of ms 0 fun i x hi => ?_⟩
    have hil : i < ms.length := (List.getElem?_eq_some_iff.1 hi).1
    have cl : ∀ j, j < 6 → w.cell? ⟨g, 0 + i * 6 + j, none⟩ = some (c i j) := fun j hj => by
      rw [cell_of hh]
      have := cellsN_at c hil hj
      rw [← ht, List.getElem?_take] at this
      split at this
      · simpa using this
      · cases this
    exact ⟨_, _, _, _, _, _, cl 0 (by omega), cl 1 (by omega), cl 2 (by omega), cl 3 (by omega), cl 4 (by omega), cl 5 (by omega), h.nd i x hi⟩
theorem cl_end2 {w w9 wr : World} {bn : Nat} {op so nn mm : Int} {na : Option Addr} {nc : Nat} {names : List (List UInt8)} {l : List Nd} {vn : Nat} {va : Option Addr} {vc : Nat} {c : Nat → Nat → Value}
    (HI : ClI w w9 bn op so nn mm na names.length nc l vn wr) (HLT : w.heap.size = bn ∧ bn + 1 < w9.heap.size)
    (hsl : SlP w9 (fun b => Nu w w9 b ∧ b ≠ bn ∧ b ≠ bn + 1) (.slice na names.length nc) names.length (names.map sV))
    (hrow : ClRow w9 wr bn c (.slice va vn vc) (l.take vn)) (htk : l.take vn = l) (_hll : l.length = vn) :
    ClPost2 w op names so nn mm l (.returned (.agg #[.int .i64 op, .slice na names.length nc, .int .i64 so, .int .i64 nn, .int .i64 mm, .slice va vn vc])) ((((((wr.setCell ⟨w.heap.size + 1, 0, none⟩ (.int .i64 op)).setCell ⟨w.heap.size + 1, 1, none⟩ (.slice na names.length nc)).setCell ⟨w.heap.size + 1, 2, none⟩ (.int .i64 so)).setCell ⟨w.heap.size + 1, 3, none⟩ (.int .i64 nn)).setCell ⟨w.heap.size + 1, 4, none⟩ (.int .i64 mm)).setCell ⟨w.heap.size + 1, 5, none⟩ (.slice va vn vc)) := by
  have hst := nd_self wr (w.heap.size + 1) (.int .i64 op) (.slice na names.length nc) (.int .i64 so) (.int .i64 nn) (.int .i64 mm) (.slice va vn vc)
  have hrow2 := hrow.upto hst (fun k hk => Or.inl (by simp at hk; omega))
  rw [htk] at hrow2
  obtain ⟨wE, hE⟩ : ∃ wE, wE = ((((((wr.setCell ⟨w.heap.size + 1, 0, none⟩ (.int .i64 op)).setCell ⟨w.heap.size + 1, 1, none⟩ (.slice na names.length nc)).setCell ⟨w.heap.size + 1, 2, none⟩ (.int .i64 so)).setCell ⟨w.heap.size + 1, 3, none⟩ (.int .i64 nn)).setCell ⟨w.heap.size + 1, 4, none⟩ (.int .i64 mm)).setCell ⟨w.heap.size + 1, 5, none⟩ (.slice va vn vc)) := ⟨_, rfl⟩
  have hup : Upto [] w wE := by rw [hE]; exact nd_up HI.old (Or.inr (by omega)) ..
  rw [← hE] at hst hrow2 ⊢
  have hu9 : Upto [bn, bn + 1] w9 wE := (HI.up.mono (by simp)).trans (hst.mono (by simp; omega)) (fun k hk => Or.inl hk)
  have hs2 : SlP wE (fun b => Nu w wE b ∧ b < w9.heap.size) (.slice na names.length nc) names.length (names.map sV) := hsl.keep ⟨hu9.size, fun b hb hl => by
    have he := hu9.block b hl.lt (by simp; exact hb.2)
    exact ⟨⟨⟨hb.1.1, hb.1.2.stay he⟩, hl.lt⟩, he⟩⟩
  refine ⟨_, _, w9.heap.size, rfl, hup, hs2, ?_⟩
  rcases hrow2.list2 with ⟨h1, h2⟩ | ⟨g, o, cc, h1, ⟨h2, h3⟩, h4⟩
  · exact Or.inl ⟨h1, h2⟩
  · refine Or.inr ⟨g, o, cc, h1, ⟨⟨⟨by have := (hrow.own g h2).1; unfold New; omega, h3⟩, (hrow.own g h2).1⟩, (by obtain ⟨cs, t, h⟩ := h3; exact ⟨cs, t, _, h⟩)⟩, ?_⟩
    refine NdsV.keep (P := Lu w9 wE bn (.slice va vn vc)) ⟨Nat.le_refl _, fun b hb hl => ⟨⟨⟨by have := hb.1.1; unfold New at this ⊢; omega, hb.2⟩, hb.1.1, fun e => hb.1.2.2 (by rw [e]; exact h2)⟩, rfl⟩⟩ g rfl _ _ h4
set_option maxRecDepth 100000 in
set_option maxHeartbeats 6400000 in
theorem fclone2_calls (k : Nat) (op : Int) (names : List (List UInt8)) (so nn mm : Int) (l : List Nd) (hk : sizeF (.mk op names so nn mm l) ≤ k + 1) (hk7 : k + 1 ≤ 10000000) (hbg : bigN (.mk op names so nn mm l)) (P : Nat → Prop) (v : Value) (w : World) (h : NdV w P (.mk op names so nn mm l) v) : Calls Tryz.prog 42 #[v] w (ClPost2 w op names so nn mm l) := by
  obtain ⟨a1, c1, a2, c2, rfl, hs, hls⟩ := h.open
  unfold bigN at hbg
  have hsz : sizesF l ≤ k := by simp only [sizeF] at hk; omega
  have hln := sizes_len l
  have hu2 : Upto [] w ((w.alloc (.cells #[.int .i64 op, .slice a1 names.length c1, .int .i64 so, .int .i64 nn, .int .i64 mm, .slice a2 l.length c2] 30)).alloc (.cells #[.int .i64 0, .slice none 0 0, .int .i64 0, .int .i64 0, .int .i64 0, .slice none 0 0] 30)) := ((Upto.refl [] w).alloc _).alloc _
  have hb1 := alloc_old (new_at w (.cells #[.int .i64 op, .slice a1 names.length c1, .int .i64 so, .int .i64 nn, .int .i64 mm, .slice a2 l.length c2] 30)) (.cells #[.int .i64 0, .slice none 0 0, .int .i64 0, .int .i64 0, .int .i64 0, .slice none 0 0] 30)
  have hb2 := new_at1 w (.cells #[.int .i64 op, .slice a1 names.length c1, .int .i64 so, .int .i64 nn, .int .i64 mm, .slice a2 l.length c2] 30) (.cells #[.int .i64 0, .slice none 0 0, .int .i64 0, .int .i64 0, .int .i64 0, .slice none 0 0] 30)
  obtain ⟨W, hW⟩ : ∃ W, W = ((w.alloc (.cells #[.int .i64 op, .slice a1 names.length c1, .int .i64 so, .int .i64 nn, .int .i64 mm, .slice a2 l.length c2] 30)).alloc (.cells #[.int .i64 0, .slice none 0 0, .int .i64 0, .int .i64 0, .int .i64 0, .slice none 0 0] 30)) := ⟨_, rfl⟩
  rw [← hW] at hu2 hb1 hb2
  have HU2 := Lib.hid hu2
  have HB1 := Lib.hid hb1
  have HB2 := Lib.hid hb2
  have HCL := Lib.hid (fun W2 (hu : Upto [] W W2) => sclone_calls (names.map sV) a1 names.length c1 W2 P (by simp) hbg.1 (by intro u hu; obtain ⟨x, _, rfl⟩ := List.mem_map.1 hu; rfl) ((hs.ext hu2).ext hu))
  obtain ⟨x0, x1, x2, x3, x4, x5⟩ := cells6 hb1
  have hwl : w.heap.size + 1 < W.heap.size := lt_of_heap hb2
  have HWL := Lib.hid hwl
  clear hs h hu2 hb1 hb2
  go_enter Tryz.func42, Tryz.ntmps42
  go_wp2_with fail
  simp only [← hW]
  clear hW x0 x1 x2 x3 x4 x5
  refine (HCL.out W (Upto.refl [] W)).mono ?_
  rintro e w9 ⟨na, nc, rfl, hsl, hu9⟩
  have hc1 := hu9.at HB1.out (by simp)
  have hc2 := hu9.at HB2.out (by simp)
  have HUP := Lib.hid hu9
  have HC2 := Lib.hid hc2
  have HSL : Hid (SlP w9 (fun b => Nu w w9 b ∧ b ≠ w.heap.size ∧ b ≠ w.heap.size + 1) (.slice na names.length nc) names.length (names.map sV)) := Lib.hid (hsl.mono (fun b hb _ => ⟨⟨by have := hb.1; unfold New at this ⊢; omega, hb.2⟩, by have := hb.1; unfold New at this; omega, by have := hb.1; unfold New at this; omega⟩))
  have HLT : Hid (w.heap.size = w.heap.size ∧ w.heap.size + 1 < w9.heap.size) := Lib.hid ⟨rfl, lt_of_heap hc2⟩
  obtain ⟨n0, n1, n2, n3, n4, n5⟩ := cells6 hc1
  obtain ⟨f0, f1, f2, f3, f4, f5⟩ := frees6 hc1
  have hset := set_same (set_same hc1 1 (.slice na names.length nc)) 5 (.slice none 0 0)
  simp only [List.setIfInBounds_toArray, List.set_cons_zero, List.set_cons_succ] at hset
  have HI0 : Hid (ClI w w9 w.heap.size op so nn mm na names.length nc l 0 ((w9.setCell ⟨w.heap.size, 1, none⟩ (.slice na names.length nc)).setCell ⟨w.heap.size, 5, none⟩ (.slice none 0 0))) := Lib.hid
    ⟨((Upto.refl [w.heap.size] w9).setCell (p := ⟨w.heap.size, 1, none⟩) (Or.inl (by simp)) _).setCell (p := ⟨w.heap.size, 5, none⟩) (Or.inl (by simp)) _,
     (((HU2.out.trans_ext hu9).setCell (p := ⟨w.heap.size, 1, none⟩) (Or.inr (by simp)) _).setCell (p := ⟨w.heap.size, 5, none⟩) (Or.inr (by simp)) _), none, 0, 0, fun _ _ => undef, hset, ⟨by simpa [cellsN] using World.ownsRow_nil _ 0 30 6, by simp, by intro g hg; cases hg⟩⟩
  clear hsl hu9 hc1 hc2 hset
  have HLS := Lib.hid hls
  have HLN : Hid (l.length ≤ 10000000) := Lib.hid (by omega)
  clear hls
  go_wp2_with fail
  generalize hll : l.length = ll at *
  have HLL := Lib.hid hll
  have hL0 : (0 : Int) ≤ ll := by omega
  have hL1 : (ll : Int) ≤ 10000000 := by have := HLN.out; omega
  clear hll n0 n1 n2 n3 n4 n5 f0 f1 f2 f3 f4 f5
  go_loopw [15] (fun v wr => ∃ j : Nat, j ≤ ll ∧ v = .int .i64 j ∧ Hid (ClI w w9 w.heap.size op so nn mm na names.length nc l j wr)) (fun v _ => ll - (intOf v).toNat)
  case atStart => exact ⟨0, by omega, rfl, HI0⟩
  case round =>
    obtain ⟨j, hj, rfl, HI⟩ := hrel
    obtain ⟨va, vn, vc, c, hbk, hrow⟩ := HI.out.st
    obtain ⟨va', vc', hve, -⟩ := ownsRow_len hrow.row
    simp only [Value.slice.injEq] at hve
    have hvn : vn = j := by have := HLL.out; rw [hve.2.1, List.length_take]; omega
    clear hve
    subst hvn
    rcases Nat.lt_or_ge vn ll with hlt | hge
    · obtain ⟨x, hx⟩ : ∃ x, l[vn]? = some x := ⟨_, List.getElem?_eq_getElem (by have := HLL.out; omega)⟩
      obtain ⟨g, o, xo, xn1, xn2, xn3, xs, xm, xq, xl1, xl2, xl3, rfl, c0, c1', c2', c3, c4, c5, hn⟩ := (HLS.out.ext HI.out.old) vn x hx
      have hjl : (l.take vn).length = vn := by have := HLL.out; rw [List.length_take]; omega
      have HJL := Lib.hid hjl
      have HTK : Hid (l.take (vn + 1) = l.take vn ++ [x]) := Lib.hid (by
        obtain ⟨hi, rfl⟩ := List.getElem?_eq_some_iff.1 hx
        exact List.take_succ_eq_append_getElem hi)
      have hxs := sizesF_mem (List.mem_of_getElem? hx)
      have hu7 : Upto [] wr (wr.alloc (.cells #[.int .i64 xo, .slice xn1 xn2 xn3, .int .i64 xs, .int .i64 xm, .int .i64 xq, .slice xl1 xl2 xl3] 30)) := (Upto.refl [] wr).alloc _
      have hb7 := new_at wr (.cells #[.int .i64 xo, .slice xn1 xn2 xn3, .int .i64 xs, .int .i64 xm, .int .i64 xq, .slice xl1 xl2 xl3] 30)
      obtain ⟨W7, hW7⟩ : ∃ W7, W7 = wr.alloc (.cells #[.int .i64 xo, .slice xn1 xn2 xn3, .int .i64 xs, .int .i64 xm, .int .i64 xq, .slice xl1 xl2 xl3] 30) := ⟨_, rfl⟩
      rw [← hW7] at hu7 hb7
      have HI7 := Lib.hid (HI.out.ext hu7)
      have hbk7 := hu7.at hbk (by simp)
      have HBK := Lib.hid hbk7
      have HROW := Lib.hid (hrow.upto hu7 (by simp))
      have HC := Lib.hid (fun w1 (hu : Upto [] W7 w1) => fclone_calls k x (by omega) (by omega) (bigs_mem hbg.2 (List.mem_of_getElem? hx)) P _ w1 ((hn.ext hu7).ext hu))
      have HB7 := Lib.hid hb7
      have hltI : (vn : Int) < ll := by omega
      have hj0 : (0 : Int) ≤ vn := by omega
      clear hrow hbk hn hx hu7 hb7 hbk7
      go_wp2_with fail
      simp only [← hW7]
      clear hW7
      have y5 := cell_of HBK.out 5
      simp only [List.getElem?_toArray, List.getElem?_cons_zero, List.getElem?_cons_succ] at y5
      obtain ⟨z0, z1, z2, z3, z4, z5⟩ := cells6 HB7.out
      have e0 : ∀ u : Ext W7, u.w.cell? ⟨w.heap.size, 5, none⟩ = some (.slice va vn vc) := fun u => u.cell y5
      have k0 : ∀ u : Ext W7, u.w.cell? ⟨wr.heap.size, 0, none⟩ = some _ := fun u => u.cell z0
      have k1 : ∀ u : Ext W7, u.w.cell? ⟨wr.heap.size, 1, none⟩ = some _ := fun u => u.cell z1
      have k2 : ∀ u : Ext W7, u.w.cell? ⟨wr.heap.size, 2, none⟩ = some _ := fun u => u.cell z2
      have k3 : ∀ u : Ext W7, u.w.cell? ⟨wr.heap.size, 3, none⟩ = some _ := fun u => u.cell z3
      have k4 : ∀ u : Ext W7, u.w.cell? ⟨wr.heap.size, 4, none⟩ = some _ := fun u => u.cell z4
      have k5 : ∀ u : Ext W7, u.w.cell? ⟨wr.heap.size, 5, none⟩ = some _ := fun u => u.cell z5
      clear y5 z0 z1 z2 z3 z4 z5 c0 c1' c2' c3 c4 c5
      refine wp_region_seg_at [3, 4] [] [0, 1, 2, 3, 4] [5, 6, 7] 5 (by kernel_rfl) (by kernel_rfl) (by kernel_rfl) ?_
      iterate 3 (refine seg_plain rfl rfl rfl rfl rfl ?_; intro K' hK'; go_big_quiet_op; go_big_quiet_on)
      refine seg_callO (Y := (Int × Option Addr × Nat × Nat) × Int × Int × Int × Option Addr × Nat × Nat) (fun y => .agg #[.int .i64 y.1.1, .slice y.1.2.1 y.1.2.2.1 y.1.2.2.2, .int .i64 y.2.1, .int .i64 y.2.2.1, .int .i64 y.2.2.2.1, .slice y.2.2.2.2.1 y.2.2.2.2.2.1 y.2.2.2.2.2.2]) (fun y u => NdV u (Nu W7 u) x (.agg #[.int .i64 y.1.1, .slice y.1.2.1 y.1.2.2.1 y.1.2.2.2, .int .i64 y.2.1, .int .i64 y.2.2.1, .int .i64 y.2.2.2.1, .slice y.2.2.2.2.1 y.2.2.2.2.2.1 y.2.2.2.2.2.2])) (fun _ => []) rfl rfl rfl rfl (fun _ _ _ h hu => h.nu hu) (fun _ => List.nodup_nil) (fun w => by go_simp) (fun w' hu hd => (HC.out w' hu).mono fun e w2 ⟨v, h1, h2, h3⟩ => by
        obtain ⟨ro, rn1, rn2, rn3, rs, rm, rq, rl1, rl2, rl3, rfl⟩ := h2.six
        exact ⟨((ro, rn1, rn2, rn3), rs, rm, rq, rl1, rl2, rl3), h1, h3, h2.mono (fun b hb _ => ⟨New.mono hu b hb.1, hb.2⟩), fun b hb => by cases hb⟩) ?_
      rintro ⟨⟨ro, rn1, rn2, rn3⟩, rs, rm, rq, rl1, rl2, rl3⟩
      simp only [Act.put, List.setIfInBounds_toArray, List.set_cons_zero, List.set_cons_succ]
      refine seg_opq (Y := Nat) (fun b => .slice (some ⟨b, 0, none⟩) 1 1) (fun b u => u.heap[b]? = some (.cells #[.int .i64 ro, .slice rn1 rn2 rn3, .int .i64 rs, .int .i64 rm, .int .i64 rq, .slice rl1 rl2 rl3] 30 (0, 0))) (fun _ => []) rfl rfl rfl rfl (fun _ _ _ h hu => hu.at h (by simp)) (fun _ => List.nodup_nil) (fun w' post hu hd hp => (congrArg (opqUpon Tryz.prog post) (show _ = Result.ok (Next.value (.slice (some ⟨w'.heap.size, 0, none⟩) 1 1)) (w'.alloc (.cells #[.int .i64 ro, .slice rn1 rn2 rn3, .int .i64 rs, .int .i64 rm, .int .i64 rq, .slice rl1 rl2 rl3] 30)) from by go_simp)).mpr (hp w'.heap.size _ ((Upto.refl [] w').alloc _) (new_at _ _) (fun b hb => by cases hb))) ?_
      intro b8
      simp only [Act.put, List.setIfInBounds_toArray, List.set_cons_zero, List.set_cons_succ]
      intro w10 hg
      have HU10 := Lib.hid hg.up
      have HB8 : Hid (w10.heap[b8]? = some (.cells #[.int .i64 ro, .slice rn1 rn2 rn3, .int .i64 rs, .int .i64 rm, .int .i64 rq, .slice rl1 rl2 rl3] 30 (0, 0))) := Lib.hid hg.hold.1
      have HND : Hid (NdV w10 (Nu W7 w10) x (.agg #[.int .i64 ro, .slice rn1 rn2 rn3, .int .i64 rs, .int .i64 rm, .int .i64 rq, .slice rl1 rl2 rl3])) := Lib.hid hg.hold.2.1
      simp only [List.drop_succ_cons, List.drop_zero]
      clear hg e0 k0 k1 k2 k3 k4 k5
      have HR10 := Lib.hid (HROW.out.upto HU10.out (by simp))
      have hr10 := HR10.out.row
      rw [hjl] at hr10
      have HRR := Lib.hid hr10
      obtain ⟨i1, hi1, hy0, hy1, hy2⟩ := info59'
      have hL7 := HLN.out
      have HA := Lib.hid (fun b5 c5 w5 (ho5 : w5.ownsRow 0 30 6 (.slice b5 (vn + 1) c5) (vn + 1) (cellsN c vn ++ [.int .i64 ro, .slice rn1 rn2 rn3, .int .i64 rs, .int .i64 rm, .int .i64 rq, .slice rl1 rl2 rl3])) (hu5 : Upto (Value.slice va vn vc).ownBlock.toList w10 w5) (hw5 : ∀ g, (Value.slice b5 (vn + 1) c5).ownBlock = some g → (Value.slice va vn vc).ownBlock = some g ∨ w10.heap.size ≤ g) => cl_step HI7.out ⟨Nat.le_refl _, by have := HLT.out.2; omega⟩ HBK.out HROW.out HU10.out HND.out HJL.out HTK.out ho5 hu5 hw5)
      clear hr10 hjl
      go_wp2_with (at_builtin
                   refine wpList_app _ rfl (.tmp 20) (.tmp 23) 28 rfl 30 i1 (.agg #[.int .i64 0, .slice none 0 0, .int .i64 0, .int .i64 0, .int .i64 0, .slice none 0 0]) 6 80 Tryz.underlying28 hi1 hy0 hy1 hy2 rfl (by decide) (.slice va vn vc) vn (cellsN c vn) rfl HRR.out ⟨b8, 0, none⟩ 1 1 [.int .i64 ro, .slice rn1 rn2 rn3, .int .i64 rs, .int .i64 rm, .int .i64 rq, .slice rl1 rl2 rl3] rfl rfl (six_at HB8.out) (by simp [Value.oneCell']) (by unfold maxLen; omega) (by omega) ?_
                   intro b5 c5 w5 ho5 hu5 hw5
                   obtain ⟨hbk5, hI5⟩ := HA.out b5 c5 w5 ho5 hu5 hw5
                   have y5 := cell_of hbk5 5
                   have g5 := free_of hbk5 5
                   simp only [List.getElem?_toArray, List.getElem?_cons_zero, List.getElem?_cons_succ] at y5
                   have HI5 := Lib.hid hI5
                   clear ho5 hu5 hw5 hbk5 hI5)
      go_roundw
      case rel => exact ⟨vn + 1, by omega, by go_num, HI5⟩
      case measure => simp [intOf]; omega
    · obtain rfl : vn = ll := by omega
      have hgeI : ¬ ((vn : Int) < vn) := by omega
      have HROW := Lib.hid hrow
      have hz2 := HI.out.up.at HC2.out (by simp)
      have HZ2 := Lib.hid hz2
      obtain ⟨p0, p1, p2, p3, p4, p5⟩ := cells6 hbk
      obtain ⟨r0, r1, r2, r3, r4, r5⟩ := cells6 hz2
      obtain ⟨t0, t1, t2, t3, t4, t5⟩ := frees6 hz2
      have hF := cl_end2 (names := names) HI.out ⟨rfl, HLT.out.2⟩ HSL.out HROW.out (List.take_of_length_le (by have := HLL.out; omega)) HLL.out
      have HF := Lib.hid hF
      clear hrow hbk hz2 hF
      go_wp2_with fail
      have hst := nd_store HZ2.out (.int .i64 op) (.slice na names.length nc) (.int .i64 so) (.int .i64 nn) (.int .i64 mm) (.slice va vn vc)
      obtain ⟨q0, q1, q2, q3, q4, q5⟩ := cells6 hst
      exact bodyPost_ret (v := .agg #[.int .i64 op, .slice na names.length nc, .int .i64 so, .int .i64 nn, .int .i64 mm, .slice va vn vc]) (by simp [results, Tryz.results42, go_sem, q0, q1, q2, q3, q4, q5]) rfl HF.out
end Go.Proofs.YtbnebkkpmcjmbaaGreatDoor


namespace Go.Proofs.YtbnebkkpmcjmbaaGreatDoor
open Go.RowKit Go.PL Go.Maps
theorem binds_16 (n : Nat) : bindsF 16 n = decide (0 < n) := by simp [bindsF]
theorem binds_17 (n : Nat) : bindsF 17 n = decide (0 < n) := by simp [bindsF]
theorem binds_no {op : Int} (h1 : ¬ op = 16) (h2 : ¬ op = 17) (n : Nat) : bindsF op n = false := by simp [bindsF, h1, h2]
set_option maxRecDepth 100000 in
set_option maxHeartbeats 1600000 in
theorem binds_calls (op : Int) (a1 : Option Addr) (n1 c1 : Nat) (so nn mm : Int) (a2 : Option Addr) (n2 c2 : Nat) (w : World) : Calls Tryz.prog 57 #[.agg #[.int .i64 op, .slice a1 n1 c1, .int .i64 so, .int .i64 nn, .int .i64 mm, .slice a2 n2 c2]] w fun e w' => e = .returned (.bool (bindsF op n1)) ∧ Upto [] w w' := by
  have HU := Lib.hid ((Upto.refl [] w).alloc (.cells #[.int .i64 op, .slice a1 n1 c1, .int .i64 so, .int .i64 nn, .int .i64 mm, .slice a2 n2 c2] 30))
  by_cases h16 : op = 16
  · subst h16
    rw [binds_16]
    go_enter Tryz.func57, Tryz.ntmps57
    go_wp2_with fail
    go_ret
    exact ⟨ret_bool rfl, HU.out⟩
  by_cases h17 : op = 17
  · subst h17
    rw [binds_17]
    go_enter Tryz.func57, Tryz.ntmps57
    go_wp2_with fail
    go_ret
    exact ⟨ret_bool rfl, HU.out⟩
  · rw [binds_no h16 h17]
    have e1 : (op == 16) = false := by simpa using h16
    have e2 : (op == 17) = false := by simpa using h17
    go_enter Tryz.func57, Tryz.ntmps57
    go_wp2_with fail
    go_ret
    exact ⟨rfl, HU.out⟩
set_option maxRecDepth 100000 in
set_option maxHeartbeats 1600000 in
theorem bindsR_calls (op : Int) (a1 : Option Addr) (n1 c1 : Nat) (so nn mm : Int) (a2 : Option Addr) (n2 c2 : Nat) (w : World) (hg : op = 16 ∨ op = 17 → 0 < n1) : Calls Tryz.prog 48 #[.agg #[.int .i64 op, .slice a1 n1 c1, .int .i64 so, .int .i64 nn, .int .i64 mm, .slice a2 n2 c2]] w fun e w' => e = .returned (.bool (bindsF op n1)) ∧ Upto [] w w' := by
  have HU := Lib.hid ((Upto.refl [] w).alloc (.cells #[.int .i64 op, .slice a1 n1 c1, .int .i64 so, .int .i64 nn, .int .i64 mm, .slice a2 n2 c2] 25))
  by_cases h16 : op = 16
  · subst h16
    rw [binds_16, decide_eq_true (hg (Or.inl rfl))]
    clear hg
    go_enter Tryz.func48, Tryz.ntmps48
    go_wp2_with fail
    go_ret
    exact ⟨rfl, HU.out⟩
  by_cases h17 : op = 17
  · subst h17
    rw [binds_17, decide_eq_true (hg (Or.inr rfl))]
    clear hg
    go_enter Tryz.func48, Tryz.ntmps48
    go_wp2_with fail
    go_ret
    exact ⟨rfl, HU.out⟩
  · rw [binds_no h16 h17]
    clear hg
    have e1 : (op == 16) = false := by simpa using h16
    have e2 : (op == 17) = false := by simpa using h17
    go_enter Tryz.func48, Tryz.ntmps48
    go_wp2_with fail
    go_ret
    exact ⟨rfl, HU.out⟩
/-- the names that a node uses, as a slice -/
def UsP (P : Nat → Prop) (op : Int) (nms : List (List UInt8)) (w : World) (e : Ending) (w' : World) : Prop := ∃ v, e = .returned v ∧ SlP w' P v (usesF op nms).length ((usesF op nms).map sV) ∧ Upto [] w w'
theorem slp_tail {w : World} {P : Nat → Prop} {g o cc : Nat} {x : List UInt8} {r : List (List UInt8)} (h : SlP w P (.slice (some ⟨g, o, none⟩) (r.length + 1) (cc + 2)) (x :: r).length ((x :: r).map sV)) : SlP w P (.slice (some ⟨g, o + 1, none⟩) r.length (cc + 1)) r.length (r.map sV) := by
  rcases h with ⟨h0, -⟩ | ⟨g', o', c', e, ⟨h1, h2, h3⟩, hc⟩
  · simp at h0
  · simp only [Value.slice.injEq, Option.some.injEq, Addr.mk.injEq] at e
    obtain ⟨⟨rfl, rfl, -⟩, -, rfl⟩ := e
    refine Or.inr ⟨g, o + 1, cc + 1, rfl, ⟨h1, h2, by simp at h3; omega⟩, fun j u hj => ?_⟩
    have := hc (j + 1) u (by simpa using hj)
    rwa [show o + (j + 1) = o + 1 + j by omega] at this
set_option maxRecDepth 100000 in
set_option maxHeartbeats 1600000 in
theorem uses_calls (P : Nat → Prop) (op : Int) (nms : List (List UInt8)) (a1 : Option Addr) (c1 : Nat) (so nn mm : Int) (a2 : Option Addr) (n2 c2 : Nat) (w : World) (hg : op = 10 → 0 < nms.length) (hs : SlP w P (.slice a1 nms.length c1) nms.length (nms.map sV)) (hl : nms.length ≤ 10000000) : Calls Tryz.prog 74 #[.agg #[.int .i64 op, .slice a1 nms.length c1, .int .i64 so, .int .i64 nn, .int .i64 mm, .slice a2 n2 c2]] w (UsP P op nms w) := by
  have HU := Lib.hid ((Upto.refl [] w).alloc (.cells #[.int .i64 op, .slice a1 nms.length c1, .int .i64 so, .int .i64 nn, .int .i64 mm, .slice a2 n2 c2] 30))
  by_cases h10 : op = 10
  · subst h10
    have h0 := hg rfl
    cases nms with
    | nil => simp at h0
    | cons x r =>
      rcases hs with ⟨hz, -⟩ | ⟨g, o, c', e, ⟨hp, hi, hnc⟩, hc⟩
      · simp at hz
      have hs : SlP w P (.slice (some ⟨g, o, none⟩) (x :: r).length c') (x :: r).length ((x :: r).map sV) := Or.inr ⟨g, o, c', rfl, ⟨hp, hi, hnc⟩, hc⟩
      simp only [Value.slice.injEq] at e
      obtain ⟨rfl, -, rfl⟩ := e
      simp only [List.length_cons] at hnc hl
      rw [List.length_cons] at HU ⊢
      generalize hn : r.length = n at *
      have hn1 : (n : Int) + 1 ≤ 10000000 := by omega
      have hn0 : (0 : Int) ≤ n := by omega
      have hmin : min ((n : Int) + 1) 1 = 1 := by omega
      have HS := Lib.hid hs
      have HN := Lib.hid hn
      clear hc hs hi hp hg h0 hn
      by_cases h1 : c1 = 1
      · subst h1
        have h00 : n = 0 := by omega
        subst h00
        go_enter Tryz.func74, Tryz.ntmps74
        go_wp2_with fail
        go_ret
        have hr : r = [] := List.eq_nil_of_length_eq_zero HN.out
        subst hr
        refine ⟨_, rfl, Or.inl ⟨rfl, rfl, _, _, rfl⟩, HU.out⟩
      · obtain ⟨cc, rfl⟩ : ∃ cc, c1 = cc + 2 := ⟨c1 - 2, by omega⟩
        go_enter Tryz.func74, Tryz.ntmps74
        go_wp2_with fail
        go_ret
        have e := HN.out
        subst e
        have HE : usesF 10 (x :: r) = r := by simp [usesF]
        unfold UsP
        rw [HE]
        exact ⟨_, rfl, slp_tail (HS.out.ext HU.out), HU.out⟩
  · have e10 : (op == 10) = false := by simpa using h10
    by_cases h2 : op < 2
    · have e2 : ¬ 2 ≤ op := by omega
      have HE : Hid (usesF op nms = []) := Lib.hid (by unfold usesF; rw [if_neg h10, if_neg (by omega)])
      clear hs hg
      go_enter Tryz.func74, Tryz.ntmps74
      go_wp2_with fail
      go_ret
      unfold UsP
      rw [HE.out]
      exact ⟨_, rfl, SlP.nil, HU.out⟩
    · by_cases h3 : op < 10
      · have e2 : 2 ≤ op := by omega
        have HE : Hid (usesF op nms = nms) := Lib.hid (by unfold usesF; rw [if_neg h10, if_pos (by omega)])
        have HS := Lib.hid (hs.ext HU.out)
        clear hs hg
        go_enter Tryz.func74, Tryz.ntmps74
        go_wp2_with fail
        go_ret
        unfold UsP
        rw [HE.out]
        exact ⟨_, rfl, HS.out, HU.out⟩
      · have e2 : 2 ≤ op := by omega
        have HE : Hid (usesF op nms = []) := Lib.hid (by unfold usesF; rw [if_neg h10, if_neg (by omega)])
        clear hs hg
        go_enter Tryz.func74, Tryz.ntmps74
        go_wp2_with fail
        go_ret
        unfold UsP
        rw [HE.out]
        exact ⟨_, rfl, SlP.nil, HU.out⟩
end Go.Proofs.YtbnebkkpmcjmbaaGreatDoor


namespace Go.Proofs.YtbnebkkpmcjmbaaGreatDoor
open Go.RowKit Go.PL Go.Maps

set_option maxRecDepth 100000 in
set_option maxHeartbeats 6400000 in
theorem count_calls : ∀ (k : Nat) (nd : Nd), sizeF nd ≤ k → k ≤ 10000000 → ∀ (v : Value) (w : World) (P : Nat → Prop), NdV w P nd v → Calls Tryz.prog 38 #[v] w fun e w' => e = .returned (.int .i64 (sizeF nd)) ∧ Upto [] w w'
  | 0, nd, hk, _, _, _, _, _ => by have := sizeF_pos nd; omega
  | k + 1, .mk op nms so nn mm l, hk, hk7, v, w, P, h => by
    obtain ⟨a1, c1, a2, c2, rfl, -, hg⟩ := h.open
    have HG := Lib.hid hg
    have hsz : sizesF l ≤ k := by simp only [sizeF] at hk; omega
    have HSZ := Lib.hid hsz
    have HE : Hid (sizeF (.mk op nms so nn mm l) = 1 + sizesF l) := Lib.hid (by simp only [sizeF])
    have HLEN : Hid (l.length ≤ 10000000) := Lib.hid (by have := sizes_len l; omega)
    have hlen := HLEN.out
    have hu1 : Upto [] w (w.alloc (.cells #[.int .i64 op, .slice a1 nms.length c1, .int .i64 so, .int .i64 nn, .int .i64 mm, .slice a2 l.length c2] 25)) := (Upto.refl [] w).alloc _
    have HB1 := Lib.hid (new_at w (.cells #[.int .i64 op, .slice a1 nms.length c1, .int .i64 so, .int .i64 nn, .int .i64 mm, .slice a2 l.length c2] 25))
    have HU1 := Lib.hid hu1
    generalize hll : l.length = ll at *
    have HLL := Lib.hid hll
    have hL0 : (0 : Int) ≤ ll := by omega
    have hL1 : (ll : Int) ≤ 10000000 := by omega
    clear h hg hsz hll hlen hk hu1
    go_enter Tryz.func38, Tryz.ntmps38
    go_wp2_with fail
    go_loopw [3, 4] (fun s i wr => ∃ j : Nat, j ≤ ll ∧ i = .int .i64 j ∧ s = .int .i64 (1 + (sizesF (l.take j) : Int)) ∧ Hid (Upto [] (w.alloc (.cells #[.int .i64 op, .slice a1 nms.length c1, .int .i64 so, .int .i64 nn, .int .i64 mm, .slice a2 ll c2] 25)) wr)) (fun _ i _ => ll - (intOf i).toNat)
    case atStart => exact ⟨0, by omega, rfl, by simp [sizesF], Lib.hid (Upto.refl _ _)⟩
    case round =>
      obtain ⟨j, hj, rfl, rfl, HU⟩ := hrel
      have hb := HU.out.at HB1.out (by simp)
      have y5 := cell_of hb 5
      simp only [List.getElem?_toArray, List.getElem?_cons_zero, List.getElem?_cons_succ] at y5
      rcases Nat.lt_or_ge j ll with hlt | hge
      · obtain ⟨x, hx⟩ : ∃ x, l[j]? = some x := ⟨_, List.getElem?_eq_getElem (by have := HLL.out; omega)⟩
        obtain ⟨g, o, xo, xn1, xn2, xn3, xs, xm, xq, xl1, xl2, xl3, rfl, d0, d1, d2, d3, d4, d5, hnx⟩ := HG.out j x hx
        have hw := HU1.out.trans_ext HU.out
        replace d0 := up_cell hw d0
        replace d1 := up_cell hw d1
        replace d2 := up_cell hw d2
        replace d3 := up_cell hw d3
        replace d4 := up_cell hw d4
        replace d5 := up_cell hw d5
        have hst := sizesF_take l j x hx
        have HST := Lib.hid hst
        have HXX := Lib.hid hx
        have HC := Lib.hid (count_calls k x (by have := HSZ.out; omega) (by omega) _ wr P (hnx.ext hw))
        have hltI : (j : Int) < ll := by omega
        have hj0 : (0 : Int) ≤ j := by omega
        have hb1 := HSZ.out
        have hb2 := sizeF_pos x
        have hb3 := depth_le_size x
        have hb4 := depths_le_sizes (l.take j)
        generalize hA : sizesF (l.take j) = A at *
        generalize hB : sizeF x = B at *
        have hA0 : (0 : Int) ≤ A := by omega
        have hA1 : (A : Int) ≤ 10000000 := by omega
        have hB0 : (0 : Int) ≤ B := by omega
        have hB1 : (B : Int) ≤ 10000000 := by omega
        have HAB := Lib.hid (And.intro hA hB)
        clear hst hnx hx hb1 hb2 hb3 hb4 hA hB hb hw
        go_wp2_with fail
        refine HC.out.mono ?_
        rintro e w5 ⟨rfl, hu5⟩
        have HU5 := Lib.hid (HU.out.trans_ext hu5)
        clear hu5
        go_wp2_with fail
        go_roundw
        case rel => exact ⟨j + 1, by omega, by go_num, by rw [HST.out.1]; congr 1; omega, HU5⟩
        case measure => simp [intOf]; omega
      · obtain rfl : j = ll := by omega
        have hgeI : ¬ (j : Int) < j := by omega
        have HT : Hid (l.take j = l) := Lib.hid (by rw [← HLL.out, List.take_length])
        rw [HT.out]
        have hq1 := HSZ.out
        have hq2 := depths_le_sizes l
        generalize hA : sizesF l = A at *
        have hA0 : (0 : Int) ≤ A := by omega
        have hA1 : (A : Int) ≤ 10000000 := by omega
        have HUF := Lib.hid (HU1.out.trans_ext HU.out)
        clear hq1 hq2 hA hb
        go_wp2
        go_ret
        exact ⟨by rw [HE.out]; exact ret_int (by omega), HUF.out⟩

set_option maxRecDepth 100000 in
set_option maxHeartbeats 6400000 in
theorem deep_calls : ∀ (k : Nat) (nd : Nd), sizeF nd ≤ k → k ≤ 10000000 → ∀ (v : Value) (w : World) (P : Nat → Prop), NdV w P nd v → Calls Tryz.prog 39 #[v] w fun e w' => e = .returned (.int .i64 (depthF nd)) ∧ Upto [] w w'
  | 0, nd, hk, _, _, _, _, _ => by have := sizeF_pos nd; omega
  | k + 1, .mk op nms so nn mm l, hk, hk7, v, w, P, h => by
    obtain ⟨a1, c1, a2, c2, rfl, -, hg⟩ := h.open
    have HG := Lib.hid hg
    have hsz : sizesF l ≤ k := by simp only [sizeF] at hk; omega
    have HSZ := Lib.hid hsz
    have HE : Hid (depthF (.mk op nms so nn mm l) = depthsF l + 1) := Lib.hid (by simp only [depthF])
    have HLEN : Hid (l.length ≤ 10000000) := Lib.hid (by have := sizes_len l; omega)
    have hlen := HLEN.out
    have hu1 : Upto [] w (w.alloc (.cells #[.int .i64 op, .slice a1 nms.length c1, .int .i64 so, .int .i64 nn, .int .i64 mm, .slice a2 l.length c2] 25)) := (Upto.refl [] w).alloc _
    have HB1 := Lib.hid (new_at w (.cells #[.int .i64 op, .slice a1 nms.length c1, .int .i64 so, .int .i64 nn, .int .i64 mm, .slice a2 l.length c2] 25))
    have HU1 := Lib.hid hu1
    generalize hll : l.length = ll at *
    have HLL := Lib.hid hll
    have hL0 : (0 : Int) ≤ ll := by omega
    have hL1 : (ll : Int) ≤ 10000000 := by omega
    clear h hg hsz hll hlen hk hu1
    go_enter Tryz.func39, Tryz.ntmps39
    go_wp2_with fail
    go_loopw [3, 4] (fun s i wr => ∃ j : Nat, j ≤ ll ∧ i = .int .i64 j ∧ s = .int .i64 ((depthsF (l.take j) : Int)) ∧ Hid (Upto [] (w.alloc (.cells #[.int .i64 op, .slice a1 nms.length c1, .int .i64 so, .int .i64 nn, .int .i64 mm, .slice a2 ll c2] 25)) wr)) (fun _ i _ => ll - (intOf i).toNat)
    case atStart => exact ⟨0, by omega, rfl, by simp [depthsF], Lib.hid (Upto.refl _ _)⟩
    case round =>
      obtain ⟨j, hj, rfl, rfl, HU⟩ := hrel
      have hb := HU.out.at HB1.out (by simp)
      have y5 := cell_of hb 5
      simp only [List.getElem?_toArray, List.getElem?_cons_zero, List.getElem?_cons_succ] at y5
      rcases Nat.lt_or_ge j ll with hlt | hge
      · obtain ⟨x, hx⟩ : ∃ x, l[j]? = some x := ⟨_, List.getElem?_eq_getElem (by have := HLL.out; omega)⟩
        obtain ⟨g, o, xo, xn1, xn2, xn3, xs, xm, xq, xl1, xl2, xl3, rfl, d0, d1, d2, d3, d4, d5, hnx⟩ := HG.out j x hx
        have hw := HU1.out.trans_ext HU.out
        replace d0 := up_cell hw d0
        replace d1 := up_cell hw d1
        replace d2 := up_cell hw d2
        replace d3 := up_cell hw d3
        replace d4 := up_cell hw d4
        replace d5 := up_cell hw d5
        have hst := sizesF_take l j x hx
        have HST := Lib.hid hst
        have HXX := Lib.hid hx
        have HC := Lib.hid (deep_calls k x (by have := HSZ.out; omega) (by omega) _ wr P (hnx.ext hw))
        have hltI : (j : Int) < ll := by omega
        have hj0 : (0 : Int) ≤ j := by omega
        have hb1 := HSZ.out
        have hb2 := sizeF_pos x
        have hb3 := depth_le_size x
        have hb4 := depths_le_sizes (l.take j)
        generalize hA : depthsF (l.take j) = A at *
        generalize hB : depthF x = B at *
        have hA0 : (0 : Int) ≤ A := by omega
        have hA1 : (A : Int) ≤ 10000000 := by omega
        have hB0 : (0 : Int) ≤ B := by omega
        have hB1 : (B : Int) ≤ 10000000 := by omega
        have HAB := Lib.hid (And.intro hA hB)
        clear hst hnx hx hb1 hb2 hb3 hb4 hA hB hb hw
        have HMX : Hid (depthsF (l.take (j + 1)) = max A B) := Lib.hid (by rw [depthsF_take l j x HXX.out, HAB.out.1, HAB.out.2])
        rcases Nat.lt_or_ge A B with hab | hab
        · have habI : (A : Int) < B := by omega
          have hmx : max (A : Int) B = B := by omega
          go_wp2_with fail
          refine HC.out.mono ?_
          rintro e w5 ⟨rfl, hu5⟩
          have HU5 := Lib.hid (HU.out.trans_ext hu5)
          clear hu5
          go_wp2_with fail
          go_roundw
          case rel => exact ⟨j + 1, by omega, by go_num, by rw [HMX.out]; first | rfl | (congr 1; omega), HU5⟩
          case measure => simp [intOf]; omega
        · have habI : (B : Int) ≤ A := by omega
          have hmx : max (A : Int) B = A := by omega
          go_wp2_with fail
          refine HC.out.mono ?_
          rintro e w5 ⟨rfl, hu5⟩
          have HU5 := Lib.hid (HU.out.trans_ext hu5)
          clear hu5
          go_wp2_with fail
          go_roundw
          case rel => exact ⟨j + 1, by omega, by go_num, by rw [HMX.out]; first | rfl | (congr 1; omega), HU5⟩
          case measure => simp [intOf]; omega
      · obtain rfl : j = ll := by omega
        have hgeI : ¬ (j : Int) < j := by omega
        have HT : Hid (l.take j = l) := Lib.hid (by rw [← HLL.out, List.take_length])
        rw [HT.out]
        have hq1 := HSZ.out
        have hq2 := depths_le_sizes l
        generalize hA : depthsF l = A at *
        have hA0 : (0 : Int) ≤ A := by omega
        have hA1 : (A : Int) ≤ 10000000 := by omega
        have HUF := Lib.hid (HU1.out.trans_ext HU.out)
        clear hq1 hq2 hA hb
        go_wp2
        go_ret
        exact ⟨by rw [HE.out]; exact ret_int (by omega), HUF.out⟩

end Go.Proofs.YtbnebkkpmcjmbaaGreatDoor


namespace Go.Proofs.YtbnebkkpmcjmbaaGreatDoor
open Go.RowKit Go.PL Go.Maps
mutual
/-- a quantifier has a name, a call has one -/
def goodN : Nd → Prop
  | .mk op nms _ _ _ l => (op = 10 ∨ op = 16 ∨ op = 17 → 0 < nms.length) ∧ goodsN l
def goodsN : List Nd → Prop
  | [] => True
  | x :: xs => goodN x ∧ goodsN xs
end
theorem goodsN_mem : ∀ {l : List Nd}, goodsN l → ∀ x ∈ l, goodN x
  | [], _, x, hx => by cases hx
  | y :: ys, h, x, hx => by
    unfold goodsN at h
    rcases List.mem_cons.1 hx with rfl | hx
    · exact h.1
    · exact goodsN_mem h.2 x hx
end Go.Proofs.YtbnebkkpmcjmbaaGreatDoor


namespace Go.Proofs.YtbnebkkpmcjmbaaGreatDoor
open Go.RowKit Go.PL Go.Maps
set_option maxRecDepth 100000 in
set_option maxHeartbeats 1600000 in
theorem binds16_calls (a1 : Option Addr) (n1 c1 : Nat) (so nn mm : Int) (a2 : Option Addr) (n2 c2 : Nat) (h1 : 1 ≤ n1) (w : World) : Calls Tryz.prog 57 #[.agg #[.int .i64 16, .slice a1 n1 c1, .int .i64 so, .int .i64 nn, .int .i64 mm, .slice a2 n2 c2]] w fun e w' => e = .returned (.bool true) ∧ Upto [] w w' := by
  have HU := Lib.hid ((Upto.refl [] w).alloc (.cells #[.int .i64 16, .slice a1 n1 c1, .int .i64 so, .int .i64 nn, .int .i64 mm, .slice a2 n2 c2] 30))
  have hn : (0 : Int) < n1 := by omega
  go_enter Tryz.func57, Tryz.ntmps57
  go_wp2_with fail
  go_ret
  exact ⟨ret_bool (decide_eq_true (by omega)), HU.out⟩
set_option maxRecDepth 100000 in
set_option maxHeartbeats 1600000 in
theorem binds5_calls (a1 : Option Addr) (n1 c1 : Nat) (so nn mm : Int) (a2 : Option Addr) (n2 c2 : Nat) (w : World) : Calls Tryz.prog 57 #[.agg #[.int .i64 5, .slice a1 n1 c1, .int .i64 so, .int .i64 nn, .int .i64 mm, .slice a2 n2 c2]] w fun e w' => e = .returned (.bool false) ∧ Upto [] w w' := by
  have HU := Lib.hid ((Upto.refl [] w).alloc (.cells #[.int .i64 5, .slice a1 n1 c1, .int .i64 so, .int .i64 nn, .int .i64 mm, .slice a2 n2 c2] 30))
  go_enter Tryz.func57, Tryz.ntmps57
  go_wp2_with fail
  go_ret
  exact ⟨rfl, HU.out⟩
set_option maxRecDepth 100000 in
set_option maxHeartbeats 1600000 in
theorem uses16_calls (a1 : Option Addr) (n1 c1 : Nat) (so nn mm : Int) (a2 : Option Addr) (n2 c2 : Nat) (w : World) : Calls Tryz.prog 74 #[.agg #[.int .i64 16, .slice a1 n1 c1, .int .i64 so, .int .i64 nn, .int .i64 mm, .slice a2 n2 c2]] w fun e w' => e = .returned (.slice none 0 0) ∧ Upto [] w w' := by
  have HU := Lib.hid ((Upto.refl [] w).alloc (.cells #[.int .i64 16, .slice a1 n1 c1, .int .i64 so, .int .i64 nn, .int .i64 mm, .slice a2 n2 c2] 30))
  go_enter Tryz.func74, Tryz.ntmps74
  go_wp2_with fail
  go_ret
  exact ⟨rfl, HU.out⟩
set_option maxRecDepth 100000 in
set_option maxHeartbeats 1600000 in
theorem uses5_calls (a1 : Option Addr) (n1 c1 : Nat) (so nn mm : Int) (a2 : Option Addr) (n2 c2 : Nat) (w : World) : Calls Tryz.prog 74 #[.agg #[.int .i64 5, .slice a1 n1 c1, .int .i64 so, .int .i64 nn, .int .i64 mm, .slice a2 n2 c2]] w fun e w' => e = .returned (.slice a1 n1 c1) ∧ Upto [] w w' := by
  have HU := Lib.hid ((Upto.refl [] w).alloc (.cells #[.int .i64 5, .slice a1 n1 c1, .int .i64 so, .int .i64 nn, .int .i64 mm, .slice a2 n2 c2] 30))
  go_enter Tryz.func74, Tryz.ntmps74
  go_wp2_with fail
  go_ret
  exact ⟨rfl, HU.out⟩
set_option maxRecDepth 100000 in
set_option maxHeartbeats 3200000 in
/-- the free names of an atom over different names -/
theorem free5_calls (ns : List (List UInt8)) (hnd : ns.Nodup) (hl : ns.length ≤ 100) (P : Nat → Prop) (a1 : Option Addr) (c1 : Nat) (so nn mm : Int) (a2 : Option Addr) (c2 : Nat) (w : World) (h : SlP w P (.slice a1 ns.length c1) ns.length (ns.map sV)) : Calls Tryz.prog 54 #[.agg #[.int .i64 5, .slice a1 ns.length c1, .int .i64 so, .int .i64 nn, .int .i64 mm, .slice a2 0 c2], .slice none 0 0, .slice none 0 0] w fun e w' => ∃ vo, e = .returned vo ∧ TxI w ns vo w' := by
  have hu1 : Upto [] w (w.alloc (.cells #[.int .i64 5, .slice a1 ns.length c1, .int .i64 so, .int .i64 nn, .int .i64 mm, .slice a2 0 c2] 30)) := (Upto.refl [] w).alloc _
  have hb1 := new_at w (.cells #[.int .i64 5, .slice a1 ns.length c1, .int .i64 so, .int .i64 nn, .int .i64 mm, .slice a2 0 c2] 30)
  obtain ⟨W, hW⟩ : ∃ W, W = w.alloc (.cells #[.int .i64 5, .slice a1 ns.length c1, .int .i64 so, .int .i64 nn, .int .i64 mm, .slice a2 0 c2] 30) := ⟨_, rfl⟩
  rw [← hW] at hu1 hb1
  have HU1 := Lib.hid hu1
  have HB1 := Lib.hid hb1
  have HUS := Lib.hid (fun u => uses5_calls a1 ns.length c1 so nn mm a2 0 c2 u)
  have HBI := Lib.hid (fun u => binds5_calls a1 ns.length c1 so nn mm a2 0 c2 u)
  have HC : Hid (∀ j, j < ns.length → ∃ g o, a1 = some ⟨g, o, none⟩ ∧ ∀ u, Upto [] W u → u.cell? ⟨g, o + j, none⟩ = some (.string ⟨(ns.getD j []).toArray⟩)) := Lib.hid (fun j hj => by
    rcases h with ⟨h0, -⟩ | ⟨g, o, c', e, -, hc⟩
    · omega
    · simp only [Value.slice.injEq] at e
      refine ⟨g, o, e.1, fun u hu => ?_⟩
      have h1 := hc j (sV ns[j]) (by simp [hj])
      rw [((HU1.out.trans_ext hu).cell (World.block_lt_of_cell? w _ h1) (by simp)).trans h1]
      simp [sV, List.getD, hj])
  have HNC : Hid (∀ j, j < ns.length → (ns.take j).contains (ns.getD j []) = false ∧ ns.take (j + 1) = ns.take j ++ [ns.getD j []]) := Lib.hid (fun j hj => by
    have e : ns.getD j [] = ns[j] := by simp [List.getD, hj]
    refine ⟨?_, by rw [e]; exact List.take_succ_eq_append_getElem hj⟩
    cases hc : (ns.take j).contains (ns.getD j []) with
    | false => rfl
    | true =>
      rw [e] at hc
      have hm : ns[j] ∈ ns.take j := by simpa using hc
      obtain ⟨i, hi, e2⟩ := List.mem_iff_getElem.1 hm
      have hij : i < j := by rw [List.length_take] at hi; omega
      rw [List.getElem_take] at e2
      exact absurd e2 ((List.pairwise_iff_getElem.1 hnd) i j (by omega) hj hij))
  have HCN := Lib.hid (fun (x : List UInt8) (u : World) => containsS_calls [] x (.slice none 0 0) u (fun _ => True) SlP.nil (by simp))
  have HCO := Lib.hid (fun (ls : List (List UInt8)) (x : List UInt8) (l : Value) (u : World) (ht : TxI W ls l u) (hn : ls.length ≤ 100) => containsS_calls ls x l u _ ht.slp (by omega))
  obtain ⟨i0, hi0, hz0, hz1, hz2⟩ := info9'
  have HI0 := Lib.hid hi0
  have HZ0 := Lib.hid hz0
  have HZ1 := Lib.hid hz1
  have HZ2 := Lib.hid hz2
  obtain ⟨x0, x1, x2, x3, x4, x5⟩ := cells6 hb1
  have HTK : Hid (ns.take ns.length = ns) := Lib.hid (List.take_of_length_le (Nat.le_refl _))
  have HTL : Hid (∀ j, j ≤ ns.length → (ns.take j).length = j) := Lib.hid (fun j hj => by rw [List.length_take]; omega)
  generalize hln : ns.length = n at *
  have hn0 : (0 : Int) ≤ n := by omega
  have hn1 : (n : Int) ≤ 100 := by omega
  clear h hi0 hz0 hz1 hz2 hu1 hb1 hnd
  go_enter Tryz.func54, Tryz.ntmps54
  go_wp2_with fail
  simp only [← hW]
  clear hW
  go_wp2_with fail
  refine (HUS.out _).mono ?_
  rintro e w1 ⟨rfl, hu1⟩
  have HU2 := Lib.hid (hu1)
  have HB2 := Lib.hid (hu1.at HB1.out (by simp))
  clear hu1 x0 x1 x2 x3 x4 x5
  go_wp2_with fail
  go_loopw [2, 14] (fun vl vi wr => ∃ (j : Nat) (va : Option Addr) (vc : Nat), vi = .int .i64 j ∧ vl = .slice va j vc ∧ j ≤ n ∧ Hid (TxI W (ns.take j) (.slice va j vc) wr)) (fun _ vi _ => n - (intOf vi).toNat)
  case atStart => exact ⟨0, none, 0, rfl, rfl, by omega, Lib.hid (by rw [List.take_zero]; exact TxI.nil W w1 HU2.out)⟩
  case round =>
    obtain ⟨j, va, vc, rfl, rfl, hj, HI⟩ := hrel
    have hj0 : (0 : Int) ≤ j := by omega
    rcases Nat.lt_or_ge j n with hlt | hge
    · obtain ⟨g, o, rfl, hcell⟩ := HC.out j hlt
      have hc := hcell wr HI.out.up
      have hltI : (j : Int) < n := by omega
      obtain ⟨hnc, htk⟩ := HNC.out j hlt
      have HTL2 := Lib.hid (HTL.out j (by omega))
      generalize ns.getD j [] = y at *
      have HNC2 := Lib.hid hnc
      have HTK2 := Lib.hid htk
      clear hcell hnc htk
      go_wp2_with fail
      refine (HCN.out y wr).mono ?_
      rintro e w2 ⟨rfl, rfl⟩
      rw [show ([] : List (List UInt8)).contains y = false from rfl]
      go_wp2_with fail
      refine (HCO.out _ y _ w2 HI.out (by rw [HTL2.out]; omega)).mono ?_
      rintro e w3 ⟨rfl, rfl⟩
      rw [HNC2.out]
      have HT := Lib.hid (HI.out.ext ((Upto.refl [] _).alloc (.cells #[.string ⟨y.toArray⟩] 9)))
      have hrow := HT.out.row
      rw [HTL2.out] at hrow
      have hsrc := cells_at (l := [sV y]) (new_at w3 (.cells #[.string ⟨y.toArray⟩] 9))
      go_wp2_with (at_builtin; refine wpList_app _ rfl (.tmp 28) (.tmp 30) 22 rfl 9 i0 (.string ⟨#[]⟩) 1 16 Tryz.underlying22 HI0.out HZ0.out HZ1.out HZ2.out rfl (by decide) (.slice va j vc) j _ rfl hrow ⟨w3.heap.size, 0, none⟩ 1 1 [sV y] rfl rfl hsrc (by simp [Value.oneCell', sV]) (by unfold maxLen; omega) (by omega) ?_; intro vb vd w4 ho4 hu4 hw4; have HM5 := Lib.hid (HT.out.app HTL2.out ho4 hu4 hw4); clear hrow hsrc ho4 hu4 hw4)
      rw [show (j : Int) + 1 = ((j + 1 : Nat) : Int) from rfl]
      exact ⟨⟨j + 1, vb, vd, rfl, rfl, by omega, Lib.hid (by rw [HTK2.out]; exact HM5.out)⟩, meas_up (by omega) rfl⟩
    · obtain rfl : j = n := by omega
      have hgeI : ¬ ((j : Int) < j) := by omega
      have HB3 := Lib.hid (HI.out.up.at HB1.out (by simp))
      obtain ⟨y0, y1, y2, y3, y4, y5⟩ := cells6 HB3.out
      go_wp2_with fail
      refine (HBI.out wr).mono ?_
      rintro e w2 ⟨rfl, hu2⟩
      have HB4 := Lib.hid (hu2.at HB3.out (by simp))
      have HE := Lib.hid (HI.out.ext hu2)
      rw [HTK.out] at HE
      clear y0 y1 y2 y3 y4 y5 hu2
      have z5 := cell_of HB4.out 5
      simp only [List.getElem?_toArray, List.getElem?_cons_zero, List.getElem?_cons_succ] at z5
      go_wp2_with fail
      clear z5
      go_loopw [2, 46] (fun vl vi wr => vl = .slice va j vc ∧ vi = .int .i64 0 ∧ wr = w2) (fun _ _ _ => 0)
      case atStart => exact ⟨rfl, rfl, rfl⟩
      case round =>
        obtain ⟨rfl, rfl, rfl⟩ := hrel
        go_wp2_with fail
        go_ret
        exact ⟨_, rfl, HE.out.row, fun g hg => Nat.le_trans HU1.out.size (HE.out.own g hg), HU1.out.trans_ext HE.out.up⟩
end Go.Proofs.YtbnebkkpmcjmbaaGreatDoor


namespace Go.Proofs.YtbnebkkpmcjmbaaGreatDoor
open Go.RowKit Go.PL Go.Maps
set_option maxRecDepth 100000 in
set_option maxHeartbeats 1600000 in
theorem bound1_calls (a1 : Option Addr) (n1 c1 : Nat) (so nn mm : Int) (a2 : Option Addr) (n2 c2 : Nat) (p : Value) (w : World) : Calls Tryz.prog 56 #[.agg #[.int .i64 5, .slice a1 n1 c1, .int .i64 so, .int .i64 nn, .int .i64 mm, .slice a2 n2 c2], p] w fun e w' => e = .returned (.tuple #[]) ∧ Upto [] w w' := by
  have HU := Lib.hid ((Upto.refl [] w).alloc (.cells #[.int .i64 5, .slice a1 n1 c1, .int .i64 so, .int .i64 nn, .int .i64 mm, .slice a2 n2 c2] 30))
  have HBI := Lib.hid (fun u => binds5_calls a1 n1 c1 so nn mm a2 n2 c2 u)
  have hb := new_at w (.cells #[.int .i64 5, .slice a1 n1 c1, .int .i64 so, .int .i64 nn, .int .i64 mm, .slice a2 n2 c2] 30)
  obtain ⟨W, hW⟩ : ∃ W, W = w.alloc (.cells #[.int .i64 5, .slice a1 n1 c1, .int .i64 so, .int .i64 nn, .int .i64 mm, .slice a2 n2 c2] 30) := ⟨_, rfl⟩
  rw [← hW] at hb HU
  have e0 : ∀ u : Ext W, u.w.cell? ⟨w.heap.size, 0, none⟩ = some (.int .i64 5) := fun u => u.cell (cell_of hb 0)
  have e1 : ∀ u : Ext W, u.w.cell? ⟨w.heap.size, 1, none⟩ = some (.slice a1 n1 c1) := fun u => u.cell (cell_of hb 1)
  have e2 : ∀ u : Ext W, u.w.cell? ⟨w.heap.size, 2, none⟩ = some (.int .i64 so) := fun u => u.cell (cell_of hb 2)
  have e3 : ∀ u : Ext W, u.w.cell? ⟨w.heap.size, 3, none⟩ = some (.int .i64 nn) := fun u => u.cell (cell_of hb 3)
  have e4 : ∀ u : Ext W, u.w.cell? ⟨w.heap.size, 4, none⟩ = some (.int .i64 mm) := fun u => u.cell (cell_of hb 4)
  have e5 : ∀ u : Ext W, u.w.cell? ⟨w.heap.size, 5, none⟩ = some (.slice a2 n2 c2) := fun u => u.cell (cell_of hb 5)
  clear hb
  go_enter Tryz.func56, Tryz.ntmps56
  go_wp2_with fail
  simp only [← hW]
  clear hW
  refine wp_region_seg_all [1, 8] [] [0, 1, 2, 3, 4, 5, 6, 7, 8, 9, 10] (by kernel_rfl) (by kernel_rfl) ?_
  (refine seg_plain rfl rfl rfl rfl rfl ?_; intro K' hK'; go_big_quiet_op; go_big_quiet_on)
  refine seg_call rfl rfl rfl rfl (fun w => by go_simp) (fun w hu hd => HBI.out w) ?_
  simp only [Act.put, List.setIfInBounds_toArray, List.set_cons_zero, List.set_cons_succ]
  (refine seg_plain rfl rfl rfl rfl rfl ?_; intro K' hK'; go_big_quiet_op; go_big_quiet_on)
  refine seg_skip rfl rfl ?_
  simp only [Act.put, List.setIfInBounds_toArray, List.set_cons_zero, List.set_cons_succ]
  refine seg_skip rfl rfl ?_
  simp only [Act.put, List.setIfInBounds_toArray, List.set_cons_zero, List.set_cons_succ]
  refine seg_skip rfl rfl ?_
  simp only [Act.put, List.setIfInBounds_toArray, List.set_cons_zero, List.set_cons_succ]
  refine seg_skip rfl rfl ?_
  simp only [Act.put, List.setIfInBounds_toArray, List.set_cons_zero, List.set_cons_succ]
  refine seg_skip rfl rfl ?_
  simp only [Act.put, List.setIfInBounds_toArray, List.set_cons_zero, List.set_cons_succ]
  refine seg_skip rfl rfl ?_
  simp only [Act.put, List.setIfInBounds_toArray, List.set_cons_zero, List.set_cons_succ]
  refine seg_skip rfl rfl ?_
  simp only [Act.put, List.setIfInBounds_toArray, List.set_cons_zero, List.set_cons_succ]
  (refine seg_plain rfl rfl rfl rfl rfl ?_; intro K' hK'; go_big_quiet_op; go_big_quiet_on)
  intro w9 hg
  have HU9 := Lib.hid (HU.out.trans_ext hg.up)
  clear hg e0 e1 e2 e3 e4 e5
  go_wp2_with fail
  exact bodyPost_end (v := .tuple #[]) (by simp [results, Tryz.results56, go_sem]) rfl ⟨rfl, HU9.out⟩
set_option maxRecDepth 100000 in
set_option maxHeartbeats 1600000 in
theorem walk5_calls (a1 : Option Addr) (n1 c1 : Nat) (so nn mm : Int) (a2 : Option Addr) (c2 : Nat) (p : Value) (w : World) : Calls Tryz.prog 55 #[.agg #[.int .i64 5, .slice a1 n1 c1, .int .i64 so, .int .i64 nn, .int .i64 mm, .slice a2 0 c2], .func (.func 56) #[] #[p]] w fun e w' => e = .returned (.tuple #[]) ∧ Upto [] w w' := by
  have HU := Lib.hid ((Upto.refl [] w).alloc (.cells #[.int .i64 5, .slice a1 n1 c1, .int .i64 so, .int .i64 nn, .int .i64 mm, .slice a2 0 c2] 30))
  have HB := Lib.hid (new_at w (.cells #[.int .i64 5, .slice a1 n1 c1, .int .i64 so, .int .i64 nn, .int .i64 mm, .slice a2 0 c2] 30))
  have HBO := Lib.hid (fun u => bound1_calls a1 n1 c1 so nn mm a2 0 c2 p u)
  go_enter Tryz.func55, Tryz.ntmps55
  go_wp2_with fail
  refine (HBO.out _).mono ?_
  rintro e w1 ⟨rfl, hu1⟩
  have HU1 := Lib.hid (HU.out.trans_ext hu1)
  have HB1 := Lib.hid (hu1.at HB.out (by simp))
  clear hu1
  have z5 := cell_of HB1.out 5
  simp only [List.getElem?_toArray, List.getElem?_cons_zero, List.getElem?_cons_succ] at z5
  go_wp2_with fail
  clear z5
  go_loopw [12] (fun vi wr => vi = .int .i64 0 ∧ wr = w1) (fun _ _ => 0)
  case atStart => exact ⟨rfl, rfl⟩
  case round =>
    obtain ⟨rfl, rfl⟩ := hrel
    go_wp2_with fail
    exact bodyPost_end (v := .tuple #[]) (by simp [results, Tryz.results55, go_sem]) rfl ⟨rfl, HU1.out⟩
set_option maxRecDepth 100000 in
set_option maxHeartbeats 1600000 in
theorem bound5_calls (a1 : Option Addr) (n1 c1 : Nat) (so nn mm : Int) (a2 : Option Addr) (c2 : Nat) (w : World) : Calls Tryz.prog 20 #[.agg #[.int .i64 5, .slice a1 n1 c1, .int .i64 so, .int .i64 nn, .int .i64 mm, .slice a2 0 c2]] w fun e w' => e = .returned (.slice none 0 0) ∧ Upto [] w w' := by
  have HWA := Lib.hid (fun p u => walk5_calls a1 n1 c1 so nn mm a2 c2 p u)
  go_enter Tryz.func20, Tryz.ntmps20
  go_wp2_with fail
  refine (HWA.out _ _).mono ?_
  rintro e w1 ⟨rfl, hu1⟩
  have HU1 := Lib.hid ((((Upto.refl [] w).alloc _).alloc _).trans_ext hu1)
  have hb := hu1.at (new_at1 w (.cells #[.int .i64 5, .slice a1 n1 c1, .int .i64 so, .int .i64 nn, .int .i64 mm, .slice a2 0 c2] 30) (.cells #[.slice none 0 0] 22)) (by simp)
  have z0 := cell_of hb 0
  simp only [List.getElem?_toArray, List.getElem?_cons_zero] at z0
  clear hu1 hb
  go_wp2_with fail
  go_ret
  exact ⟨rfl, HU1.out⟩
end Go.Proofs.YtbnebkkpmcjmbaaGreatDoor


namespace Go.Proofs.YtbnebkkpmcjmbaaGreatDoor
open Go.RowKit Go.PL Go.Maps
def rpF (a b z : List UInt8) : List UInt8 := if z = a then b else z
/-- block g holds, from o on, the texts x and y; beside them what cs holds -/
structure NmB (w : World) (g o : Nat) (t : TypeId) (cs : Array Value) (x y : List UInt8) : Prop where
  st : ∃ cs', w.heap[g]? = some (.cells cs' t (0, 0)) ∧ cs'[o]? = some (sV x) ∧ cs'[o + 1]? = some (sV y) ∧ ∀ i, i ≠ o → i ≠ o + 1 → cs'[i]? = cs[i]?
theorem NmB.ext {w w' : World} {g o : Nat} {t : TypeId} {cs : Array Value} {x y : List UInt8} (h : NmB w g o t cs x y) (hu : Upto [] w w') : NmB w' g o t cs x y := by
  obtain ⟨cs', h1, h2⟩ := h.st
  exact ⟨cs', hu.at h1 (by simp), h2⟩
theorem NmB.upto {S : List Nat} {w w' : World} {g o : Nat} {t : TypeId} {cs : Array Value} {x y : List UInt8} (h : NmB w g o t cs x y) (hu : Upto S w w') (hs : g ∉ S) : NmB w' g o t cs x y := by
  obtain ⟨cs', h1, h2⟩ := h.st
  exact ⟨cs', hu.at h1 hs, h2⟩
theorem NmB.cells {w : World} {g o : Nat} {t : TypeId} {cs : Array Value} {x y : List UInt8} (h : NmB w g o t cs x y) : w.cell? ⟨g, o, none⟩ = some (sV x) ∧ w.cell? ⟨g, o + 1, none⟩ = some (sV y) ∧ w.frozen? ⟨g, o, none⟩ = false ∧ w.frozen? ⟨g, o + 1, none⟩ = false := by
  obtain ⟨cs', h1, h2, h3, -⟩ := h.st
  exact ⟨by rw [cell_of h1]; exact h2, by rw [cell_of h1]; exact h3, free_of h1 _, free_of h1 _⟩
theorem NmB.set0 {w : World} {g o : Nat} {t : TypeId} {cs : Array Value} {x y : List UInt8} (h : NmB w g o t cs x y) (z : List UInt8) : NmB (w.setCell ⟨g, o, none⟩ (sV z)) g o t cs z y := by
  obtain ⟨cs', h1, h2, h3, h4⟩ := h.st
  have hlt := (Array.getElem?_eq_some_iff.1 h2).1
  refine ⟨_, set_same h1 o (sV z), by rw [Array.getElem?_setIfInBounds_self_of_lt hlt], by rw [Array.getElem?_setIfInBounds_ne (by omega)]; exact h3, fun i i0 i1 => ?_⟩
  rw [Array.getElem?_setIfInBounds_ne (by omega)]
  exact h4 i i0 i1
theorem NmB.set1 {w : World} {g o : Nat} {t : TypeId} {cs : Array Value} {x y : List UInt8} (h : NmB w g o t cs x y) (z : List UInt8) : NmB (w.setCell ⟨g, o + 1, none⟩ (sV z)) g o t cs x z := by
  obtain ⟨cs', h1, h2, h3, h4⟩ := h.st
  have hlt := (Array.getElem?_eq_some_iff.1 h3).1
  refine ⟨_, set_same h1 (o + 1) (sV z), by rw [Array.getElem?_setIfInBounds_ne (by omega)]; exact h2, by rw [Array.getElem?_setIfInBounds_self_of_lt hlt], fun i i0 i1 => ?_⟩
  rw [Array.getElem?_setIfInBounds_ne (by omega)]
  exact h4 i i0 i1
set_option maxRecDepth 100000 in
set_option maxHeartbeats 3200000 in
theorem rename5_calls (g o c1 : Nat) (t : TypeId) (cs : Array Value) (x y a b : List UInt8) (so nn mm : Int) (a2 : Option Addr) (c2 : Nat) (w : World) (h : NmB w g o t cs x y) : Calls Tryz.prog 43 #[.agg #[.int .i64 5, .slice (some ⟨g, o, none⟩) 2 c1, .int .i64 so, .int .i64 nn, .int .i64 mm, .slice a2 0 c2], .string ⟨a.toArray⟩, .string ⟨b.toArray⟩] w fun e w' => e = .returned (.agg #[.int .i64 5, .slice (some ⟨g, o, none⟩) 2 c1, .int .i64 so, .int .i64 nn, .int .i64 mm, .slice a2 0 c2]) ∧ NmB w' g o t cs (rpF a b x) (rpF a b y) ∧ Upto [g] w w' := by
  have hgl : g < w.heap.size := by
    obtain ⟨cs', h1, -⟩ := h.st
    exact lt_of_heap h1
  obtain ⟨W, hW⟩ : ∃ W, W = (w.alloc (.cells #[.int .i64 5, .slice (some ⟨g, o, none⟩) 2 c1, .int .i64 so, .int .i64 nn, .int .i64 mm, .slice a2 0 c2] 30)).alloc (.cells #[.int .i64 0, .slice none 0 0, .int .i64 0, .int .i64 0, .int .i64 0, .slice none 0 0] 30) := ⟨_, rfl⟩
  have HU : Hid (Upto [] w W) := Lib.hid (by rw [hW]; exact ((Upto.refl [] w).alloc _).alloc _)
  have HB1 : Hid (W.heap[w.heap.size]? = some (.cells #[.int .i64 5, .slice (some ⟨g, o, none⟩) 2 c1, .int .i64 so, .int .i64 nn, .int .i64 mm, .slice a2 0 c2] 30 (0, 0))) := Lib.hid (by rw [hW]; exact alloc_old (new_at w _) _)
  have HB2 : Hid (W.heap[w.heap.size + 1]? = some (.cells #[.int .i64 0, .slice none 0 0, .int .i64 0, .int .i64 0, .int .i64 0, .slice none 0 0] 30 (0, 0))) := Lib.hid (by rw [hW]; exact new_at1 w _ _)
  have HBI := Lib.hid (fun u => binds5_calls (some ⟨g, o, none⟩) 2 c1 so nn mm a2 0 c2 u)
  have HUS := Lib.hid (fun u => uses5_calls (some ⟨g, o, none⟩) 2 c1 so nn mm a2 0 c2 u)
  have HN := Lib.hid (h.ext HU.out)
  have HGL := Lib.hid hgl
  obtain ⟨x0, x1, x2, x3, x4, x5⟩ := cells6 HB1.out
  clear h hgl
  go_enter Tryz.func43, Tryz.ntmps43
  go_wp2_with fail
  simp only [← hW]
  clear hW
  go_wp2_with fail
  refine (HBI.out _).mono ?_
  rintro e w1 ⟨rfl, hu1⟩
  have HU1 := Lib.hid hu1
  have HC1 := Lib.hid (hu1.at HB1.out (by simp))
  clear hu1 x0 x1 x2 x3 x4 x5
  obtain ⟨x0, x1, x2, x3, x4, x5⟩ := cells6 HC1.out
  go_wp2_with fail
  refine (HBI.out _).mono ?_
  rintro e w2 ⟨rfl, hu2⟩
  have HU2 := Lib.hid (HU1.out.trans_ext hu2)
  have HC2 := Lib.hid (HU2.out.at HB1.out (by simp))
  clear hu2 x0 x1 x2 x3 x4 x5
  obtain ⟨x0, x1, x2, x3, x4, x5⟩ := cells6 HC2.out
  go_wp2_with fail
  refine (HUS.out _).mono ?_
  rintro e w3 ⟨rfl, hu3⟩
  have HU3 := Lib.hid (HU2.out.trans_ext hu3)
  have HN3 := Lib.hid (HN.out.ext HU3.out)
  have HW3 := Lib.hid (lt_of_heap (HU3.out.at HB2.out (by simp)))
  clear hu3 x0 x1 x2 x3 x4 x5
  go_wp2_with fail
  go_loopw [80] (fun v wr => ∃ j : Nat, j ≤ 2 ∧ v = .int .i64 j ∧ Hid (NmB wr g o t cs (if 1 ≤ j then rpF a b x else x) (if 2 ≤ j then rpF a b y else y) ∧ Upto [g] w3 wr)) (fun v _ => 2 - (intOf v).toNat)
  case atStart => exact ⟨0, by omega, rfl, Lib.hid ⟨by simpa using HN3.out, Upto.refl _ _⟩⟩
  case round =>
    obtain ⟨j, hj, rfl, HI⟩ := hrel
    obtain rfl | rfl | rfl : j = 0 ∨ j = 1 ∨ j = 2 := by omega
    · replace HI : Hid (NmB wr g o t cs x y ∧ Upto [g] w3 wr) := Lib.hid (by simpa using HI.out)
      have hc := HI.out.1.cells
      by_cases hz : x = a
      · have hzz : (x == a) = true := by rw [hz]; exact beq_self_eq_true a
        have HR : Hid (rpF a b x = b) := Lib.hid (by unfold rpF; rw [if_pos hz])
        obtain ⟨q0, q1, f0, f1⟩ := hc
        have HI2 := Lib.hid (And.intro (HI.out.1.set0 b) (HI.out.2.setCell (p := ⟨g, o, none⟩) (Or.inl (by simp)) (sV b)))
        clear hz
        unfold sV at q0 q1
        go_wp2_with fail
        exact ⟨⟨1, by omega, rfl, Lib.hid (by simpa [HR.out, sV] using HI2.out)⟩, by simp [intOf]⟩
      · have hzz : (x == a) = false := by rw [beq_eq_false_iff_ne]; exact hz
        have HR : Hid (rpF a b x = x) := Lib.hid (by unfold rpF; rw [if_neg hz])
        obtain ⟨q0, q1, f0, f1⟩ := hc
        clear hz
        unfold sV at q0 q1
        go_wp2_with fail
        exact ⟨⟨1, by omega, rfl, Lib.hid (by simpa [HR.out] using HI.out)⟩, by simp [intOf]⟩
    · replace HI : Hid (NmB wr g o t cs (rpF a b x) y ∧ Upto [g] w3 wr) := Lib.hid (by simpa using HI.out)
      have hc := HI.out.1.cells
      by_cases hz : y = a
      · have hzz : (y == a) = true := by rw [hz]; exact beq_self_eq_true a
        have HR : Hid (rpF a b y = b) := Lib.hid (by unfold rpF; rw [if_pos hz])
        obtain ⟨q0, q1, f0, f1⟩ := hc
        have HI2 := Lib.hid (And.intro (HI.out.1.set1 b) (HI.out.2.setCell (p := ⟨g, o + 1, none⟩) (Or.inl (by simp)) (sV b)))
        clear hz
        unfold sV at q0 q1
        go_wp2_with fail
        exact ⟨⟨2, by omega, rfl, Lib.hid (by simpa [HR.out, sV] using HI2.out)⟩, by simp [intOf]⟩
      · have hzz : (y == a) = false := by rw [beq_eq_false_iff_ne]; exact hz
        have HR : Hid (rpF a b y = y) := Lib.hid (by unfold rpF; rw [if_neg hz])
        obtain ⟨q0, q1, f0, f1⟩ := hc
        clear hz
        unfold sV at q0 q1
        go_wp2_with fail
        exact ⟨⟨2, by omega, rfl, Lib.hid (by simpa [HR.out] using HI.out)⟩, by simp [intOf]⟩
    · replace HI : Hid (NmB wr g o t cs (rpF a b x) (rpF a b y) ∧ Upto [g] w3 wr) := Lib.hid (by simpa using HI.out)
      have HU9 := Lib.hid ((HU3.out.mono (by simp)).trans_same HI.out.2)
      have HG9 : Hid (w.heap.size ∉ [g] ∧ w.heap.size + 1 ∉ [g]) := Lib.hid ⟨by have := HGL.out; simp; omega, by have := HGL.out; simp; omega⟩
      have HC9 := Lib.hid (HU9.out.at HB1.out HG9.out.1)
      have HD9 := Lib.hid (HU9.out.at HB2.out HG9.out.2)
      obtain ⟨x0, x1, x2, x3, x4, x5⟩ := cells6 HC9.out
      go_wp2_with fail
      clear x0 x1 x2 x3 x4 x5
      rename World => w8
      go_loopw [96] (fun v wr => v = .int .i64 0 ∧ wr = w8) (fun _ _ => 0)
      case atStart => exact ⟨rfl, rfl⟩
      case round =>
        obtain ⟨rfl, rfl⟩ := hrel
        have x0 := cell_of HC9.out 0
        have x1 := cell_of HC9.out 1
        have x2 := cell_of HC9.out 2
        have x3 := cell_of HC9.out 3
        have x4 := cell_of HC9.out 4
        have x5 := cell_of HC9.out 5
        have y0 := cell_of HD9.out 0
        have y1 := cell_of HD9.out 1
        have y2 := cell_of HD9.out 2
        have y3 := cell_of HD9.out 3
        have y4 := cell_of HD9.out 4
        have y5 := cell_of HD9.out 5
        obtain ⟨f0, f1, f2, f3, f4, f5⟩ := frees6 HD9.out
        simp only [List.getElem?_toArray, List.getElem?_cons_zero, List.getElem?_cons_succ] at x0 x1 x2 x3 x4 x5 y0 y1 y2 y3 y4 y5
        go_wp2_with fail
        clear x0 x1 x2 x3 x4 x5 y0 y1 y2 y3 y4 y5 f0 f1 f2 f3 f4 f5
        have hst := nd_store HD9.out (.int .i64 5) (.slice (some ⟨g, o, none⟩) 2 c1) (.int .i64 so) (.int .i64 nn) (.int .i64 mm) (.slice a2 0 c2)
        have hself := nd_self wr (w.heap.size + 1) (.int .i64 5) (.slice (some ⟨g, o, none⟩) 2 c1) (.int .i64 so) (.int .i64 nn) (.int .i64 mm) (.slice a2 0 c2)
        have hup := nd_up ((HU.out.mono (by simp)).trans_same HU9.out) (B := w.heap.size + 1) (Or.inr (by omega)) (.int .i64 5) (.slice (some ⟨g, o, none⟩) 2 c1) (.int .i64 so) (.int .i64 nn) (.int .i64 mm) (.slice a2 0 c2)
        have hnm := HI.out.1.upto hself (by have := HGL.out; simp; omega)
        obtain ⟨q0, q1, q2, q3, q4, q5⟩ := cells6 hst
        exact bodyPost_ret (v := .agg #[.int .i64 5, .slice (some ⟨g, o, none⟩) 2 c1, .int .i64 so, .int .i64 nn, .int .i64 mm, .slice a2 0 c2]) (by simp [results, Tryz.results43, go_sem, q0, q1, q2, q3, q4, q5]) rfl ⟨rfl, hnm, hup⟩
end Go.Proofs.YtbnebkkpmcjmbaaGreatDoor


namespace Go.Proofs.YtbnebkkpmcjmbaaGreatDoor
open Go.RowKit Go.PL Go.Maps
theorem fresh_y : freshF [121] [[120], [121], [120], [121]] = [121, 50] := by kernel_rfl
theorem set_zero {w : World} {b : Nat} {cs : Array Value} {t : TypeId} {z : Nat × Nat} (h : w.heap[b]? = some (.cells cs t z)) (i : Nat) (v : Value) (hv : cs[i]? = some v) : w.setCell ⟨b, i, none⟩ v = w := by
  have hc : cs.setIfInBounds i v = cs := by
    apply Array.ext_getElem?
    intro j
    rw [Array.getElem?_setIfInBounds]
    split
    · rename_i hij
      subst hij
      rw [hv]
      split
      · rfl
      · rename_i hn
        exact absurd (Array.getElem?_eq_some_iff.1 hv).1 hn
    · rfl
  have hh : (w.setCell ⟨b, i, none⟩ v).heap = w.heap := by
    apply Array.ext_getElem?
    intro j
    simp only [World.setCell]
    rw [Array.getElem?_modify]
    split
    · rename_i hj
      subst hj
      rw [h]
      simp [hc]
    · rfl
  simp only [World.setCell] at hh ⊢
  rw [hh]
set_option maxRecDepth 100000 in
set_option maxHeartbeats 1600000 in
theorem freeT_calls (g o c2 : Nat) (t : TypeId) (cs : Array Value) (x y : List UInt8) (hxy : x ≠ y) (hc : 2 ≤ c2) (so nn mm : Int) (a3 : Option Addr) (c3 : Nat) (w : World) (h : NmB w g o t cs x y) : Calls Tryz.prog 19 #[.agg #[.int .i64 5, .slice (some ⟨g, o, none⟩) 2 c2, .int .i64 so, .int .i64 nn, .int .i64 mm, .slice a3 0 c3]] w fun e w' => ∃ vo, e = .returned vo ∧ TxI w [x, y] vo w' := by
  obtain ⟨cs', h6, h7, h8, -⟩ := h.st
  have hsl : SlP (w.alloc (.cells #[.int .i64 5, .slice (some ⟨g, o, none⟩) 2 c2, .int .i64 so, .int .i64 nn, .int .i64 mm, .slice a3 0 c3] 30)) (fun _ => True) (.slice (some ⟨g, o, none⟩) 2 c2) 2 ([x, y].map sV) := by
    have h6' := alloc_old h6 (.cells #[.int .i64 5, .slice (some ⟨g, o, none⟩) 2 c2, .int .i64 so, .int .i64 nn, .int .i64 mm, .slice a3 0 c3] 30)
    refine Or.inr ⟨g, o, c2, rfl, ⟨trivial, ⟨_, _, _, h6'⟩, hc⟩, fun j u hj => ?_⟩
    rw [cell_of h6']
    match j, hj with
    | 0, hj => simp at hj; rw [← hj]; exact h7
    | 1, hj => simp at hj; rw [← hj]; exact h8
    | j + 2, hj => simp at hj
  have HF := Lib.hid (free5_calls [x, y] (by simpa using hxy) (by simp) (fun _ => True) (some ⟨g, o, none⟩) c2 so nn mm a3 c3 _ hsl)
  have HU := Lib.hid ((Upto.refl [] w).alloc (.cells #[.int .i64 5, .slice (some ⟨g, o, none⟩) 2 c2, .int .i64 so, .int .i64 nn, .int .i64 mm, .slice a3 0 c3] 30))
  clear h h6 h7 h8 hsl
  go_enter Tryz.func19, Tryz.ntmps19
  go_wp2_with fail
  refine HF.out.mono ?_
  rintro e w1 ⟨vo, rfl, ht⟩
  have HT := Lib.hid (show TxI w [x, y] vo w1 from ⟨ht.row, fun g hg => Nat.le_trans HU.out.size (ht.own g hg), HU.out.trans_ext ht.up⟩)
  obtain ⟨va, vc, rfl, -⟩ := ownsRow_len ht.row
  clear ht
  go_wp2_with fail
  go_ret
  exact ⟨_, rfl, HT.out⟩
theorem TxI.apps {w wr wr' : World} {ls ys : List (List UInt8)} {l : Value} {n m : Nat} {b' : Option Addr} {c' : Nat} (h : TxI w ls l wr) (hn : ls.length = n) (hm : ys.length = m) (ho : wr'.ownsRow 0 9 1 (.slice b' (n + m) c') (n + m) (ls.map sV ++ ys.map sV)) (hu : Upto l.ownBlock.toList wr wr') (hw : ∀ g, (Value.slice b' (n + m) c').ownBlock = some g → l.ownBlock = some g ∨ wr.heap.size ≤ g) :
    TxI w (ls ++ ys) (.slice b' (n + m) c') wr' := by
  subst hn hm
  refine ⟨?_, fun g hg => (hw g hg).elim (h.own g) (fun h2 => Nat.le_trans h.up.size h2), h.up.trans hu (fun k hk => Or.inr (h.own k (Option.mem_toList.1 hk)))⟩
  rw [List.map_append, List.length_append]
  exact ho
/-- the quantifier's node: its name, its one operand, the operand's names, in three blocks -/
structure QnB (w : World) (g1 o1 gl ol g o : Nat) (c2 c3 : Nat) (so nn mm : Int) (a3 : Option Addr) (x0 x y : List UInt8) : Prop where
  n1 : ∃ cs t, w.heap[g1]? = some (.cells cs t (0, 0)) ∧ cs[o1]? = some (sV x0)
  l : ∃ cs t, w.heap[gl]? = some (.cells cs t (0, 0)) ∧ cs[ol]? = some (.int .i64 5) ∧ cs[ol + 1]? = some (.slice (some ⟨g, o, none⟩) 2 c2) ∧ cs[ol + 2]? = some (.int .i64 so) ∧ cs[ol + 3]? = some (.int .i64 nn) ∧ cs[ol + 4]? = some (.int .i64 mm) ∧ cs[ol + 5]? = some (.slice a3 0 c3)
  nm : ∃ t cs, NmB w g o t cs x y
  cap : 2 ≤ c2
theorem QnB.ext {w w' : World} {g1 o1 gl ol g o : Nat} {c2 c3 : Nat} {so nn mm : Int} {a3 : Option Addr} {x0 x y : List UInt8} (h : QnB w g1 o1 gl ol g o c2 c3 so nn mm a3 x0 x y) (hu : Upto [] w w') : QnB w' g1 o1 gl ol g o c2 c3 so nn mm a3 x0 x y := by
  obtain ⟨cs, t, h1, h2⟩ := h.n1
  obtain ⟨ds, u, h3, h4⟩ := h.l
  obtain ⟨t2, cs2, h5⟩ := h.nm
  exact ⟨⟨cs, t, hu.at h1 (by simp), h2⟩, ⟨ds, u, hu.at h3 (by simp), h4⟩, ⟨t2, cs2, h5.ext hu⟩, h.cap⟩
theorem QnB.cells {w : World} {g1 o1 gl ol g o : Nat} {c2 c3 : Nat} {so nn mm : Int} {a3 : Option Addr} {x0 x y : List UInt8} (h : QnB w g1 o1 gl ol g o c2 c3 so nn mm a3 x0 x y) : w.cell? ⟨g1, o1, none⟩ = some (sV x0) ∧ w.frozen? ⟨g1, o1, none⟩ = false ∧ w.cell? ⟨gl, ol, none⟩ = some (.int .i64 5) ∧ w.cell? ⟨gl, ol + 1, none⟩ = some (.slice (some ⟨g, o, none⟩) 2 c2) ∧ w.cell? ⟨gl, ol + 2, none⟩ = some (.int .i64 so) ∧ w.cell? ⟨gl, ol + 3, none⟩ = some (.int .i64 nn) ∧ w.cell? ⟨gl, ol + 4, none⟩ = some (.int .i64 mm) ∧ w.cell? ⟨gl, ol + 5, none⟩ = some (.slice a3 0 c3) := by
  obtain ⟨cs, t, h1, h2⟩ := h.n1
  obtain ⟨ds, u, h3, k0, k1, k2, k3, k4, k5⟩ := h.l
  exact ⟨by rw [cell_of h1]; exact h2, free_of h1 _, by rw [cell_of h3]; exact k0, by rw [cell_of h3]; exact k1, by rw [cell_of h3]; exact k2, by rw [cell_of h3]; exact k3, by rw [cell_of h3]; exact k4, by rw [cell_of h3]; exact k5⟩
theorem QnB.frozen {w : World} {g1 o1 gl ol g o : Nat} {c2 c3 : Nat} {so nn mm : Int} {a3 : Option Addr} {x0 x y : List UInt8} (h : QnB w g1 o1 gl ol g o c2 c3 so nn mm a3 x0 x y) (i : Nat) : w.frozen? ⟨gl, i, none⟩ = false := by
  obtain ⟨ds, u, h3, -⟩ := h.l
  exact free_of h3 _
theorem QnB.same {w : World} {g1 o1 gl ol g o : Nat} {c2 c3 : Nat} {so nn mm : Int} {a3 : Option Addr} {x0 x y : List UInt8} (h : QnB w g1 o1 gl ol g o c2 c3 so nn mm a3 x0 x y) : (((((w.setCell ⟨gl, ol, none⟩ (.int .i64 5)).setCell ⟨gl, ol + 1, none⟩ (.slice (some ⟨g, o, none⟩) 2 c2)).setCell ⟨gl, ol + 2, none⟩ (.int .i64 so)).setCell ⟨gl, ol + 3, none⟩ (.int .i64 nn)).setCell ⟨gl, ol + 4, none⟩ (.int .i64 mm)).setCell ⟨gl, ol + 5, none⟩ (.slice a3 0 c3) = w := by
  obtain ⟨ds, u, h3, k0, k1, k2, k3, k4, k5⟩ := h.l
  rw [set_zero h3 _ _ k0, set_zero h3 _ _ k1, set_zero h3 _ _ k2, set_zero h3 _ _ k3, set_zero h3 _ _ k4, set_zero h3 _ _ k5]
theorem QnB.setn {w : World} {g1 o1 gl ol g o : Nat} {c2 c3 : Nat} {so nn mm : Int} {a3 : Option Addr} {x0 x y : List UInt8} (h : QnB w g1 o1 gl ol g o c2 c3 so nn mm a3 x0 x y) (hd : g1 ≠ gl ∧ g1 ≠ g ∧ gl ≠ g) (z : List UInt8) : QnB (w.setCell ⟨g1, o1, none⟩ (sV z)) g1 o1 gl ol g o c2 c3 so nn mm a3 z x y := by
  obtain ⟨cs, t, h1, h2⟩ := h.n1
  obtain ⟨ds, u, h3, h4⟩ := h.l
  obtain ⟨t2, cs2, h5⟩ := h.nm
  have hlt := (Array.getElem?_eq_some_iff.1 h2).1
  have hup : Upto [g1] w (w.setCell ⟨g1, o1, none⟩ (sV z)) := (Upto.refl [g1] w).setCell (p := ⟨g1, o1, none⟩) (Or.inl (by simp)) _
  exact ⟨⟨_, t, set_same h1 o1 (sV z), by rw [Array.getElem?_setIfInBounds_self_of_lt hlt]⟩, ⟨ds, u, hup.at h3 (by simp; omega), h4⟩, ⟨t2, cs2, h5.upto hup (by simp; omega)⟩, h.cap⟩
theorem QnB.away {w w' : World} {S : List Nat} {g1 o1 gl ol g o : Nat} {c2 c3 : Nat} {so nn mm : Int} {a3 : Option Addr} {x0 x y : List UInt8} (h : QnB w g1 o1 gl ol g o c2 c3 so nn mm a3 x0 x y) (hu : Upto S w w') (hs : g1 ∉ S ∧ gl ∉ S ∧ g ∉ S) : QnB w' g1 o1 gl ol g o c2 c3 so nn mm a3 x0 x y := by
  obtain ⟨cs, t, h1, h2⟩ := h.n1
  obtain ⟨ds, u, h3, h4⟩ := h.l
  obtain ⟨t2, cs2, h5⟩ := h.nm
  exact ⟨⟨cs, t, hu.at h1 hs.1, h2⟩, ⟨ds, u, hu.at h3 hs.2.1, h4⟩, ⟨t2, cs2, h5.upto hu hs.2.2⟩, h.cap⟩
theorem QnB.leaf {w w' : World} {g1 o1 gl ol g o : Nat} {c2 c3 : Nat} {so nn mm : Int} {a3 : Option Addr} {x0 x y x' y' : List UInt8} (h : QnB w g1 o1 gl ol g o c2 c3 so nn mm a3 x0 x y) (hd : g1 ≠ gl ∧ g1 ≠ g ∧ gl ≠ g) (hu : Upto [g] w w') {t : TypeId} {cs : Array Value} (hn : NmB w' g o t cs x' y') : QnB w' g1 o1 gl ol g o c2 c3 so nn mm a3 x0 x' y' := by
  obtain ⟨cs1, t1, h1, h2⟩ := h.n1
  obtain ⟨ds, u, h3, h4⟩ := h.l
  exact ⟨⟨cs1, t1, hu.at h1 (by simp; omega), h2⟩, ⟨ds, u, hu.at h3 (by simp; omega), h4⟩, ⟨t, cs, hn⟩, h.cap⟩
set_option maxRecDepth 100000 in
set_option maxHeartbeats 6400000 in
theorem rename16_calls (g1 o1 c1 gl ol cl g o c2 c3 : Nat) (so nn mm : Int) (a3 : Option Addr) (w : World) (he : Env w) (hd : g1 ≠ gl ∧ g1 ≠ g ∧ gl ≠ g) (h : QnB w g1 o1 gl ol g o c2 c3 so nn mm a3 [121] [120] [121]) : Calls Tryz.prog 43 #[.agg #[.int .i64 16, .slice (some ⟨g1, o1, none⟩) 1 c1, .int .i64 0, .int .i64 0, .int .i64 0, .slice (some ⟨gl, ol, none⟩) 1 cl], .string ⟨[120].toArray⟩, .string ⟨[121].toArray⟩] w fun e w' => e = .returned (.agg #[.int .i64 16, .slice (some ⟨g1, o1, none⟩) 1 c1, .int .i64 0, .int .i64 0, .int .i64 0, .slice (some ⟨gl, ol, none⟩) 1 cl]) ∧ QnB w' g1 o1 gl ol g o c2 c3 so nn mm a3 [121, 50] [121] [121, 50] ∧ Upto [g1, gl, g] w w' := by
  have hlt : g1 < w.heap.size ∧ gl < w.heap.size ∧ g < w.heap.size := by
    obtain ⟨cs, t, h1, h2⟩ := h.n1
    obtain ⟨ds, u, h3, h4⟩ := h.l
    obtain ⟨t2, cs2, h5⟩ := h.nm
    obtain ⟨cs', h6, -⟩ := h5.st
    exact ⟨lt_of_heap h1, lt_of_heap h3, lt_of_heap h6⟩
  obtain ⟨W, hW⟩ : ∃ W, W = (w.alloc (.cells #[.int .i64 16, .slice (some ⟨g1, o1, none⟩) 1 c1, .int .i64 0, .int .i64 0, .int .i64 0, .slice (some ⟨gl, ol, none⟩) 1 cl] 30)).alloc (.cells #[.int .i64 0, .slice none 0 0, .int .i64 0, .int .i64 0, .int .i64 0, .slice none 0 0] 30) := ⟨_, rfl⟩
  have HU : Hid (Upto [] w W) := Lib.hid (by rw [hW]; exact ((Upto.refl [] w).alloc _).alloc _)
  have HB1 : Hid (W.heap[w.heap.size]? = some (.cells #[.int .i64 16, .slice (some ⟨g1, o1, none⟩) 1 c1, .int .i64 0, .int .i64 0, .int .i64 0, .slice (some ⟨gl, ol, none⟩) 1 cl] 30 (0, 0))) := Lib.hid (by rw [hW]; exact alloc_old (new_at w _) _)
  have HB2 : Hid (W.heap[w.heap.size + 1]? = some (.cells #[.int .i64 0, .slice none 0 0, .int .i64 0, .int .i64 0, .int .i64 0, .slice none 0 0] 30 (0, 0))) := Lib.hid (by rw [hW]; exact new_at1 w _ _)
  have HBI := Lib.hid (fun u => binds16_calls (some ⟨g1, o1, none⟩) 1 c1 0 0 0 (some ⟨gl, ol, none⟩) 1 cl (by omega) u)
  have HUS := Lib.hid (fun u => uses16_calls (some ⟨g1, o1, none⟩) 1 c1 0 0 0 (some ⟨gl, ol, none⟩) 1 cl u)
  have HFR : Hid (∀ (u : World), QnB u g1 o1 gl ol g o c2 c3 so nn mm a3 [121] [120] [121] → Calls Tryz.prog 19 #[.agg #[.int .i64 5, .slice (some ⟨g, o, none⟩) 2 c2, .int .i64 so, .int .i64 nn, .int .i64 mm, .slice a3 0 c3]] u fun e w' => ∃ vo, e = .returned vo ∧ TxI u [[120], [121]] vo w') := Lib.hid (fun u hn => by
    obtain ⟨t2, cs2, h5⟩ := hn.nm
    exact freeT_calls g o c2 t2 cs2 [120] [121] (by decide) hn.cap so nn mm a3 c3 u h5)
  have HBO := Lib.hid (fun u => bound5_calls (some ⟨g, o, none⟩) 2 c2 so nn mm a3 c3 u)
  obtain ⟨i0, hi0, hz0, hz1, hz2⟩ := info9'
  have HI0 := Lib.hid hi0
  have HZ0 := Lib.hid hz0
  have HZ1 := Lib.hid hz1
  have HZ2 := Lib.hid hz2
  have HQ := Lib.hid (h.ext HU.out)
  have HLT := Lib.hid hlt
  have HD := Lib.hid hd
  have HE := Lib.hid he
  obtain ⟨x0, x1, x2, x3, x4, x5⟩ := cells6 HB1.out
  clear h hlt hd he hi0 hz0 hz1 hz2
  go_enter Tryz.func43, Tryz.ntmps43
  go_wp2_with fail
  simp only [← hW]
  clear hW
  go_wp2_with fail
  refine (HBI.out _).mono ?_
  rintro e w1 ⟨rfl, hu1⟩
  have HU1 := Lib.hid hu1
  have HC1 := Lib.hid (hu1.at HB1.out (by simp))
  have HQ1 := Lib.hid (HQ.out.ext hu1)
  clear hu1 x0 x1 x2 x3 x4 x5
  obtain ⟨x0, x1, x2, x3, x4, x5⟩ := cells6 HC1.out
  obtain ⟨n0, nf, l0, l1, l2, l3, l4, l5⟩ := HQ1.out.cells
  unfold sV at n0
  go_wp2_with fail
  refine (HBI.out _).mono ?_
  rintro e w2 ⟨rfl, hu2⟩
  have HU2 := Lib.hid (HU1.out.trans_ext hu2)
  have HC2 := Lib.hid (HU2.out.at HB1.out (by simp))
  have HQ2 := Lib.hid (HQ1.out.ext hu2)
  clear hu2 x0 x1 x2 x3 x4 x5 n0 nf l0 l1 l2 l3 l4 l5
  obtain ⟨x0, x1, x2, x3, x4, x5⟩ := cells6 HC2.out
  obtain ⟨n0, nf, l0, l1, l2, l3, l4, l5⟩ := HQ2.out.cells
  unfold sV at n0
  go_wp2_with fail
  refine (HFR.out _ HQ2.out).mono ?_
  rintro e w3 ⟨vo, rfl, ht⟩
  have HU3 := Lib.hid (HU2.out.trans_ext ht.up)
  have HC3 := Lib.hid (ht.up.at HC2.out (by simp))
  have HQ3 := Lib.hid (HQ2.out.ext ht.up)
  have HCO := Lib.hid (containsS_calls [[120], [121]] [120] vo w3 _ ht.slp (by simp))
  obtain ⟨va, vc, rfl, -⟩ := ownsRow_len ht.row
  clear ht x0 x1 x2 x3 x4 x5 n0 nf l0 l1 l2 l3 l4 l5
  go_wp2_with fail
  refine HCO.out.mono ?_
  rintro e w4 ⟨rfl, rfl⟩
  rw [show ([[120], [121]] : List (List UInt8)).contains [120] = true from rfl]
  go_wp2_with fail
  have e5 : ∀ u : Ext w4, u.w.cell? ⟨w.heap.size, 5, none⟩ = some (.slice (some ⟨gl, ol, none⟩) 1 cl) := fun u => u.cell (cell_of HC3.out 5)
  obtain ⟨-, -, l0, l1, l2, l3, l4, l5⟩ := HQ3.out.cells
  have k0 : ∀ u : Ext w4, u.w.cell? ⟨gl, ol, none⟩ = some (.int .i64 5) := fun u => u.cell l0
  have k1 : ∀ u : Ext w4, u.w.cell? ⟨gl, ol + 1, none⟩ = some (.slice (some ⟨g, o, none⟩) 2 c2) := fun u => u.cell l1
  have k2 : ∀ u : Ext w4, u.w.cell? ⟨gl, ol + 2, none⟩ = some (.int .i64 so) := fun u => u.cell l2
  have k3 : ∀ u : Ext w4, u.w.cell? ⟨gl, ol + 3, none⟩ = some (.int .i64 nn) := fun u => u.cell l3
  have k4 : ∀ u : Ext w4, u.w.cell? ⟨gl, ol + 4, none⟩ = some (.int .i64 mm) := fun u => u.cell l4
  have k5 : ∀ u : Ext w4, u.w.cell? ⟨gl, ol + 5, none⟩ = some (.slice a3 0 c3) := fun u => u.cell l5
  clear l0 l1 l2 l3 l4 l5
  refine wp_region_seg_at [4, 9] [] [0, 1, 2, 3, 4, 5, 6, 7, 8, 9] [10, 11] 10 (by kernel_rfl) (by kernel_rfl) (by kernel_rfl) ?_
  iterate 4 (refine seg_plain rfl rfl rfl rfl rfl ?_; intro K' hK'; go_big_quiet_op; go_big_quiet_on)
  refine seg_callO (Y := Option Addr × Nat) (fun tt => .slice tt.1 2 tt.2) (fun tt u => TxI w4 [[120], [121]] (.slice tt.1 2 tt.2) u) (fun _ => []) rfl rfl rfl rfl (fun _ _ _ h hu => h.ext hu) (fun _ => List.nodup_nil) (fun w => by go_simp) (fun w hu hd => (HFR.out w (HQ3.out.ext hu)).mono fun e w' ⟨vo, h1, h2⟩ => by
    obtain ⟨va, vc, rfl, -⟩ := ownsRow_len h2.row
    exact ⟨(va, vc), h1, h2.up, ⟨h2.row, fun g hg => Nat.le_trans hu.size (h2.own g hg), hu.trans_ext h2.up⟩, fun b hb => by cases hb⟩) ?_
  rintro ⟨fa, fc⟩
  simp only [Act.put, List.setIfInBounds_toArray, List.set_cons_zero, List.set_cons_succ]
  iterate 4 (refine seg_plain rfl rfl rfl rfl rfl ?_; intro K' hK'; go_big_quiet_op; go_big_quiet_on)
  refine seg_call rfl rfl rfl rfl (fun w => by go_simp) (fun w hu hd => HBO.out w) ?_
  simp only [Act.put, List.setIfInBounds_toArray, List.set_cons_zero, List.set_cons_succ]
  intro w10 hg
  have HU10 := Lib.hid hg.up
  have HT10 : Hid (TxI w4 [[120], [121]] (.slice fa 2 fc) w10) := Lib.hid hg.hold.1
  simp only [List.drop_succ_cons, List.drop_zero]
  have hrow := HT10.out.row
  clear hg e5 k0 k1 k2 k3 k4 k5
  go_wp2_with (at_builtin; first
    | (refine wpList_apps _ rfl (.tmp 48) (.tmp 53) 22 rfl 9 i0 (.string ⟨#[]⟩) 16 Tryz.underlying22 HI0.out HZ0.out HZ1.out HZ2.out rfl (.slice fa 2 fc) 2 _ rfl hrow (.slice none 0 0) [] rfl (Or.inl ⟨rfl, none, 0, rfl⟩) (by simp) (by simp [maxLen]) (by simp) ?_; intro vb vd w11 ho hu hw; have HM := Lib.hid (HT10.out.apps (ys := []) rfl rfl ho hu hw); clear hrow ho hu hw; have HT11 : Hid (TxI w4 [[120], [121]] (.slice vb 2 vd) (w11.alloc (.cells #[.string ⟨#[120]⟩, .string ⟨#[121]⟩] 9))) := Lib.hid (HM.out.ext ((Upto.refl [] _).alloc _)); have hrow2 := HT11.out.row; have hsrc2 := cells_at (l := [sV [120], sV [121]]) (new_at w11 (.cells #[.string ⟨#[120]⟩, .string ⟨#[121]⟩] 9)))
    | (refine wpList_app _ rfl (.tmp 56) (.tmp 59) 22 rfl 9 i0 (.string ⟨#[]⟩) 1 16 Tryz.underlying22 HI0.out HZ0.out HZ1.out HZ2.out rfl (by decide) (.slice vb 2 vd) 2 _ rfl hrow2 ⟨w11.heap.size, 0, none⟩ 2 2 [sV [120], sV [121]] rfl rfl hsrc2 (by simp [Value.oneCell', sV]) (by simp [maxLen]) (by simp) ?_; intro vb2 vd2 w12 ho hu hw; have HN := Lib.hid (HT11.out.apps (ys := [[120], [121]]) rfl rfl ho hu hw); clear hrow2 hsrc2 ho hu hw))
  have HFP := Lib.hid (freshP_calls [121] [[120], [121], [120], [121]] (.slice vb2 4 vd2) w12 _ HN.out.slp (by simp) (by simp) (HE.out.ext (HU.out.trans_ext (HU3.out.trans_ext HN.out.up))))
  refine HFP.out.mono ?_
  rintro e w13 ⟨rfl, hu13⟩
  rw [fresh_y]
  have HU4 := Lib.hid (HN.out.up.trans_ext hu13)
  have HQ13 := Lib.hid (HQ3.out.ext HU4.out)
  have HC13 := Lib.hid (HU4.out.at HC3.out (by simp))
  have HU13 := Lib.hid (HU.out.trans_ext (HU3.out.trans_ext HU4.out))
  clear hu13 HFP HM HT11 HN HT10 HU10 HCO
  obtain ⟨n0, nf, -⟩ := HQ13.out.cells
  unfold sV at n0
  obtain ⟨x0, x1, x2, x3, x4, x5⟩ := cells6 HC13.out
  go_wp2_with fail
  obtain ⟨W14, hW14⟩ : ∃ W14, W14 = w13.setCell ⟨g1, o1, none⟩ (.string ⟨#[121, 50]⟩) := ⟨_, rfl⟩
  have HS14 : Hid (Upto [g1] w13 W14) := Lib.hid (by rw [hW14]; exact (Upto.refl [g1] w13).setCell (p := ⟨g1, o1, none⟩) (Or.inl (by simp)) _)
  have HQ14 : Hid (QnB W14 g1 o1 gl ol g o c2 c3 so nn mm a3 [121, 50] [120] [121]) := Lib.hid (by rw [hW14]; exact HQ13.out.setn HD.out [121, 50])
  have HC14 := Lib.hid (HS14.out.at HC13.out (by have := HLT.out.1; simp; omega))
  have HZ14 := Lib.hid (HS14.out.at (HU4.out.at (HU3.out.at HB2.out (by simp)) (by simp)) (by have := HLT.out.1; simp; omega))
  have HU14 : Hid (Upto [g1, gl, g] w W14) := Lib.hid ((HU13.out.mono (by simp)).trans_same (HS14.out.mono (by simp)))
  simp only [← hW14]
  clear hW14 x0 x1 x2 x3 x4 x5 n0 nf
  have x5 := cell_of HC14.out 5
  simp only [List.getElem?_toArray, List.getElem?_cons_zero, List.getElem?_cons_succ] at x5
  obtain ⟨-, -, l0, l1, l2, l3, l4, l5⟩ := HQ14.out.cells
  obtain ⟨t15, cs15, hn15⟩ := HQ14.out.nm
  have HRN := Lib.hid (rename5_calls g o c2 t15 cs15 [120] [121] [121] [121, 50] so nn mm a3 c3 W14.drew (hn15.ext (Upto.refl [] W14).drew))
  have HP : Hid (Upto [] W14 W14.drew) := Lib.hid (Upto.refl [] W14).drew
  have HR1 : Hid (rpF [121] [121, 50] [120] = [120] ∧ rpF [121] [121, 50] [121] = [121, 50]) := Lib.hid ⟨by decide, by decide⟩
  clear hn15
  go_region_with (refine HRN.out.mono ?_
                  rintro e w16 ⟨rfl, hn16, hu16⟩
                  rw [HR1.out.1, HR1.out.2] at hn16
                  have HQ16 := Lib.hid ((HQ14.out.ext HP.out).leaf HD.out hu16 hn16)
                  have HU16 := Lib.hid ((HU14.out.trans_ext HP.out).trans_same (hu16.mono (by simp)))
                  have HC16 := Lib.hid (hu16.at (HP.out.at HC14.out (by simp)) (by have := HLT.out.2.2; simp; omega))
                  have HZ16 := Lib.hid (hu16.at (HP.out.at HZ14.out (by simp)) (by have := HLT.out.2.2; simp; omega))
                  have z5 := cell_of HC16.out 5
                  simp only [List.getElem?_toArray, List.getElem?_cons_zero, List.getElem?_cons_succ] at z5
                  clear hn16 hu16
                  obtain ⟨-, -, m0, m1, m2, m3, m4, m5⟩ := HQ16.out.cells
                  have f0 := HQ16.out.frozen ol
                  have f1 := HQ16.out.frozen (ol + 1)
                  have f2 := HQ16.out.frozen (ol + 2)
                  have f3 := HQ16.out.frozen (ol + 3)
                  have f4 := HQ16.out.frozen (ol + 4)
                  have f5 := HQ16.out.frozen (ol + 5))
  all_goals
    simp only [HQ16.out.same]
    clear x5 l0 l1 l2 l3 l4 l5 z5 m0 m1 m2 m3 m4 m5 f0 f1 f2 f3 f4 f5
    obtain ⟨x0, x1, x2, x3, x4, x5⟩ := cells6 HC16.out
    go_wp2_with fail
    refine (HUS.out _).mono ?_
    rintro e w17 ⟨rfl, hu17⟩
    have HC17 := Lib.hid (hu17.at HC16.out (by simp))
    have HQ17 := Lib.hid (HQ16.out.ext hu17)
    have HZ17 := Lib.hid (hu17.at HZ16.out (by simp))
    have HU17 := Lib.hid (HU16.out.trans_ext hu17)
    clear hu17 x0 x1 x2 x3 x4 x5
    have x5 := cell_of HC17.out 5
    simp only [List.getElem?_toArray, List.getElem?_cons_zero, List.getElem?_cons_succ] at x5
    go_wp2_with fail
    go_loopw [80] (fun v wr => v = .int .i64 0 ∧ wr = w17) (fun _ _ => 0)
    case atStart => exact ⟨rfl, rfl⟩
    case round =>
      obtain ⟨rfl, rfl⟩ := hrel
      go_wp2_with fail
      go_loopw [96] (fun v wr => ∃ j : Nat, j ≤ 1 ∧ v = .int .i64 j ∧ Hid (QnB wr g1 o1 gl ol g o c2 c3 so nn mm a3 [121, 50] (if j = 0 then [120] else [121]) [121, 50] ∧ wr.heap[w.heap.size]? = some (.cells #[.int .i64 16, .slice (some ⟨g1, o1, none⟩) 1 c1, .int .i64 0, .int .i64 0, .int .i64 0, .slice (some ⟨gl, ol, none⟩) 1 cl] 30 (0, 0)) ∧ wr.heap[w.heap.size + 1]? = some (.cells #[.int .i64 0, .slice none 0 0, .int .i64 0, .int .i64 0, .int .i64 0, .slice none 0 0] 30 (0, 0)) ∧ Upto [g1, gl, g] w wr)) (fun v _ => 1 - (intOf v).toNat)
      case atStart => exact ⟨0, by omega, rfl, Lib.hid ⟨HQ17.out, HC17.out, HZ17.out, HU17.out⟩⟩
      case round =>
        obtain ⟨j, hj, rfl, HJ⟩ := hrel
        obtain rfl | rfl : j = 0 ∨ j = 1 := by omega
        · replace HJ : Hid (QnB wr g1 o1 gl ol g o c2 c3 so nn mm a3 [121, 50] [120] [121, 50] ∧ wr.heap[w.heap.size]? = some (.cells #[.int .i64 16, .slice (some ⟨g1, o1, none⟩) 1 c1, .int .i64 0, .int .i64 0, .int .i64 0, .slice (some ⟨gl, ol, none⟩) 1 cl] 30 (0, 0)) ∧ wr.heap[w.heap.size + 1]? = some (.cells #[.int .i64 0, .slice none 0 0, .int .i64 0, .int .i64 0, .int .i64 0, .slice none 0 0] 30 (0, 0)) ∧ Upto [g1, gl, g] w wr) := Lib.hid (by simpa using HJ.out)
          obtain ⟨x0, x1, x2, x3, x4, x5⟩ := cells6 HJ.out.2.1
          obtain ⟨-, -, l0, l1, l2, l3, l4, l5⟩ := HJ.out.1.cells
          go_wp2_with fail
          obtain ⟨W18, hW18⟩ : ∃ W18, W18 = wr.alloc (.cells #[.int .i64 5, .slice (some ⟨g, o, none⟩) 2 c2, .int .i64 so, .int .i64 nn, .int .i64 mm, .slice a3 0 c3] 30) := ⟨_, rfl⟩
          have HA18 : Hid (Upto [] wr W18) := Lib.hid (by rw [hW18]; exact (Upto.refl [] wr).alloc _)
          have HL18 : Hid (W18.heap[wr.heap.size]? = some (.cells #[.int .i64 5, .slice (some ⟨g, o, none⟩) 2 c2, .int .i64 so, .int .i64 nn, .int .i64 mm, .slice a3 0 c3] 30 (0, 0))) := Lib.hid (by rw [hW18]; exact new_at wr _)
          simp only [← hW18]
          have HP2 : Hid (Upto [] wr W18.drew) := Lib.hid HA18.out.drew
          have HC18 := Lib.hid (HA18.out.at HJ.out.2.1 (by simp))
          clear hW18 x0 x1 x2 x3 x4 x5 l0 l1 l2 l3 l4 l5
          have x5 := cell_of HC18.out 5
          simp only [List.getElem?_toArray, List.getElem?_cons_zero, List.getElem?_cons_succ] at x5
          obtain ⟨y0, y1, y2, y3, y4, y5⟩ := cells6 HL18.out
          obtain ⟨t19, cs19, hn19⟩ := HJ.out.1.nm
          have HRM := Lib.hid (rename5_calls g o c2 t19 cs19 [120] [121, 50] [120] [121] so nn mm a3 c3 W18.drew (hn19.ext HP2.out))
          have HR2 : Hid (rpF [120] [121] [120] = [121] ∧ rpF [120] [121] [121, 50] = [121, 50]) := Lib.hid ⟨by decide, by decide⟩
          clear hn19
          go_region_with (refine HRM.out.mono ?_
                          rintro e w20 ⟨rfl, hn20, hu20⟩
                          rw [HR2.out.1, HR2.out.2] at hn20
                          have HJ20 := Lib.hid (And.intro ((HJ.out.1.ext HP2.out).leaf HD.out hu20 hn20) (And.intro (hu20.at (HP2.out.at HJ.out.2.1 (by simp)) (by have := HLT.out.2.2; simp; omega)) (And.intro (hu20.at (HP2.out.at HJ.out.2.2.1 (by simp)) (by have := HLT.out.2.2; simp; omega)) ((HJ.out.2.2.2.trans_ext HP2.out).trans_same (hu20.mono (by simp))))))
                          have z5 := cell_of HJ20.out.2.1 5
                          simp only [List.getElem?_toArray, List.getElem?_cons_zero, List.getElem?_cons_succ] at z5
                          clear hn20 hu20
                          obtain ⟨-, -, m0, m1, m2, m3, m4, m5⟩ := HJ20.out.1.cells
                          have f0 := HJ20.out.1.frozen ol
                          have f1 := HJ20.out.1.frozen (ol + 1)
                          have f2 := HJ20.out.1.frozen (ol + 2)
                          have f3 := HJ20.out.1.frozen (ol + 3)
                          have f4 := HJ20.out.1.frozen (ol + 4)
                          have f5 := HJ20.out.1.frozen (ol + 5))
          all_goals
            simp only [HJ20.out.1.same]
            clear x5 y0 y1 y2 y3 y4 y5 z5 m0 m1 m2 m3 m4 m5 f0 f1 f2 f3 f4 f5
            go_wp2_with fail
            exact ⟨⟨1, by omega, rfl, Lib.hid (by simpa using HJ20.out)⟩, by simp [intOf]⟩
        · replace HJ : Hid (QnB wr g1 o1 gl ol g o c2 c3 so nn mm a3 [121, 50] [121] [121, 50] ∧ wr.heap[w.heap.size]? = some (.cells #[.int .i64 16, .slice (some ⟨g1, o1, none⟩) 1 c1, .int .i64 0, .int .i64 0, .int .i64 0, .slice (some ⟨gl, ol, none⟩) 1 cl] 30 (0, 0)) ∧ wr.heap[w.heap.size + 1]? = some (.cells #[.int .i64 0, .slice none 0 0, .int .i64 0, .int .i64 0, .int .i64 0, .slice none 0 0] 30 (0, 0)) ∧ Upto [g1, gl, g] w wr) := Lib.hid (by simpa using HJ.out)
          obtain ⟨x0, x1, x2, x3, x4, x5⟩ := cells6 HJ.out.2.1
          obtain ⟨y0, y1, y2, y3, y4, y5⟩ := cells6 HJ.out.2.2.1
          obtain ⟨f0, f1, f2, f3, f4, f5⟩ := frees6 HJ.out.2.2.1
          go_wp2_with fail
          clear x0 x1 x2 x3 x4 x5 y0 y1 y2 y3 y4 y5 f0 f1 f2 f3 f4 f5
          have hst := nd_store HJ.out.2.2.1 (.int .i64 16) (.slice (some ⟨g1, o1, none⟩) 1 c1) (.int .i64 0) (.int .i64 0) (.int .i64 0) (.slice (some ⟨gl, ol, none⟩) 1 cl)
          have hself := nd_self wr (w.heap.size + 1) (.int .i64 16) (.slice (some ⟨g1, o1, none⟩) 1 c1) (.int .i64 0) (.int .i64 0) (.int .i64 0) (.slice (some ⟨gl, ol, none⟩) 1 cl)
          have hup := nd_up HJ.out.2.2.2 (B := w.heap.size + 1) (Or.inr (by omega)) (.int .i64 16) (.slice (some ⟨g1, o1, none⟩) 1 c1) (.int .i64 0) (.int .i64 0) (.int .i64 0) (.slice (some ⟨gl, ol, none⟩) 1 cl)
          have hqn := HJ.out.1.away hself (by have := HLT.out; simp; omega)
          obtain ⟨q0, q1, q2, q3, q4, q5⟩ := cells6 hst
          exact bodyPost_ret (v := .agg #[.int .i64 16, .slice (some ⟨g1, o1, none⟩) 1 c1, .int .i64 0, .int .i64 0, .int .i64 0, .slice (some ⟨gl, ol, none⟩) 1 cl]) (by simp [results, Tryz.results43, go_sem, q0, q1, q2, q3, q4, q5]) rfl ⟨rfl, hqn, hup⟩
end Go.Proofs.YtbnebkkpmcjmbaaGreatDoor


namespace Go.Proofs.YtbnebkkpmcjmbaaGreatDoor
open Go.RowKit Go.PL Go.Maps
mutual
/-- all names of all nodes -/
def nmsF : Nd → Nat
  | .mk _ nms _ _ _ l => nms.length + nmssF l
def nmssF : List Nd → Nat
  | [] => 0
  | x :: xs => nmsF x + nmssF xs
end
theorem fold_len : ∀ (l out : List (List UInt8)), (l.foldl plusF out).length ≤ out.length + l.length
  | [], out => by simp
  | x :: xs, out => by
    rw [List.foldl_cons]
    have := fold_len xs (plusF out x)
    have h2 : (plusF out x).length ≤ out.length + 1 := by
      unfold plusF
      split <;> simp
    simp only [List.length_cons]
    omega
theorem uses_len (op : Int) (nms : List (List UInt8)) : (usesF op nms).length ≤ nms.length := by
  unfold usesF
  split
  · simp
  · split <;> simp
theorem take_app1 {α : Type} (l : List α) (i : Nat) (x : α) (h : l[i]? = some x) : l.take (i + 1) = l.take i ++ [x] := by
  obtain ⟨hi, rfl⟩ := List.getElem?_eq_some_iff.1 h
  exact List.take_succ_eq_append_getElem hi
theorem nmss_app (a b : List Nd) : nmssF (a ++ b) = nmssF a + nmssF b := by
  induction a with
  | nil => simp [nmssF]
  | cons x xs ih => simp only [List.cons_append, nmssF, ih]; omega
theorem nmss_take (l : List Nd) (i : Nat) (x : Nd) (h : l[i]? = some x) : nmssF (l.take i) + nmsF x ≤ nmssF l := by
  have e := take_app1 l i x h
  have h1 : nmssF (l.take (i + 1)) + nmssF (l.drop (i + 1)) = nmssF l := by rw [← nmss_app, List.take_append_drop]
  rw [e, nmss_app] at h1
  simp only [nmssF] at h1
  omega
theorem nmss_take_le (l : List Nd) (i : Nat) : nmssF (l.take i) ≤ nmssF l := by
  have h1 : nmssF (l.take i) + nmssF (l.drop i) = nmssF l := by rw [← nmss_app, List.take_append_drop]
  omega
/-- a list that is under way: new since w0 -/
structure RowW (w0 : World) (ls : List (List UInt8)) (v : Value) (wr : World) : Prop where
  slp : SlP wr (New w0) v ls.length (ls.map sV)
  up : Upto [] w0 wr
theorem RowW.ext {w0 wr wr' : World} {ls : List (List UInt8)} {v : Value} (h : RowW w0 ls v wr) (hu : Upto [] wr wr') : RowW w0 ls v wr' := ⟨h.slp.ext hu, h.up.trans_ext hu⟩
theorem RowW.nil (w0 wr : World) (hu : Upto [] w0 wr) : RowW w0 [] (.slice none 0 0) wr := ⟨SlP.nil, hu⟩
theorem RowW.of {w0 wr w' : World} {_P : Nat → Prop} {ls ls' : List (List UInt8)} {v v' : Value} (h : RowW w0 ls v wr) (h2 : SlP w' (fun b => New w0 b ∨ New wr b) v' ls'.length (ls'.map sV)) (hu : Upto [] wr w') : RowW w0 ls' v' w' :=
  ⟨h2.mono (fun _b hb _ => hb.elim id (fun h3 => Nat.le_trans h.up.size h3)), h.up.trans_ext hu⟩
/-- the j-th text of a list -/
theorem slp_cell {w : World} {P : Nat → Prop} {a : Option Addr} {n c m : Nat} {ls : List (List UInt8)} (h : SlP w P (.slice a n c) m (ls.map sV)) (hm : ls.length = m) (j : Nat) (y : List UInt8) (hj : ls[j]? = some y) : ∃ g o, a = some ⟨g, o, none⟩ ∧ ∀ u, Upto [] w u → u.cell? ⟨g, o + j, none⟩ = some (.string ⟨y.toArray⟩) := by
  have hl := (List.getElem?_eq_some_iff.1 hj).1
  rcases h with ⟨h0, -⟩ | ⟨g, o, c', e, -, hc⟩
  · omega
  · simp only [Value.slice.injEq] at e
    refine ⟨g, o, e.1, fun u hu => ?_⟩
    have h1 := hc j (sV y) (by rw [List.getElem?_map, hj]; rfl)
    rw [(hu.cell (World.block_lt_of_cell? w _ h1) (by simp)).trans h1]
    rfl
end Go.Proofs.YtbnebkkpmcjmbaaGreatDoor


namespace Go.Proofs.YtbnebkkpmcjmbaaGreatDoor
open Go.PL
def rnUses (op : Int) (f : List UInt8 → List UInt8) (nms : List (List UInt8)) : List (List UInt8) :=
  if op = 10 then nms.take 1 ++ (nms.drop 1).map f else if 2 ≤ op ∧ op < 10 then nms.map f else nms
/-- all free occurrences -/
def fo (n : Nd) : List (List UInt8) := occ n (fun _ => false)
def fos (l : List Nd) : List (List UInt8) := occs l (fun _ => false)
theorem fo_mk (op so nn mm : Int) (nms : List (List UInt8)) (l : List Nd) : fo (.mk op nms so nn mm l) = usesF op nms ++ if bindsF op nms.length = true then (fos l).filter (fun y => y != nms.headD []) else fos l := by
  unfold fo occ
  congr 1
  · exact List.filter_eq_self.2 (by simp)
  · split
    · unfold fos
      rw [← occs_bind]
    · rfl
theorem fos_cons (x : Nd) (xs : List Nd) : fos (x :: xs) = fo x ++ fos xs := by
  unfold fos fo
  rw [occs]
theorem free_fo (n : Nd) : freeR n = (fo n).foldl plusF [] := freeR_eq n
theorem mem_free (n : Nd) (y : List UInt8) : y ∈ freeR n ↔ y ∈ fo n := by
  rw [free_fo, folds_mem]
  simp
mutual
/-- a binder has one name and one operand -/
def oneN : Nd → Prop
  | .mk op nms _ _ _ l => (bindsF op nms.length = true → nms.length = 1 ∧ l.length = 1) ∧ onesN l
def onesN : List Nd → Prop
  | [] => True
  | x :: xs => oneN x ∧ onesN xs
end
theorem rnUses_len (op : Int) (f : List UInt8 → List UInt8) (nms : List (List UInt8)) : (rnUses op f nms).length = nms.length := by
  unfold rnUses
  split
  · simp; omega
  · split <;> simp
theorem depths_mem : ∀ {l : List Nd} {x : Nd}, x ∈ l → depthF x ≤ depthsF l
  | y :: ys, x, hx => by
    unfold depthsF
    rcases List.mem_cons.1 hx with rfl | hx
    · omega
    · have := depths_mem hx; omega
end Go.Proofs.YtbnebkkpmcjmbaaGreatDoor


namespace Go.Proofs.YtbnebkkpmcjmbaaGreatDoor
open Go.PL
/-- what a name stands for: the last binding counts (it stands first) -/
def lookE (e : List (List UInt8 × List UInt8)) (y : List UInt8) : List UInt8 := match e.find? (fun p => p.1 == y) with | some p => p.2 | none => y
mutual
/-- e: the bindings so far; tk: the names that are taken -/
def apN : Nd → List (List UInt8 × List UInt8) → List (List UInt8) → Nd × List (List UInt8)
  | .mk op nms so nn mm l, e, tk =>
    if bindsF op nms.length = true then
      (.mk op [freshG (nms.headD []) tk] so nn mm (apL l ((nms.headD [], freshG (nms.headD []) tk) :: e) (tk ++ [freshG (nms.headD []) tk])).1, (apL l ((nms.headD [], freshG (nms.headD []) tk) :: e) (tk ++ [freshG (nms.headD []) tk])).2)
    else (.mk op (rnUses op (lookE e) nms) so nn mm (apL l e tk).1, (apL l e tk).2)
def apL : List Nd → List (List UInt8 × List UInt8) → List (List UInt8) → List Nd × List (List UInt8)
  | [], _, tk => ([], tk)
  | x :: xs, e, tk => ((apN x e tk).1 :: (apL xs e (apN x e tk).2).1, (apL xs e (apN x e tk).2).2)
end
/-- two lists of taken names that hold the same names -/
def SameTk (a b : List (List UInt8)) : Prop := ∀ y, y ∈ a ↔ y ∈ b
theorem SameTk.has {a b : List (List UInt8)} (h : SameTk a b) (y : List UInt8) : a.contains y = b.contains y := by
  rw [Bool.eq_iff_iff, List.contains_iff_mem, List.contains_iff_mem]
  exact h y
theorem SameTk.add {a b : List (List UInt8)} (h : SameTk a b) (s : List UInt8) : SameTk (a ++ [s]) (b ++ [s]) := fun y => by
  rw [List.mem_append, List.mem_append, h y]
end Go.Proofs.YtbnebkkpmcjmbaaGreatDoor


namespace Go.Proofs.YtbnebkkpmcjmbaaGreatDoor
open Go.RowKit Go.PL Go.Maps
/-- a list of names in a block of its own from lo on, below m -/
def NmT (w : World) (nms : List (List UInt8)) (vn : Value) (lo m : Nat) : Prop :=
  (nms = [] ∧ ∃ a c, vn = .slice a 0 c) ∨ ∃ g o c cs t, vn = .slice (some ⟨g, o, none⟩) nms.length c ∧ nms.length ≤ c ∧ lo ≤ g ∧ g < m ∧ w.heap[g]? = some (.cells cs t (0, 0)) ∧ ∀ j x, nms[j]? = some x → cs[o + j]? = some (sV x)
mutual
/-- v is the formula; its blocks lie from lo on, below hi: the names' ahead of all others, each operand's behind the elder one's -/
def OwT (w : World) : Nd → Value → Nat → Nat → Prop
  | .mk op nms so nn mm l, v, lo, hi => ∃ vn vl m, v = .agg #[.int .i64 op, vn, .int .i64 so, .int .i64 nn, .int .i64 mm, vl] ∧ lo ≤ m ∧ m ≤ hi ∧ NmT w nms vn lo m ∧
      ((l = [] ∧ ∃ a c, vl = .slice a 0 c) ∨ ∃ g o c cs t, vl = .slice (some ⟨g, o, none⟩) l.length c ∧ w.heap[g]? = some (.cells cs t (0, 0)) ∧ m ≤ g ∧ g < hi ∧ OwTs w l cs o g m hi)
def OwTs (w : World) : List Nd → Array Value → Nat → Nat → Nat → Nat → Prop
  | [], _, _, _, _, _ => True
  | x :: xs, cs, o, g, lo, hi => ∃ v0 v1 v2 v3 v4 v5 k m, cs[o]? = some v0 ∧ cs[o + 1]? = some v1 ∧ cs[o + 2]? = some v2 ∧ cs[o + 3]? = some v3 ∧ cs[o + 4]? = some v4 ∧ cs[o + 5]? = some v5 ∧ lo ≤ k ∧ k ≤ m ∧ m ≤ hi ∧ (g < k ∨ m ≤ g) ∧ OwT w x (.agg #[v0, v1, v2, v3, v4, v5]) k m ∧ OwTs w xs cs (o + 6) g m hi
end
/-- the blocks from lo on, below hi, are as they were -/
def SameIn (w w' : World) (lo hi : Nat) : Prop := ∀ b, lo ≤ b → b < hi → w'.heap[b]? = w.heap[b]?
theorem SameIn.mono {w w' : World} {lo hi lo' hi' : Nat} (h : SameIn w w' lo hi) (h1 : lo ≤ lo') (h2 : hi' ≤ hi) : SameIn w w' lo' hi' := fun b hb hb2 => h b (by omega) (by omega)
theorem SameIn.upto {S : List Nat} {w w' : World} {lo hi : Nat} (hu : Upto S w w') (hh : hi ≤ w.heap.size) (hs : ∀ b ∈ S, b < lo ∨ hi ≤ b) : SameIn w w' lo hi := fun b hb hb2 => hu.block b (by omega) (fun hm => by have := hs b hm; omega)
theorem NmT.same {w w' : World} {nms : List (List UInt8)} {vn : Value} {lo m : Nat} (h : NmT w nms vn lo m) (hs : SameIn w w' lo m) : NmT w' nms vn lo m := by
  rcases h with h | ⟨g, o, c, cs, t, e, h1, h2, h3, h4, h5⟩
  · exact Or.inl h
  · exact Or.inr ⟨g, o, c, cs, t, e, h1, h2, h3, (hs g h2 h3).trans h4, h5⟩
mutual
theorem OwT.same {w w' : World} : ∀ (n : Nd) (v : Value) (lo hi : Nat), OwT w n v lo hi → SameIn w w' lo hi → OwT w' n v lo hi
  | .mk op nms so nn mm l, v, lo, hi, h, hs => by
    unfold OwT at h ⊢
    obtain ⟨vn, vl, m, e, h1, h2, h3, h4⟩ := h
    refine ⟨vn, vl, m, e, h1, h2, h3.same (hs.mono (Nat.le_refl _) h2), ?_⟩
    rcases h4 with h4 | ⟨g, o, c, cs, t, e2, h5, h6, h7, h8⟩
    · exact Or.inl h4
    · exact Or.inr ⟨g, o, c, cs, t, e2, (hs g (by omega) h7).trans h5, h6, h7, OwTs.same l cs o g m hi h8 (hs.mono h1 (Nat.le_refl _))⟩
theorem OwTs.same {w w' : World} : ∀ (l : List Nd) (cs : Array Value) (o g lo hi : Nat), OwTs w l cs o g lo hi → SameIn w w' lo hi → OwTs w' l cs o g lo hi
  | [], _, _, _, _, _, _, _ => by unfold OwTs; trivial
  | x :: xs, cs, o, g, lo, hi, h, hs => by
    unfold OwTs at h ⊢
    obtain ⟨v0, v1, v2, v3, v4, v5, k, m, c0, c1, c2, c3, c4, c5, h1, h2, h3, h4, h5, h6⟩ := h
    exact ⟨v0, v1, v2, v3, v4, v5, k, m, c0, c1, c2, c3, c4, c5, h1, h2, h3, h4, OwT.same x _ k m h5 (hs.mono h1 h3), OwTs.same xs cs (o + 6) g m hi h6 (hs.mono (by omega) (Nat.le_refl _))⟩
end
mutual
/-- such a formula is one in memory -/
theorem OwT.ndv {w : World} : ∀ (n : Nd) (v : Value) (lo hi : Nat), OwT w n v lo hi → NdV w (fun b => lo ≤ b ∧ b < hi) n v
  | .mk op nms so nn mm l, v, lo, hi, h => by
    unfold OwT at h
    unfold NdV
    obtain ⟨vn, vl, m, e, h1, h2, h3, h4⟩ := h
    refine ⟨vn, vl, e, ?_, ?_⟩
    · rcases h3 with ⟨rfl, a, c, rfl⟩ | ⟨g, o, c, cs, t, rfl, k1, k2, k3, k4, k5⟩
      · exact Or.inl ⟨rfl, rfl, a, c, rfl⟩
      · refine Or.inr ⟨g, o, c, rfl, ⟨⟨k2, by omega⟩, ⟨_, _, _, k4⟩, k1⟩, fun j u hj => ?_⟩
        rw [cell_of k4]
        rw [List.getElem?_map] at hj
        cases hx : nms[j]? with
        | none => rw [hx] at hj; cases hj
        | some x =>
          rw [hx] at hj
          cases hj
          exact k5 j x hx
    · rcases h4 with h4 | ⟨g, o, c, cs, t, e2, h5, h6, h7, h8⟩
      · exact Or.inl h4
      · exact Or.inr ⟨g, o, c, e2, ⟨⟨by omega, h7⟩, _, _, _, h5⟩, OwTs.ndv l cs o g m hi lo h1 t h5 h8⟩
theorem OwTs.ndv {w : World} : ∀ (l : List Nd) (cs : Array Value) (o g lo hi lo0 : Nat), lo0 ≤ lo → ∀ t, w.heap[g]? = some (.cells cs t (0, 0)) → OwTs w l cs o g lo hi → NdsV w (fun b => lo0 ≤ b ∧ b < hi) g o l
  | [], _, _, _, _, _, _, _, _, _, _ => by unfold NdsV; trivial
  | x :: xs, cs, o, g, lo, hi, lo0, h0, t, hg, h => by
    unfold OwTs at h
    unfold NdsV
    obtain ⟨v0, v1, v2, v3, v4, v5, k, m, c0, c1, c2, c3, c4, c5, h1, h2, h3, h4, h5, h6⟩ := h
    exact ⟨⟨v0, v1, v2, v3, v4, v5, by rw [cell_of hg]; exact c0, by rw [cell_of hg]; exact c1, by rw [cell_of hg]; exact c2, by rw [cell_of hg]; exact c3, by rw [cell_of hg]; exact c4, by rw [cell_of hg]; exact c5, (OwT.ndv x _ k m h5).mono (fun b hb _ => ⟨by omega, by omega⟩)⟩, OwTs.ndv xs cs (o + 6) g m hi lo0 (by omega) t hg h6⟩
end
end Go.Proofs.YtbnebkkpmcjmbaaGreatDoor


namespace Go.Proofs.YtbnebkkpmcjmbaaGreatDoor
open Go.RowKit Go.PL Go.Maps
set_option maxRecDepth 100000 in
set_option maxHeartbeats 3200000 in
theorem sclone2_calls (xs : List Value) (a : Option Addr) (n c : Nat) (w : World) (P : Nat → Prop) (hn : xs.length = n) (hN : n ≤ 10000000) (hx : ∀ u ∈ xs, u.oneCell' = true) (h : SlP w P (.slice a n c) n xs) : Calls Tryz.prog 73 #[.slice a n c] w fun e w' => ∃ a' c', e = .returned (.slice a' n c') ∧ w'.ownsRow 0 9 1 (.slice a' n c') n xs ∧ (∀ g, (Value.slice a' n c').ownBlock = some g → w.heap.size ≤ g) ∧ Upto [] w w' := by
  have q22 : ∀ (w : World) (a : Option Addr) (n c n' c' : Nat), (binOp .eql 22 (.slice a n c) (.slice none n' c')).run Tryz.prog w = .ok (.bool a.isNone) w := fun w a n c n' c' => Lib.run_eql_slice_nil w _ _ a n c n' c' Tryz.underlying22
  cases a with
  | none =>
    have hn0 : n = 0 := by
      rcases h with ⟨h0, -⟩ | ⟨g, o, c, h0, -⟩
      · exact h0
      · cases h0
    subst hn0
    have hx0 : xs = [] := List.eq_nil_of_length_eq_zero hn
    subst hx0
    clear h hx
    go_enter Tryz.func73, Tryz.ntmps73
    go_wp2
    go_ret
    exact ⟨none, 0, rfl, World.ownsRow_nil _ 0 9 1, fun g hg => by simp [Value.ownBlock] at hg, Upto.refl _ _⟩
  | some ad =>
    obtain ⟨i0, hi, hz0, hz1, hz2⟩ := info9'
    have A : Aside (∀ j u, xs[j]? = some u → w.cell? (ad.add j) = some u) := by
      intro j u hj
      rcases h with ⟨-, h0, -⟩ | ⟨g, o, c, h0, -, hc⟩
      · subst h0; cases hj
      · simp only [Value.slice.injEq, Option.some.injEq] at h0
        obtain ⟨h0, -, -⟩ := h0
        subst h0
        rw [Addr.add_lit]
        exact hc j u hj
    have HX := Lib.hid hx
    have HN := Lib.hid hn
    clear h hx hn
    go_enter Tryz.func73, Tryz.ntmps73
    go_wp2_with (at_builtin; refine wpList_append_own _ rfl _ _ 22 rfl w.heap.size 9 i0 (.string { data := #[] }) 1 16 Tryz.underlying22 hi hz0 hz1 hz2 rfl (by decide) _ _ _ rfl (World.ownsRow_made w #[] 0 (Nat.le_refl _) (Nat.zero_le _) rfl) ad n c xs rfl ?qc1 ?qc2 ?qc3 ?qc4 ?qc5 ?qc6 ?_)
    case qc1 => have := HN.out; omega
    case qc2 =>
      intro j u hj
      exact Lib.cell?_alloc_some _ (A.out j u hj)
    case qc3 => exact HX.out
    case qc4 => unfold maxLen; omega
    case qc5 => omega
    case qc6 => simp
    intro v' w1 hown hgrow _
    obtain ⟨a', c', rfl, -⟩ := ownsRow_len hown
    have hup : Upto [] w w1 := ((Upto.refl [] w).alloc _).grown hgrow (by intro k hk; simp [Value.ownBlock] at hk; omega)
    have hown2 : w1.ownsRow w.heap.size 9 1 (.slice a' n c') n xs := by simpa using hown
    have hnu : ∀ g, (Value.slice a' n c').ownBlock = some g → w.heap.size ≤ g := fun g hg => by
      rcases hown2.2 with ⟨e, -⟩ | ⟨g', cap, cur, e, hge, hh, -⟩
      · rw [e] at hg; cases hg
      · rw [e] at hg
        simp [Value.ownBlock] at hg
        subst hg
        exact hge
    have hsl : w1.ownsRow 0 9 1 (.slice a' n c') n xs ∧ (∀ g, (Value.slice a' n c').ownBlock = some g → w.heap.size ≤ g) := ⟨⟨hown2.1, hown2.2.imp id (fun ⟨g, cap, cur, h1, h2, h3⟩ => ⟨g, cap, cur, h1, Nat.zero_le _, h3⟩)⟩, hnu⟩
    clear hown hgrow
    have HF := Lib.hid (And.intro hsl hup)
    clear hsl hup
    go_wp2
    go_ret
    exact ⟨a', c', by simp, HF.out.1.1, HF.out.1.2, HF.out.2⟩
theorem usesP_app (bs : List (List UInt8)) (x : List UInt8) : ∀ (l out : List (List UInt8)), usesP bs (l ++ [x]) out = if bs.contains x = false ∧ (usesP bs l out).contains x = false then usesP bs l out ++ [x] else usesP bs l out
  | [], out => by simp [usesP]
  | y :: ys, out => by
    rw [List.cons_append]
    show usesP bs (ys ++ [x]) _ = _
    rw [usesP_app bs x ys]
    rfl
theorem usesP_len (bs l out : List (List UInt8)) : (usesP bs l out).length ≤ out.length + l.length := by
  rw [usesP_eq]
  have := fold_len (l.filter (fun y => !bs.contains y)) out
  have h2 := List.length_filter_le (fun y => !bs.contains y) l
  omega
mutual
theorem freeP_len : ∀ (n : Nd) (bs out : List (List UInt8)), (freeP n bs out).length ≤ out.length + nmsF n
  | .mk op nms _ _ _ l, bs, out => by
    unfold freeP nmsF
    have h1 := freesP_len l (if bindsF op nms.length = true then bs ++ [nms.headD []] else bs) (usesP bs (usesF op nms) out)
    have h2 := usesP_len bs (usesF op nms) out
    have h3 := uses_len op nms
    omega
theorem freesP_len : ∀ (l : List Nd) (bs out : List (List UInt8)), (freesP l bs out).length ≤ out.length + nmssF l
  | [], bs, out => by unfold freesP; omega
  | x :: xs, bs, out => by
    unfold freesP nmssF
    have h1 := freesP_len xs bs (freeP x bs out)
    have h2 := freeP_len x bs out
    omega
end
theorem freesP_app (x : Nd) : ∀ (l : List Nd) (bs out : List (List UInt8)), freesP (l ++ [x]) bs out = freeP x bs (freesP l bs out)
  | [], bs, out => by simp [freesP]
  | y :: ys, bs, out => by
    rw [List.cons_append]
    unfold freesP
    exact freesP_app x ys bs _
/-- a list that grows in a block of its own, or in new ones -/
structure OwR (w0 : World) (vo : Value) (ls : List (List UInt8)) (v : Value) (wr : World) : Prop where
  row : wr.ownsRow 0 9 1 v ls.length (ls.map sV)
  up : Upto vo.ownBlock.toList w0 wr
  wh : ∀ g, v.ownBlock = some g → vo.ownBlock = some g ∨ w0.heap.size ≤ g
theorem OwR.start {w0 wr : World} {vo : Value} {ls : List (List UInt8)} (h : w0.ownsRow 0 9 1 vo ls.length (ls.map sV)) (hu : Upto [] w0 wr) : OwR w0 vo ls vo wr := ⟨ownsRow_upto h hu (by simp), hu.mono (by simp), fun _ hg => Or.inl hg⟩
theorem OwR.ext {w0 wr wr' : World} {vo v : Value} {ls : List (List UInt8)} (h : OwR w0 vo ls v wr) (hu : Upto [] wr wr') : OwR w0 vo ls v wr' := ⟨ownsRow_upto h.row hu (by simp), h.up.trans_ext hu, h.wh⟩
theorem OwR.slp {w0 wr : World} {vo v : Value} {ls : List (List UInt8)} (h : OwR w0 vo ls v wr) : SlP wr (fun _ => True) v ls.length (ls.map sV) := SlP.of_row h.row (fun _ _ => trivial)
theorem OwR.on {w0 wr wr' : World} {vo v v' : Value} {ls ls' : List (List UInt8)} (h : OwR w0 vo ls v wr) (hr : wr'.ownsRow 0 9 1 v' ls'.length (ls'.map sV)) (hu : Upto v.ownBlock.toList wr wr') (hw : ∀ g, v'.ownBlock = some g → v.ownBlock = some g ∨ wr.heap.size ≤ g) : OwR w0 vo ls' v' wr' :=
  ⟨hr, h.up.trans hu (fun k hk => (h.wh k (Option.mem_toList.1 hk)).imp (fun h2 => Option.mem_toList.2 h2) id), fun g hg => (hw g hg).elim (h.wh g) (fun h2 => Or.inr (Nat.le_trans h.up.size h2))⟩
theorem OwR.app {w0 wr wr' : World} {vo v : Value} {ls : List (List UInt8)} {x : List UInt8} {n : Nat} {b' : Option Addr} {c' : Nat} (h : OwR w0 vo ls v wr) (hn : ls.length = n) (ho : wr'.ownsRow 0 9 1 (.slice b' (n + 1) c') (n + 1) (ls.map sV ++ [sV x])) (hu : Upto v.ownBlock.toList wr wr') (hw : ∀ g, (Value.slice b' (n + 1) c').ownBlock = some g → v.ownBlock = some g ∨ wr.heap.size ≤ g) : OwR w0 vo (ls ++ [x]) (.slice b' (n + 1) c') wr' := by
  subst hn
  refine h.on ?_ hu hw
  rw [List.map_append]
  simpa using ho
theorem OwR.rebase {w0 w2 wr : World} {vo v : Value} {ls : List (List UInt8)} (h : OwR w2 vo ls v wr) (hu : Upto [] w0 w2) : OwR w0 vo ls v wr := ⟨h.row, (hu.mono (by simp)).trans_same h.up, fun g hg => (h.wh g hg).imp id (fun h2 => Nat.le_trans hu.size h2)⟩
/-- behind a call of free -/
def FoPost (vo : Value) (ls : List (List UInt8)) (w : World) (e : Ending) (w' : World) : Prop := ∃ v, e = .returned v ∧ OwR w vo ls v w'
theorem own_lt {w : World} {vo : Value} {n : Nat} {xs : List Value} (h : w.ownsRow 0 9 1 vo n xs) : ∀ g ∈ vo.ownBlock.toList, g < w.heap.size := fun g hg => by
  obtain ⟨cur, hh⟩ := ownsRow_block h (Option.mem_toList.1 hg)
  exact lt_of_heap hh
/-- the operands of a node, later -/
theorem ls_later {S : List Nat} {w u : World} {P : Nat → Prop} {op so nn mm : Int} {nms : List (List UInt8)} {l : List Nd} {a1 a2 : Option Addr} {c1 c2 : Nat} (h : NdV w P (.mk op nms so nn mm l) (.agg #[.int .i64 op, .slice a1 nms.length c1, .int .i64 so, .int .i64 nn, .int .i64 mm, .slice a2 l.length c2])) (hu : Upto S w u) (hp : ∀ b, P b → IsC w b → b ∉ S) : LsAt u P a2 l := by
  obtain ⟨a3, c3, a4, c4, e, -, hg⟩ := (h.upto hu hp).open
  simp only [Value.agg.injEq, Array.mk.injEq, List.cons.injEq, Value.slice.injEq, and_true, true_and] at e
  obtain ⟨-, rfl, -⟩ := e
  exact hg
set_option maxRecDepth 100000 in
set_option maxHeartbeats 12800000 in
theorem free_calls : ∀ (k : Nat) (nd : Nd), sizeF nd ≤ k → k ≤ 100000 → goodN nd → ∀ (v : Value) (w : World) (P : Nat → Prop), NdV w P nd v → ∀ (Q : Nat → Prop) (bs : List (List UInt8)) (vb : Value), SlP w Q vb bs.length (bs.map sV) → ∀ (ls : List (List UInt8)) (vo : Value), w.ownsRow 0 9 1 vo ls.length (ls.map sV) → (∀ b, P b → b < w.heap.size ∧ b ∉ vo.ownBlock.toList) → (∀ b, Q b → b < w.heap.size ∧ b ∉ vo.ownBlock.toList) → bs.length + sizeF nd ≤ 200000 → ls.length + nmsF nd ≤ 200000 → Calls Tryz.prog 54 #[v, vb, vo] w (FoPost vo (freeP nd bs ls) w)
  | 0, nd, hk, _, _, _, _, _, _, _, _, _, _, _, _, _, _, _, _, _ => by have := sizeF_pos nd; omega
  | k + 1, .mk op nms so nn mm l, hk, hk7, hgd, v, w, P, h, Q, bs, vb, hb, ls, vo, ho, hP, hQ, hbl, hnm => by
    obtain ⟨a1, c1, a2, c2, rfl, hs, hg⟩ := h.open
    obtain ⟨ba, bc, rfl⟩ := hb.len
    obtain ⟨oa, oc, rfl, -⟩ := ownsRow_len ho
    unfold goodN at hgd
    have HGD := Lib.hid hgd
    have hsz : sizesF l ≤ k := by simp only [sizeF] at hk; omega
    have HSZ := Lib.hid hsz
    unfold nmsF at hnm
    have HNM := Lib.hid hnm
    have HBL : Hid (bs.length + 1 + sizesF l ≤ 200000) := Lib.hid (by simp only [sizeF] at hbl; omega)
    have HE : Hid (freeP (.mk op nms so nn mm l) bs ls = freesP l (if bindsF op nms.length = true then bs ++ [nms.headD []] else bs) (usesP bs (usesF op nms) ls)) := Lib.hid (by simp only [freeP])
    have HLEN : Hid (l.length ≤ 100000) := Lib.hid (by have := sizes_len l; omega)
    have hlen := HLEN.out
    have HBI := Lib.hid (fun u => binds_calls op a1 nms.length c1 so nn mm a2 l.length c2 u)
    have HUS := Lib.hid (fun u (hu : Upto [] w u) => uses_calls P op nms a1 c1 so nn mm a2 l.length c2 u (fun h => hgd.1 (Or.inl h)) (hs.ext hu) (by omega))
    have HIH := Lib.hid (fun (x : Nd) (hx : x ∈ l) (hs : sizeF x ≤ k) => free_calls k x hs (by omega) (goodsN_mem HGD.out.2 x hx))
    generalize hobE : (Value.slice oa ls.length oc).ownBlock.toList = ob at *
    have HOB := Lib.hid hobE
    have HLT : Hid (∀ g ∈ ob, g < w.heap.size) := Lib.hid (by rw [← hobE]; exact own_lt ho)
    obtain ⟨W, hW⟩ : ∃ W, W = w.alloc (.cells #[.int .i64 op, .slice a1 nms.length c1, .int .i64 so, .int .i64 nn, .int .i64 mm, .slice a2 l.length c2] 30) := ⟨_, rfl⟩
    have HU1 : Hid (Upto [] w W) := Lib.hid (by rw [hW]; exact (Upto.refl [] w).alloc _)
    have HB1 : Hid (W.heap[w.heap.size]? = some (.cells #[.int .i64 op, .slice a1 nms.length c1, .int .i64 so, .int .i64 nn, .int .i64 mm, .slice a2 l.length c2] 30 (0, 0))) := Lib.hid (by rw [hW]; exact new_at w _)
    have HPN : Hid (∀ u, Upto ob w u → LsAt u P a2 l) := Lib.hid (fun u hu => ls_later h hu (fun b hb _ => (hP b hb).2))
    have HPU : Hid (∀ u, Upto ob w u → ∀ (x : Nd) (y : Value), NdV w P x y → NdV u P x y) := Lib.hid (fun u hu x y hx => hx.upto hu (fun b hb _ => (hP b hb).2))
    have HSN : Hid (∀ u, Upto ob w u → SlP u P (.slice a1 nms.length c1) nms.length (nms.map sV)) := Lib.hid (fun u hu => hs.upto hu (fun b hb _ => (hP b hb).2))
    have HSB : Hid (∀ u, Upto ob w u → SlP u Q (.slice ba bs.length bc) bs.length (bs.map sV)) := Lib.hid (fun u hu => hb.upto hu (fun b hb _ => (hQ b hb).2))
    have HP2 := Lib.hid hP
    have HQ2 := Lib.hid hQ
    have HO := Lib.hid ho
    have HUL : Hid ((usesF op nms).length ≤ nms.length) := Lib.hid (uses_len op nms)
    have HNL : Hid (bindsF op nms.length = true → 0 < nms.length) := Lib.hid (fun hb => by unfold bindsF at hb; simp at hb; omega)
    have HND : Hid (0 < nms.length → nms[0]? = some (nms.headD [])) := Lib.hid (fun h0 => by cases nms with
      | nil => simp at h0
      | cons x r => rfl)
    generalize hbb : bindsF op nms.length = bb at *
    generalize hnm0 : nms.headD [] = nm at *
    generalize hlu : usesF op nms = lu at *
    have HLU := Lib.hid hlu
    obtain ⟨x0, x1, x2, x3, x4, x5⟩ := cells6 HB1.out
    obtain ⟨i0, hi0, hz0, hz1, hz2⟩ := info9'
    have HI0 := Lib.hid hi0
    have HZ0 := Lib.hid hz0
    have HZ1 := Lib.hid hz1
    have HZ2 := Lib.hid hz2
    generalize hnl : nms.length = nl at *
    have HNN := Lib.hid hnl
    generalize hll : l.length = ll at *
    have HLL := Lib.hid hll
    generalize hbn : bs.length = bn at *
    have HBN := Lib.hid hbn
    have hL0 : (0 : Int) ≤ ll := by omega
    have hL1 : (ll : Int) ≤ 100000 := by omega
    have hbn0 : (0 : Int) ≤ bn := by omega
    have hbn1 : (bn : Int) ≤ 200000 := by have := HBL.out; omega
    clear h hg hs hsz hll hlen hk hgd hbb hnm0 hlu hnl hnm hb ho hP hQ hbl hobE hbn hi0 hz0 hz1 hz2
    go_enter Tryz.func54, Tryz.ntmps54
    go_wp2_with fail
    simp only [← hW]
    clear hW
    go_wp2_with fail
    refine (HUS.out _ HU1.out).mono ?_
    rintro e w2 ⟨vu, rfl, hsu, hu2⟩
    rw [HLU.out] at hsu
    obtain ⟨au, cu, rfl⟩ := hsu.len
    have HU2 := Lib.hid (HU1.out.trans_ext hu2)
    have HB2 := Lib.hid (hu2.at HB1.out (by simp))
    have HSU : Hid (∀ u, Upto ob w2 u → SlP u P (.slice au lu.length cu) lu.length (lu.map sV)) := Lib.hid (fun u hu => hsu.upto hu (fun b hb _ => (HP2.out b hb).2))
    have HST := Lib.hid (OwR.start (ownsRow_upto HO.out HU2.out (by simp)) (Upto.refl [] w2))
    generalize hln : lu.length = n at *
    have HLN := Lib.hid hln
    have hn0 : (0 : Int) ≤ n := by omega
    have hn1 : (n : Int) ≤ 1000000 := by have := HUL.out; have := HNM.out; omega
    clear hu2 hsu x0 x1 x2 x3 x4 x5 hln
    go_wp2_with fail
    go_loopw [2, 14] (fun s i wr => ∃ (j m : Nat) (va : Option Addr) (vc : Nat), j ≤ n ∧ i = .int .i64 j ∧ s = .slice va m vc ∧ Hid (OwR w2 (.slice oa ls.length oc) (usesP bs (lu.take j) ls) (.slice va m vc) wr ∧ m = (usesP bs (lu.take j) ls).length)) (fun _ i _ => n - (intOf i).toNat)
    case atStart => exact ⟨0, _, oa, oc, by omega, rfl, rfl, Lib.hid ⟨by simpa [usesP] using HST.out, by simp [usesP]⟩⟩
    case round =>
      obtain ⟨j, m, va, vc, hj, rfl, rfl, HR⟩ := hrel
      have HU : Hid (Upto ob w2 wr) := Lib.hid (by rw [← HOB.out]; exact HR.out.1.up)
      have hj0 : (0 : Int) ≤ j := by omega
      have HUW : Hid (Upto ob w wr) := Lib.hid ((HU2.out.mono (by simp)).trans_same HU.out)
      rcases Nat.lt_or_ge j n with hlt | hge
      · obtain ⟨y, hy⟩ : ∃ y, lu[j]? = some y := ⟨_, List.getElem?_eq_getElem (by have := HLN.out; omega)⟩
        obtain ⟨g, o, rfl, hcell⟩ := slp_cell (HSU.out wr HU.out) HLN.out j y hy
        have hc := hcell wr (Upto.refl _ _)
        have hltI : (j : Int) < n := by omega
        have HNX : Hid (usesP bs (lu.take (j + 1)) ls = if bs.contains y = false ∧ (usesP bs (lu.take j) ls).contains y = false then usesP bs (lu.take j) ls ++ [y] else usesP bs (lu.take j) ls) := Lib.hid (by rw [take_app1 lu j y hy]; exact usesP_app bs y _ _)
        have HLL2 : Hid ((usesP bs (lu.take j) ls).length ≤ 200000) := Lib.hid (by have h1 := usesP_len bs (lu.take j) ls; have h2 := HLN.out; have h3 := List.length_take_le j lu; have h4 := HNM.out; have h5 := HUL.out; omega)
        have HCB := Lib.hid (containsS_calls bs y (.slice ba bn bc) wr Q (by have := HSB.out wr HUW.out; rw [HBN.out]; exact this) (by have := HBN.out; omega))
        have HCO := Lib.hid (containsS_calls (usesP bs (lu.take j) ls) y (.slice va m vc) wr _ HR.out.1.slp (by have := HLL2.out; omega))
        generalize hq : usesP bs (lu.take j) ls = lq at *
        have HMM := Lib.hid HR.out.2
        have hm1 : (m : Int) ≤ 200000 := by have := HLL2.out; have := HMM.out; omega
        have hm0 : (0 : Int) ≤ m := by omega
        clear hcell hy hq
        go_wp2_with fail
        refine HCB.out.mono ?_
        rintro e w3 ⟨rfl, rfl⟩
        cases hcb : bs.contains y with
        | true =>
          have HNY : Hid (usesP bs (lu.take (j + 1)) ls = lq) := Lib.hid (by rw [HNX.out, hcb]; simp)
          clear hcb
          go_wp2_with fail
          go_roundw
          case rel => exact ⟨j + 1, m, va, vc, by omega, by go_num, rfl, Lib.hid (by rw [HNY.out]; exact HR.out)⟩
          case measure => simp [intOf]; omega
        | false =>
          go_wp2_with fail
          refine HCO.out.mono ?_
          rintro e w4 ⟨rfl, rfl⟩
          cases hco : lq.contains y with
          | true =>
            have HNY : Hid (usesP bs (lu.take (j + 1)) ls = lq) := Lib.hid (by rw [HNX.out, hco]; simp)
            clear hcb hco
            go_wp2_with fail
            go_roundw
            case rel => exact ⟨j + 1, m, va, vc, by omega, by go_num, rfl, Lib.hid (by rw [HNY.out]; exact HR.out)⟩
            case measure => simp [intOf]; omega
          | false =>
            have HNY : Hid (usesP bs (lu.take (j + 1)) ls = lq ++ [y]) := Lib.hid (by rw [HNX.out, hcb, hco]; simp)
            have HT := Lib.hid (HR.out.1.ext ((Upto.refl [] _).alloc (.cells #[.string ⟨y.toArray⟩] 9)))
            have hrow := HT.out.row
            rw [← HMM.out] at hrow
            have hsrc := cells_at (l := [sV y]) (new_at w4 (.cells #[.string ⟨y.toArray⟩] 9))
            clear hcb hco
            go_wp2_with (at_builtin; refine wpList_app _ rfl (.tmp 28) (.tmp 30) 22 rfl 9 i0 (.string ⟨#[]⟩) 1 16 Tryz.underlying22 HI0.out HZ0.out HZ1.out HZ2.out rfl (by decide) (.slice va m vc) m _ rfl hrow ⟨w4.heap.size, 0, none⟩ 1 1 [sV y] rfl rfl hsrc (by simp [Value.oneCell', sV]) (by unfold maxLen; omega) (by omega) ?_; intro vb vd w5 ho5 hu5 hw5; have HM5 := Lib.hid (HT.out.app HMM.out.symm ho5 hu5 hw5); clear hrow hsrc ho5 hu5 hw5)
            rw [show (j : Int) + 1 = ((j + 1 : Nat) : Int) from rfl]
            exact ⟨⟨j + 1, m + 1, vb, vd, by omega, rfl, rfl, Lib.hid ⟨by rw [HNY.out]; exact HM5.out, by rw [HNY.out, List.length_append, HMM.out]; rfl⟩⟩, meas_up (by omega) rfl⟩
      · obtain rfl : j = n := by omega
        have hgeI : ¬ (j : Int) < j := by omega
        have HT : Hid (lu.take j = lu) := Lib.hid (by rw [← HLN.out, List.take_length])
        rw [HT.out] at HR
        have HB3 := Lib.hid (HU.out.at HB2.out (by intro hm; have := HLT.out _ hm; omega))
        have HO3 := Lib.hid (HR.out.1.rebase HU2.out)
        have HMM := Lib.hid HR.out.2
        have HL1 : Hid ((usesP bs lu ls).length ≤ ls.length + nl) := Lib.hid (by have h1 := usesP_len bs lu ls; have h2 := HUL.out; have h3 := HLN.out; omega)
        generalize hls1 : usesP bs lu ls = ls1 at *
        clear hls1 HR
        obtain ⟨x0, x1, x2, x3, x4, x5⟩ := cells6 HB3.out
        go_wp2_with fail
        refine (HBI.out _).mono ?_
        rintro e w5 ⟨rfl, hu5⟩
        have HB5 := Lib.hid (hu5.at HB3.out (by simp))
        have HO5 := Lib.hid (HO3.out.ext hu5)
        have HU5 := Lib.hid (HUW.out.trans_ext hu5)
        have HV5 := Lib.hid hu5
        clear hu5 x0 x1 x2 x3 x4 x5
        cases bb with
        | false =>
          have HE2 : Hid ((if false = true then bs ++ [nm] else bs) = bs) := Lib.hid rfl
          rw [HE2.out] at HE
          obtain ⟨w6, hw6⟩ : ∃ w6, w6 = w5 := ⟨_, rfl⟩
          have HB6 : Hid _ := HB5
          have HO6 := HO5
          have HSB6 : Hid (SlP w5 Q (.slice ba bn bc) bs.length (bs.map sV)) := Lib.hid (by rw [HBN.out]; exact HSB.out w5 HU5.out)
          have HQ6 : Hid (∀ b, Q b → b < w5.heap.size ∧ b ∉ (Value.slice va m vc).ownBlock.toList) := Lib.hid (fun b hb => ⟨Nat.lt_of_lt_of_le (HQ2.out b hb).1 HU5.out.size, fun hm => by
            rcases HO5.out.wh b (Option.mem_toList.1 hm) with h1 | h1
            · exact (HQ2.out b hb).2 (by rw [← HOB.out]; exact Option.mem_toList.2 h1)
            · have := (HQ2.out b hb).1; omega⟩)
          have HBS : Hid (bs.length + sizesF l ≤ 200000) := Lib.hid (by have := HBL.out; have := HBN.out; omega)
          rw [← hw6] at HB6 HO6 HSB6 HQ6
          simp only [← hw6]
          clear hw6
          have x5 := cell_of HB6.out 5
          simp only [List.getElem?_toArray, List.getElem?_cons_zero, List.getElem?_cons_succ] at x5
          go_wp2_with fail
          clear x5
          go_loopw [2, 46] (fun s i wr => ∃ (q m2 : Nat) (vb : Option Addr) (vd : Nat), q ≤ ll ∧ i = .int .i64 q ∧ s = .slice vb m2 vd ∧ Hid (OwR w6 (.slice va m vc) (freesP (l.take q) bs ls1) (.slice vb m2 vd) wr ∧ m2 = (freesP (l.take q) bs ls1).length)) (fun _ i _ => ll - (intOf i).toNat)
          case atStart => exact ⟨0, _, va, vc, by omega, rfl, rfl, Lib.hid ⟨by simpa [freesP] using OwR.start HO6.out.row (Upto.refl [] w6), by simpa [freesP] using HMM.out⟩⟩
          case round =>
            obtain ⟨q, m2, vb, vd, hq, rfl, rfl, HR⟩ := hrel
            have hq0 : (0 : Int) ≤ q := by omega
            have HON := Lib.hid (HO6.out.on HR.out.1.row HR.out.1.up HR.out.1.wh)
            have HUX : Hid (Upto ob w wr) := Lib.hid (by rw [← HOB.out]; exact HON.out.up)
            rcases Nat.lt_or_ge q ll with hlt | hge
            · obtain ⟨x, hx⟩ : ∃ x, l[q]? = some x := ⟨_, List.getElem?_eq_getElem (by have := HLL.out; omega)⟩
              obtain ⟨g, o, xo, xn1, xn2, xn3, xs, xm, xq, xl1, xl2, xl3, rfl, d0, d1, d2, d3, d4, d5, hnx⟩ := HPN.out wr HUX.out q x hx
              have hua : Upto [] wr (wr.alloc (.cells #[.int .i64 xo, .slice xn1 xn2 xn3, .int .i64 xs, .int .i64 xm, .int .i64 xq, .slice xl1 xl2 xl3] 30)) := (Upto.refl [] wr).alloc _
              have HSZX := Lib.hid (sizesF_take l q x hx)
              have HNMX := Lib.hid (nmss_take l q x hx)
              have HFL := Lib.hid (freesP_len (l.take q) bs ls1)
              have HC := Lib.hid (HIH.out x (List.mem_of_getElem? hx) (by have := HSZ.out; have := HSZX.out; omega) _ _ P (hnx.ext hua) Q bs (.slice ba bn bc) ((HSB6.out.upto HR.out.1.up (fun b hb _ => (HQ6.out b hb).2)).ext hua) (freesP (l.take q) bs ls1) (.slice vb m2 vd) (ownsRow_upto HR.out.1.row hua (by simp))
                (fun b hb => ⟨by have h1 := (HP2.out b hb).1; have h2 := HUX.out.size; have h3 := hua.size; omega, fun hm => by
                  rcases HON.out.wh b (Option.mem_toList.1 hm) with h1 | h1
                  · exact (HP2.out b hb).2 (by rw [← HOB.out]; exact Option.mem_toList.2 h1)
                  · have := (HP2.out b hb).1; omega⟩)
                (fun b hb => ⟨by have h1 := (HQ6.out b hb).1; have h2 := HR.out.1.up.size; have h3 := hua.size; omega, fun hm => by
                  rcases HR.out.1.wh b (Option.mem_toList.1 hm) with h1 | h1
                  · exact (HQ6.out b hb).2 (Option.mem_toList.2 h1)
                  · have := (HQ6.out b hb).1; omega⟩)
                (by have h1 := HBS.out; have h2 := HSZX.out; omega) (by have h1 := HFL.out; have h2 := HNMX.out; have h3 := HNM.out; have h4 := HL1.out; have h5 := nmss_take_le l q; omega))
              have HRA := Lib.hid (HR.out.1.ext hua)
              have hltI : (q : Int) < ll := by omega
              have HNX : Hid (freesP (l.take (q + 1)) bs ls1 = freeP x bs (freesP (l.take q) bs ls1)) := Lib.hid (by rw [take_app1 l q x hx]; exact freesP_app x _ _ _)
              clear hua hnx hx
              go_wp2_with fail
              refine HC.out.mono ?_
              rintro e w7 ⟨v7, rfl, ho7⟩
              have HR7 := Lib.hid (HRA.out.on ho7.row ho7.up ho7.wh)
              obtain ⟨a7, c7, rfl, -⟩ := ownsRow_len ho7.row
              clear ho7
              go_wp2_with fail
              go_roundw
              case rel => exact ⟨q + 1, _, a7, c7, by omega, by go_num, rfl, Lib.hid (by rw [HNX.out]; exact ⟨HR7.out, rfl⟩)⟩
              case measure => simp [intOf]; omega
            · obtain rfl : q = ll := by omega
              have hgeI : ¬ (q : Int) < q := by omega
              have HTT : Hid (l.take q = l) := Lib.hid (by rw [← HLL.out, List.take_length])
              rw [HTT.out] at HON
              go_wp2_with fail
              go_ret
              unfold FoPost
              rw [HE.out]
              exact ⟨_, rfl, HON.out⟩
        | true =>
          have HE2 : Hid ((if true = true then bs ++ [nm] else bs) = bs ++ [nm]) := Lib.hid rfl
          rw [HE2.out] at HE
          have hnl0 := HNL.out rfl
          have hnl1 : (0 : Int) < nl := by omega
          obtain ⟨gn, on, rfl, hcn⟩ := slp_cell (HSN.out w5 HU5.out) HNN.out 0 nm (HND.out hnl0)
          have e1 : ∀ u : Ext w5, u.w.cell? ⟨w.heap.size, 1, none⟩ = some (.slice (some ⟨gn, on, none⟩) nl c1) := fun u => u.cell (cell_of HB5.out 1)
          have en : ∀ u : Ext w5, u.w.cell? ⟨gn, on, none⟩ = some (.string ⟨nm.toArray⟩) := fun u => hcn u.w u.up
          have HCL := Lib.hid (fun u (hu : Upto [] w5 u) => sclone2_calls (bs.map sV) ba bn bc u Q (by rw [List.length_map, HBN.out]) (by omega) (by simp [Value.oneCell', sV]) (by have := (HSB.out w5 HU5.out).ext hu; exact this))
          clear hcn
          go_wp2_with fail
          refine wp_region_seg_at [1] [6] [0, 1, 2, 3, 4, 5, 6] [7, 8] 7 (by kernel_rfl) (by kernel_rfl) (by kernel_rfl) ?_
          with_reducible refine seg_plain (o := ?o1) ?hi1 ?hA1 ?hC1 ?hp1 ?hw1 ?h1
          case hi1 => rfl
          case hA1 => rfl
          case hC1 => rfl
          case hp1 => rfl
          case hw1 => kernel_rfl
          intro K' hK'
          go_big_quiet_op
          go_big_quiet_on
          refine seg_callO (Y := Option Addr × Nat) (fun y => .slice y.1 bn y.2) (fun y u => u.ownsRow 0 9 1 (.slice y.1 bn y.2) bn (bs.map sV) ∧ ∀ g, (Value.slice y.1 bn y.2).ownBlock = some g → w5.heap.size ≤ g) (fun _ => []) rfl rfl rfl rfl (fun _ _ _ h hu => ⟨ownsRow_upto h.1 hu (by simp), h.2⟩) (fun _ => List.nodup_nil) (fun w => by go_simp) (fun w' hu hd => (HCL.out w' hu).mono fun e w2 ⟨a', c', h1, h2, h3, h4⟩ => ⟨(a', c'), h1, h4, ⟨h2, fun g hg => Nat.le_trans hu.size (h3 g hg)⟩, fun b hb => by cases hb⟩) ?_
          rintro ⟨za, zc⟩
          simp only [Act.put, List.setIfInBounds_toArray, List.set_cons_zero, List.set_cons_succ]
          with_reducible refine seg_plain (o := ?o2) ?hi2 ?hA2 ?hC2 ?hp2 ?hw2 ?h2
          case hi2 => rfl
          case hA2 => rfl
          case hC2 => rfl
          case hp2 => rfl
          case hw2 => kernel_rfl
          intro K' hK'
          go_big_quiet_op
          go_big_quiet_on
          with_reducible refine seg_plain (o := ?o3) ?hi3 ?hA3 ?hC3 ?hp3 ?hw3 ?h3
          case hi3 => rfl
          case hA3 => rfl
          case hC3 => rfl
          case hp3 => rfl
          case hw3 => kernel_rfl
          intro K' hK'
          go_big_quiet_op
          go_big_quiet_on
          with_reducible refine seg_plain (o := ?o4) ?hi4 ?hA4 ?hC4 ?hp4 ?hw4 ?h4
          case hi4 => rfl
          case hA4 => rfl
          case hC4 => rfl
          case hp4 => rfl
          case hw4 => kernel_rfl
          intro K' hK'
          go_big_quiet_op
          go_big_quiet_on
          with_reducible refine seg_plain (o := ?o5) ?hi5 ?hA5 ?hC5 ?hp5 ?hw5 ?h5
          case hi5 => rfl
          case hA5 => rfl
          case hC5 => rfl
          case hp5 => rfl
          case hw5 => kernel_rfl
          intro K' hK'
          go_big_quiet_op
          go_big_quiet_on
          refine seg_made (.cells #[.string ⟨nm.toArray⟩] 9) (fun b => .slice (some ⟨b, 0, none⟩) 1 1) rfl rfl rfl (fun w => by go_simp) ?_
          intro b8
          simp only [Act.put, List.setIfInBounds_toArray, List.set_cons_zero, List.set_cons_succ]
          intro w9 hg
          have HU9 := Lib.hid hg.up
          have HB8 : Hid (w9.heap[b8]? = some (.cells #[.string ⟨nm.toArray⟩] 9 (0, 0))) := Lib.hid hg.hold.1
          have HZR : Hid (w9.ownsRow 0 9 1 (.slice za bn zc) bn (bs.map sV) ∧ ∀ g, (Value.slice za bn zc).ownBlock = some g → w5.heap.size ≤ g) := Lib.hid hg.hold.2.1
          simp only [List.drop_succ_cons, List.drop_zero]
          have hrow := HZR.out.1
          have hsrc := cells_at (l := [sV nm]) HB8.out
          clear hg e1 en
          go_wp2_with (at_builtin; refine wpList_app _ rfl (.tmp 36) (.tmp 41) 22 rfl 9 i0 (.string ⟨#[]⟩) 1 16 Tryz.underlying22 HI0.out HZ0.out HZ1.out HZ2.out rfl (by decide) (.slice za bn zc) bn _ rfl hrow ⟨b8, 0, none⟩ 1 1 [sV nm] rfl rfl hsrc (by simp [Value.oneCell', sV]) (by unfold maxLen; omega) (by omega) ?_; intro vb vd w6 ho6 hu6 hw6; have HRO := Lib.hid (And.intro ho6 (And.intro hu6 hw6)); have HUP6 : Hid (Upto [] w5 w6) := Lib.hid (HU9.out.trans hu6 (fun k hk => Or.inr (HZR.out.2 k (Option.mem_toList.1 hk)))); have HB6 := Lib.hid (HUP6.out.at HB5.out (by simp)); have x5 := cell_of HB6.out 5; simp only [List.getElem?_toArray, List.getElem?_cons_zero, List.getElem?_cons_succ] at x5; clear hrow hsrc ho6 hu6 hw6)
          have HO6 := Lib.hid (HO5.out.ext HUP6.out)
          have HSB6 : Hid (SlP w6 (fun b => w5.heap.size ≤ b ∧ b < w6.heap.size) (.slice vb (bn + 1) vd) (bs ++ [nm]).length ((bs ++ [nm]).map sV)) := Lib.hid (by
            have h1 : w6.ownsRow 0 9 1 (.slice vb (bn + 1) vd) (bs ++ [nm]).length ((bs ++ [nm]).map sV) := by
              rw [List.length_append, List.map_append, HBN.out]
              exact HRO.out.1
            exact SlP.of_row h1 (fun g hg => ⟨by
              rcases HRO.out.2.2 g hg with h2 | h2
              · exact HZR.out.2 g h2
              · exact Nat.le_trans HU9.out.size h2, own_lt h1 g (Option.mem_toList.2 hg)⟩))
          have HQ6 : Hid (∀ b, (w5.heap.size ≤ b ∧ b < w6.heap.size) → b < w6.heap.size ∧ b ∉ (Value.slice va m vc).ownBlock.toList) := Lib.hid (fun b hb => ⟨hb.2, fun hm => by
            have := own_lt HO5.out.row b hm
            omega⟩)
          have HBS : Hid ((bs ++ [nm]).length + sizesF l ≤ 200000) := Lib.hid (by have := HBL.out; have := HBN.out; rw [List.length_append]; simp; omega)
          clear x5
          go_loopw [2, 46] (fun s i wr => ∃ (q m2 : Nat) (vb : Option Addr) (vd : Nat), q ≤ ll ∧ i = .int .i64 q ∧ s = .slice vb m2 vd ∧ Hid (OwR w6 (.slice va m vc) (freesP (l.take q) (bs ++ [nm]) ls1) (.slice vb m2 vd) wr ∧ m2 = (freesP (l.take q) (bs ++ [nm]) ls1).length)) (fun _ i _ => ll - (intOf i).toNat)
          case atStart => exact ⟨0, _, va, vc, by omega, rfl, rfl, Lib.hid ⟨by simpa [freesP] using OwR.start HO6.out.row (Upto.refl [] w6), by simpa [freesP] using HMM.out⟩⟩
          case round =>
            obtain ⟨q, m2, vb, vd, hq, rfl, rfl, HR⟩ := hrel
            have hq0 : (0 : Int) ≤ q := by omega
            have HON := Lib.hid (HO6.out.on HR.out.1.row HR.out.1.up HR.out.1.wh)
            have HUX : Hid (Upto ob w wr) := Lib.hid (by rw [← HOB.out]; exact HON.out.up)
            rcases Nat.lt_or_ge q ll with hlt | hge
            · obtain ⟨x, hx⟩ : ∃ x, l[q]? = some x := ⟨_, List.getElem?_eq_getElem (by have := HLL.out; omega)⟩
              obtain ⟨g, o, xo, xn1, xn2, xn3, xs, xm, xq, xl1, xl2, xl3, rfl, d0, d1, d2, d3, d4, d5, hnx⟩ := HPN.out wr HUX.out q x hx
              have hua : Upto [] wr (wr.alloc (.cells #[.int .i64 xo, .slice xn1 xn2 xn3, .int .i64 xs, .int .i64 xm, .int .i64 xq, .slice xl1 xl2 xl3] 30)) := (Upto.refl [] wr).alloc _
              have HSZX := Lib.hid (sizesF_take l q x hx)
              have HNMX := Lib.hid (nmss_take l q x hx)
              have HFL := Lib.hid (freesP_len (l.take q) (bs ++ [nm]) ls1)
              have HC := Lib.hid (HIH.out x (List.mem_of_getElem? hx) (by have := HSZ.out; have := HSZX.out; omega) _ _ P (hnx.ext hua) (fun b => w5.heap.size ≤ b ∧ b < w6.heap.size) (bs ++ [nm]) _ ((HSB6.out.upto HR.out.1.up (fun b hb _ => (HQ6.out b hb).2)).ext hua) (freesP (l.take q) (bs ++ [nm]) ls1) (.slice vb m2 vd) (ownsRow_upto HR.out.1.row hua (by simp))
                (fun b hb => ⟨by have h1 := (HP2.out b hb).1; have h2 := HUX.out.size; have h3 := hua.size; omega, fun hm => by
                  rcases HON.out.wh b (Option.mem_toList.1 hm) with h1 | h1
                  · exact (HP2.out b hb).2 (by rw [← HOB.out]; exact Option.mem_toList.2 h1)
                  · have := (HP2.out b hb).1; omega⟩)
                (fun b hb => ⟨by have h1 := (HQ6.out b hb).1; have h2 := HR.out.1.up.size; have h3 := hua.size; omega, fun hm => by
                  rcases HR.out.1.wh b (Option.mem_toList.1 hm) with h1 | h1
                  · exact (HQ6.out b hb).2 (Option.mem_toList.2 h1)
                  · have := (HQ6.out b hb).1; omega⟩)
                (by have h1 := HBS.out; have h2 := HSZX.out; omega) (by have h1 := HFL.out; have h2 := HNMX.out; have h3 := HNM.out; have h4 := HL1.out; have h5 := nmss_take_le l q; omega))
              have HRA := Lib.hid (HR.out.1.ext hua)
              have hltI : (q : Int) < ll := by omega
              have HNX : Hid (freesP (l.take (q + 1)) (bs ++ [nm]) ls1 = freeP x (bs ++ [nm]) (freesP (l.take q) (bs ++ [nm]) ls1)) := Lib.hid (by rw [take_app1 l q x hx]; exact freesP_app x _ _ _)
              clear hua hnx hx
              go_wp2_with fail
              refine HC.out.mono ?_
              rintro e w7 ⟨v7, rfl, ho7⟩
              have HR7 := Lib.hid (HRA.out.on ho7.row ho7.up ho7.wh)
              obtain ⟨a7, c7, rfl, -⟩ := ownsRow_len ho7.row
              clear ho7
              go_wp2_with fail
              go_roundw
              case rel => exact ⟨q + 1, _, a7, c7, by omega, by go_num, rfl, Lib.hid (by rw [HNX.out]; exact ⟨HR7.out, rfl⟩)⟩
              case measure => simp [intOf]; omega
            · obtain rfl : q = ll := by omega
              have hgeI : ¬ (q : Int) < q := by omega
              have HTT : Hid (l.take q = l) := Lib.hid (by rw [← HLL.out, List.take_length])
              rw [HTT.out] at HON
              go_wp2_with fail
              go_ret
              unfold FoPost
              rw [HE.out]
              exact ⟨_, rfl, HON.out⟩
end Go.Proofs.YtbnebkkpmcjmbaaGreatDoor


namespace Go.Proofs.YtbnebkkpmcjmbaaGreatDoor
open Go.RowKit Go.PL Go.Maps
theorem NmT.of_row {w : World} {nms : List (List UInt8)} {a : Option Addr} {c n lo : Nat} (h : w.ownsRow 0 9 1 (.slice a n c) n (nms.map sV)) (hn : nms.length = n) (hlo : ∀ g, (Value.slice a n c).ownBlock = some g → lo ≤ g) : NmT w nms (.slice a n c) lo w.heap.size := by
  subst hn
  rcases h.2 with ⟨e, h0⟩ | ⟨g, cap, cur, e, _, hh, hnc, _, _, ht⟩
  · simp only [Value.slice.injEq] at e
    exact Or.inl ⟨List.eq_nil_of_length_eq_zero e.2.1, a, c, by rw [e.2.1]⟩
  · simp only [Value.slice.injEq] at e
    obtain ⟨rfl, -, rfl⟩ := e
    refine Or.inr ⟨g, 0, c, cur, 9, rfl, by simpa using hnc, hlo g rfl, lt_of_heap hh, hh, fun j x hj => ?_⟩
    have h1 : (nms.map sV)[j]? = some (sV x) := by rw [List.getElem?_map, hj]; rfl
    rw [← ht, List.getElem?_take] at h1
    rw [Nat.zero_add]
    split at h1
    · simpa using h1
    · cases h1
/-- the operands so far, in a row of one's own; f: each operand's blocks -/
structure TRow (w0 w : World) (B : Nat) (c : Nat → Nat → Value) (v : Value) (ms : List Nd) : Prop where
  row : w.ownsRow 0 30 6 v ms.length (cellsN c ms.length)
  own : ∀ g, v.ownBlock = some g → w0.heap.size ≤ g ∧ g ≠ B
  kd : ∃ f : Nat → Nat × Nat, (∀ i x, ms[i]? = some x → OwT w x (.agg #[c i 0, c i 1, c i 2, c i 3, c i 4, c i 5]) (f i).1 (f i).2 ∧ w0.heap.size ≤ (f i).1 ∧ (f i).1 ≤ (f i).2 ∧ (f i).2 ≤ w.heap.size ∧ ∀ g, v.ownBlock = some g → g < (f i).1 ∨ (f i).2 ≤ g) ∧ ∀ i j, i < j → j < ms.length → (f i).2 ≤ (f j).1
theorem TRow.upto {w0 w w' : World} {S : List Nat} {B : Nat} {c : Nat → Nat → Value} {v : Value} {ms : List Nd} (h : TRow w0 w B c v ms) (hu : Upto S w w') (hS : ∀ k ∈ S, k < w0.heap.size) : TRow w0 w' B c v ms := by
  obtain ⟨f, h1, h2⟩ := h.kd
  refine ⟨ownsRow_upto h.row hu (fun g hg hm => by have := (h.own g hg).1; have := hS g hm; omega), h.own, f, fun i x hx => ?_, h2⟩
  obtain ⟨k1, k2, k3, k4, k5⟩ := h1 i x hx
  exact ⟨k1.same _ _ _ _ (SameIn.upto hu k4 (fun b hb => Or.inl (by have := hS b hb; omega))), k2, k3, Nat.le_trans k4 hu.size, k5⟩
theorem TRow.app {w0 w w3 w5 : World} {B : Nat} {c : Nat → Nat → Value} {v : Value} {ms : List Nd} {m : Nd} {v0 v1 v2 v3 v4 v5 : Value} {b' : Option Addr} {c' k : Nat} (h : TRow w0 w B c v ms) (hk : w.heap.size ≤ k) (_hk3 : k ≤ w3.heap.size) (h03 : w0.heap.size ≤ w.heap.size) (hB : B < w0.heap.size) (h3 : Upto [] w w3)
    (hm : ∃ q, k ≤ q ∧ q ≤ w3.heap.size ∧ OwT w3 m (.agg #[v0, v1, v2, v3, v4, v5]) k q) (ho : w5.ownsRow 0 30 6 (.slice b' (ms.length + 1) c') (ms.length + 1) (cellsN c ms.length ++ [v0, v1, v2, v3, v4, v5])) (hu : Upto v.ownBlock.toList w3 w5)
    (hw : ∀ g, (Value.slice b' (ms.length + 1) c').ownBlock = some g → v.ownBlock = some g ∨ w3.heap.size ≤ g) : TRow w0 w5 B (addC c ms.length v0 v1 v2 v3 v4 v5) (.slice b' (ms.length + 1) c') (ms ++ [m]) := by
  obtain ⟨f, h1, h2⟩ := h.kd
  obtain ⟨q, hkq, hq3, hmt⟩ := hm
  have hold : ∀ g, v.ownBlock = some g → g < w.heap.size := fun g hg => by
    obtain ⟨cur, hh⟩ := ownsRow_block h.row hg
    exact lt_of_heap hh
  refine ⟨?_, ?_, fun i => if i < ms.length then f i else (k, q), ?_, ?_⟩
  · rw [List.length_append, List.length_singleton, cellsN_add]
    exact ho
  · intro g hg
    rcases hw g hg with h4 | h4
    · exact h.own g h4
    · have := h3.size
      exact ⟨by omega, by omega⟩
  · intro i x hi
    by_cases hlt : i < ms.length
    · rw [List.getElem?_append_left hlt] at hi
      obtain ⟨k1, k2, k3, k4, k5⟩ := h1 i x hi
      simp only [if_pos hlt]
      have hs1 : SameIn w w3 (f i).1 (f i).2 := SameIn.upto h3 k4 (by simp)
      have hs2 : SameIn w3 w5 (f i).1 (f i).2 := SameIn.upto hu (Nat.le_trans k4 h3.size) (fun b hb => (k5 b (Option.mem_toList.1 hb)))
      have hx := ((k1.same _ _ _ _ hs1).same _ _ _ _ hs2)
      refine ⟨by simpa [addC, Nat.ne_of_lt hlt] using hx, k2, k3, Nat.le_trans k4 (Nat.le_trans h3.size hu.size), fun g hg => ?_⟩
      rcases hw g hg with h4 | h4
      · exact k5 g h4
      · have := h3.size
        exact Or.inr (by omega)
    · rw [List.getElem?_append_right (by omega)] at hi
      cases hd : i - ms.length with
      | zero =>
        rw [hd] at hi
        simp at hi
        subst hi
        have hie : i = ms.length := by omega
        subst hie
        simp only [Nat.lt_irrefl, if_false]
        have hs2 : SameIn w3 w5 k q := SameIn.upto hu hq3 (fun b hb => Or.inl (by have := hold b (Option.mem_toList.1 hb); omega))
        have hx := hmt.same _ _ _ _ hs2
        refine ⟨by simpa [addC] using hx, by omega, hkq, Nat.le_trans hq3 hu.size, fun g hg => ?_⟩
        rcases hw g hg with h4 | h4
        · exact Or.inl (by have := hold g h4; omega)
        · exact Or.inr (by omega)
      | succ z => rw [hd] at hi; simp at hi
  · intro i j hij hj
    rw [List.length_append, List.length_singleton] at hj
    by_cases hjl : j < ms.length
    · simp only [if_pos hjl, if_pos (show i < ms.length by omega)]
      exact h2 i j hij hjl
    · have hil : i < ms.length := by omega
      simp only [if_neg hjl, if_pos hil]
      obtain ⟨x, hx⟩ : ∃ x, ms[i]? = some x := ⟨_, List.getElem?_eq_getElem hil⟩
      have := (h1 i x hx).2.2.2.1
      omega
/-- the row, as a formula's list -/
theorem TRow.list {w0 w : World} {B : Nat} {c : Nat → Nat → Value} {v : Value} {ms : List Nd} (h : TRow w0 w B c v ms) : (ms = [] ∧ ∃ a c, v = .slice a 0 c) ∨ ∃ g o c cs t, v = .slice (some ⟨g, o, none⟩) ms.length c ∧ w.heap[g]? = some (.cells cs t (0, 0)) ∧ w0.heap.size ≤ g ∧ g < w.heap.size ∧ OwTs w ms cs o g w0.heap.size w.heap.size := by
  rcases h.row.2 with ⟨e, h0⟩ | ⟨g, cap, cur, e, _, hh, _, _, _, ht⟩
  · exact Or.inl ⟨List.eq_nil_of_length_eq_zero h0, none, 0, e⟩
  · obtain ⟨f, h1, h2⟩ := h.kd
    refine Or.inr ⟨g, 0, cap, cur, 30, e, hh, (h.own g (by rw [e]; rfl)).1, lt_of_heap hh, ?_⟩
    have cl : ∀ i, i < ms.length → ∀ j, j < 6 → cur[0 + i * 6 + j]? = some (c i j) := fun i hil j hj => by
      have := cellsN_at c hil hj
      rw [← ht, List.getElem?_take] at this
      split at this
      · simpa using this
      · cases this
    have key : ∀ (n i lo : Nat), i + n = ms.length → (∀ j, i ≤ j → j < ms.length → lo ≤ (f j).1) → OwTs w (ms.drop i) cur (0 + i * 6) g lo w.heap.size := by
      intro n
      induction n with
      | zero =>
        intro i lo hin _
        rw [List.drop_of_length_le (by omega)]
        unfold OwTs
        trivial
      | succ n ih =>
        intro i lo hin hlo
        have hil : i < ms.length := by omega
        rw [List.drop_eq_getElem_cons hil]
        obtain ⟨k1, k2, k3, k4, k5⟩ := h1 i ms[i] (List.getElem?_eq_getElem hil)
        unfold OwTs
        refine ⟨_, _, _, _, _, _, (f i).1, (f i).2, cl i hil 0 (by omega), cl i hil 1 (by omega), cl i hil 2 (by omega), cl i hil 3 (by omega), cl i hil 4 (by omega), cl i hil 5 (by omega), hlo i (Nat.le_refl _) hil, k3, k4, k5 g (by rw [e]; rfl), k1, ?_⟩
        have := ih (i + 1) (f i).2 (by omega) (fun j hj hjl => h2 i j (by omega) hjl)
        rwa [show 0 + (i + 1) * 6 = 0 + i * 6 + 6 by omega] at this
    have := key ms.length 0 w0.heap.size (by omega) (fun j _ hjl => (h1 j _ (List.getElem?_eq_getElem hjl)).2.1)
    simpa using this
end Go.Proofs.YtbnebkkpmcjmbaaGreatDoor


namespace Go.Proofs.YtbnebkkpmcjmbaaGreatDoor
open Go.RowKit Go.PL Go.Maps
def TPost (w : World) (nd : Nd) (e : Ending) (w' : World) : Prop := ∃ v, e = .returned v ∧ OwT w' nd v w.heap.size w'.heap.size ∧ Upto [] w w'
/-- what stands between two rounds -/
structure TI (w w9 : World) (bn : Nat) (op so nn mm : Int) (na : Option Addr) (nl nc : Nat) (l : List Nd) (j : Nat) (wr : World) : Prop where
  up : Upto [bn] w9 wr
  old : Upto [] w wr
  st : ∃ (va : Option Addr) (vn vc : Nat) (c : Nat → Nat → Value), wr.heap[bn]? = some (.cells #[.int .i64 op, .slice na nl nc, .int .i64 so, .int .i64 nn, .int .i64 mm, .slice va vn vc] 30 (0, 0)) ∧ TRow w9 wr bn c (.slice va vn vc) (l.take j)
theorem TI.ext {w w9 wr w2 : World} {bn : Nat} {op so nn mm : Int} {na : Option Addr} {nl nc : Nat} {l : List Nd} {j : Nat} (h : TI w w9 bn op so nn mm na nl nc l j wr) (hu : Upto [] wr w2) : TI w w9 bn op so nn mm na nl nc l j w2 := by
  obtain ⟨va, vn, vc, c, h1, h2⟩ := h.st
  exact ⟨h.up.trans_ext hu, h.old.trans_ext hu, va, vn, vc, c, hu.at h1 (by simp), h2.upto hu (by simp)⟩
/-- an operand's copy: its blocks -/
def KdP (W : World) (x : Nd) (v : Value) (u : World) : Prop := ∃ k q, W.heap.size ≤ k ∧ k ≤ q ∧ q ≤ u.heap.size ∧ OwT u x v k q
theorem KdP.ext {W u u' : World} {x : Nd} {v : Value} (h : KdP W x v u) (hu : Upto [] u u') : KdP W x v u' := by
  obtain ⟨k, q, h1, h2, h3, h4⟩ := h
  exact ⟨k, q, h1, h2, Nat.le_trans h3 hu.size, h4.same _ _ _ _ (SameIn.upto hu h3 (by simp))⟩
theorem tcl_step {w w9 wr w10 w5 : World} {bn : Nat} {op so nn mm : Int} {na : Option Addr} {nl nc : Nat} {l : List Nd} {vn : Nat} {va : Option Addr} {vc : Nat} {c : Nat → Nat → Value} {x : Nd} {v0 v1 v2 v3 v4 v5 : Value} {b5 : Option Addr} {c5 : Nat}
    (HI : TI w w9 bn op so nn mm na nl nc l vn wr) (HLT : w.heap.size ≤ bn ∧ bn < w9.heap.size)
    (hbk : wr.heap[bn]? = some (.cells #[.int .i64 op, .slice na nl nc, .int .i64 so, .int .i64 nn, .int .i64 mm, .slice va vn vc] 30 (0, 0))) (hrow : TRow w9 wr bn c (.slice va vn vc) (l.take vn))
    (hu : Upto [] wr w10) (hn : KdP wr x (.agg #[v0, v1, v2, v3, v4, v5]) w10) (hjl : (l.take vn).length = vn) (htk : l.take (vn + 1) = l.take vn ++ [x])
    (ho5 : w5.ownsRow 0 30 6 (.slice b5 (vn + 1) c5) (vn + 1) (cellsN c vn ++ [v0, v1, v2, v3, v4, v5])) (hu5 : Upto (Value.slice va vn vc).ownBlock.toList w10 w5) (hw5 : ∀ g, (Value.slice b5 (vn + 1) c5).ownBlock = some g → (Value.slice va vn vc).ownBlock = some g ∨ w10.heap.size ≤ g) :
    w5.heap[bn]? = some (.cells #[.int .i64 op, .slice na nl nc, .int .i64 so, .int .i64 nn, .int .i64 mm, .slice va vn vc] 30 (0, 0)) ∧ TI w w9 bn op so nn mm na nl nc l (vn + 1) (w5.setCell ⟨bn, 5, none⟩ (.slice b5 (vn + 1) c5)) := by
  have hown : ∀ g, g ∈ (Value.slice va vn vc).ownBlock.toList → w9.heap.size ≤ g ∧ g ≠ bn := fun g hg => hrow.own g (Option.mem_toList.1 hg)
  have hold : ∀ g, (Value.slice va vn vc).ownBlock = some g → g < wr.heap.size := fun g hg => by
    obtain ⟨cur, hh⟩ := ownsRow_block hrow.row hg
    exact lt_of_heap hh
  have hb5 := hu5.at (hu.at hbk (by simp)) (fun hm => (hown _ hm).2 rfl)
  have hst : Upto [bn] w5 (w5.setCell ⟨bn, 5, none⟩ (.slice b5 (vn + 1) c5)) := (Upto.refl [bn] w5).setCell (p := ⟨bn, 5, none⟩) (Or.inl (by simp)) _
  have hs9 := HI.up.size
  have hs10 := hu.size
  have hbw := lt_of_heap hbk
  refine ⟨hb5, ⟨?_, ?_, b5, vn + 1, c5, addC c vn v0 v1 v2 v3 v4 v5, ?_, ?_⟩⟩
  · exact ((HI.up.trans_ext hu).trans hu5 (fun k hk => Or.inr (hown k hk).1)).setCell (p := ⟨bn, 5, none⟩) (Or.inl (by simp)) _
  · exact ((HI.old.trans_ext hu).trans hu5 (fun k hk => Or.inr (by have := (hown k hk).1; omega))).setCell (p := ⟨bn, 5, none⟩) (Or.inr (by simp; omega)) _
  · have := set_same hb5 5 (.slice b5 (vn + 1) c5)
    simpa using this
  · obtain ⟨k, q, n1, n2, n3, n4⟩ := hn
    have happ := TRow.app (m := x) (v0 := v0) (v1 := v1) (v2 := v2) (v3 := v3) (v4 := v4) (v5 := v5) (b' := b5) (c' := c5) (w5 := w5) (k := k) hrow n1 (by omega) hs9 HLT.2 hu ⟨q, n2, n3, n4⟩ (by rw [hjl]; exact ho5) hu5 (by rw [hjl]; exact hw5)
    rw [hjl] at happ
    rw [htk]
    exact happ.upto hst (fun k hk => by simp at hk; subst hk; exact HLT.2)
theorem tcl_end {w w9 wr : World} {bn : Nat} {op so nn mm : Int} {na : Option Addr} {nc : Nat} {names : List (List UInt8)} {l : List Nd} {vn : Nat} {va : Option Addr} {vc : Nat} {c : Nat → Nat → Value}
    (HI : TI w w9 bn op so nn mm na names.length nc l vn wr) (HLT : w.heap.size = bn ∧ bn + 1 < w9.heap.size)
    (hsl : NmT w9 names (.slice na names.length nc) (w.heap.size + 2) w9.heap.size)
    (hrow : TRow w9 wr bn c (.slice va vn vc) (l.take vn)) (htk : l.take vn = l) (hll : l.length = vn) :
    TPost w (.mk op names so nn mm l) (.returned (.agg #[.int .i64 op, .slice na names.length nc, .int .i64 so, .int .i64 nn, .int .i64 mm, .slice va vn vc])) ((((((wr.setCell ⟨w.heap.size + 1, 0, none⟩ (.int .i64 op)).setCell ⟨w.heap.size + 1, 1, none⟩ (.slice na names.length nc)).setCell ⟨w.heap.size + 1, 2, none⟩ (.int .i64 so)).setCell ⟨w.heap.size + 1, 3, none⟩ (.int .i64 nn)).setCell ⟨w.heap.size + 1, 4, none⟩ (.int .i64 mm)).setCell ⟨w.heap.size + 1, 5, none⟩ (.slice va vn vc)) := by
  have hst := nd_self wr (w.heap.size + 1) (.int .i64 op) (.slice na names.length nc) (.int .i64 so) (.int .i64 nn) (.int .i64 mm) (.slice va vn vc)
  have hrow2 := hrow.upto hst (fun k hk => by simp at hk; omega)
  rw [htk] at hrow2
  obtain ⟨wE, hE⟩ : ∃ wE, wE = ((((((wr.setCell ⟨w.heap.size + 1, 0, none⟩ (.int .i64 op)).setCell ⟨w.heap.size + 1, 1, none⟩ (.slice na names.length nc)).setCell ⟨w.heap.size + 1, 2, none⟩ (.int .i64 so)).setCell ⟨w.heap.size + 1, 3, none⟩ (.int .i64 nn)).setCell ⟨w.heap.size + 1, 4, none⟩ (.int .i64 mm)).setCell ⟨w.heap.size + 1, 5, none⟩ (.slice va vn vc)) := ⟨_, rfl⟩
  have hup : Upto [] w wE := by rw [hE]; exact nd_up HI.old (Or.inr (by omega)) ..
  rw [← hE] at hst hrow2 ⊢
  have hu9 : Upto [bn, bn + 1] w9 wE := (HI.up.mono (by simp)).trans (hst.mono (by simp; omega)) (fun k hk => Or.inl hk)
  have hs2 : NmT wE names (.slice na names.length nc) (w.heap.size + 2) w9.heap.size := hsl.same (SameIn.upto hu9 (Nat.le_refl _) (fun b hb => Or.inl (by simp at hb; omega)))
  refine ⟨_, rfl, ?_, hup⟩
  unfold OwT
  refine ⟨_, _, w9.heap.size, rfl, by omega, hu9.size, ?_, ?_⟩
  · rcases hs2 with h1 | ⟨g, o, c, cs, t, e3, k1, k2, k3, k4, k5⟩
    · exact Or.inl h1
    · exact Or.inr ⟨g, o, c, cs, t, e3, k1, by omega, k3, k4, k5⟩
  · have := hrow2.list
    rw [hll] at this ⊢
    exact this
set_option maxRecDepth 100000 in
set_option maxHeartbeats 6400000 in
theorem tclone_calls : ∀ (k : Nat) (nd : Nd), sizeF nd ≤ k → k ≤ 10000000 → bigN nd → ∀ (P : Nat → Prop) (v : Value) (w : World), NdV w P nd v → Calls Tryz.prog 42 #[v] w (TPost w nd)
  | 0, nd, hk, _, _, _, _, _, _ => by have := sizeF_pos nd; omega
  | k + 1, .mk op names so nn mm l, hk, hk7, hbg, P, v, w, h => by
    obtain ⟨a1, c1, a2, c2, rfl, hs, hls⟩ := h.open
    unfold bigN at hbg
    have hsz : sizesF l ≤ k := by simp only [sizeF] at hk; omega
    have hln := sizes_len l
    have hu2 : Upto [] w ((w.alloc (.cells #[.int .i64 op, .slice a1 names.length c1, .int .i64 so, .int .i64 nn, .int .i64 mm, .slice a2 l.length c2] 30)).alloc (.cells #[.int .i64 0, .slice none 0 0, .int .i64 0, .int .i64 0, .int .i64 0, .slice none 0 0] 30)) := ((Upto.refl [] w).alloc _).alloc _
    have hb1 := alloc_old (new_at w (.cells #[.int .i64 op, .slice a1 names.length c1, .int .i64 so, .int .i64 nn, .int .i64 mm, .slice a2 l.length c2] 30)) (.cells #[.int .i64 0, .slice none 0 0, .int .i64 0, .int .i64 0, .int .i64 0, .slice none 0 0] 30)
    have hb2 := new_at1 w (.cells #[.int .i64 op, .slice a1 names.length c1, .int .i64 so, .int .i64 nn, .int .i64 mm, .slice a2 l.length c2] 30) (.cells #[.int .i64 0, .slice none 0 0, .int .i64 0, .int .i64 0, .int .i64 0, .slice none 0 0] 30)
    obtain ⟨W, hW⟩ : ∃ W, W = ((w.alloc (.cells #[.int .i64 op, .slice a1 names.length c1, .int .i64 so, .int .i64 nn, .int .i64 mm, .slice a2 l.length c2] 30)).alloc (.cells #[.int .i64 0, .slice none 0 0, .int .i64 0, .int .i64 0, .int .i64 0, .slice none 0 0] 30)) := ⟨_, rfl⟩
    rw [← hW] at hu2 hb1 hb2
    have HU2 := Lib.hid hu2
    have HB1 := Lib.hid hb1
    have HB2 := Lib.hid hb2
    have HCL := Lib.hid (fun W2 (hu : Upto [] W W2) => sclone2_calls (names.map sV) a1 names.length c1 W2 P (by simp) hbg.1 (by intro u hu; obtain ⟨x, _, rfl⟩ := List.mem_map.1 hu; rfl) ((hs.ext hu2).ext hu))
    obtain ⟨x0, x1, x2, x3, x4, x5⟩ := cells6 hb1
    have hwl : w.heap.size + 1 < W.heap.size := lt_of_heap hb2
    have HWL := Lib.hid hwl
    clear hs h hu2 hb1 hb2
    go_enter Tryz.func42, Tryz.ntmps42
    go_wp2_with fail
    simp only [← hW]
    clear hW x0 x1 x2 x3 x4 x5
    refine (HCL.out W (Upto.refl [] W)).mono ?_
    rintro e w9 ⟨na, nc, rfl, hsr, hsg, hu9⟩
    have hc1 := hu9.at HB1.out (by simp)
    have hc2 := hu9.at HB2.out (by simp)
    have HUP := Lib.hid hu9
    have HC2 := Lib.hid hc2
    have HSL : Hid (NmT w9 names (.slice na names.length nc) (w.heap.size + 2) w9.heap.size) := Lib.hid (NmT.of_row hsr rfl (fun g hg => by have := hsg g hg; have := HWL.out; omega))
    have HLT : Hid (w.heap.size = w.heap.size ∧ w.heap.size + 1 < w9.heap.size) := Lib.hid ⟨rfl, lt_of_heap hc2⟩
    obtain ⟨n0, n1, n2, n3, n4, n5⟩ := cells6 hc1
    obtain ⟨f0, f1, f2, f3, f4, f5⟩ := frees6 hc1
    have hset := set_same (set_same hc1 1 (.slice na names.length nc)) 5 (.slice none 0 0)
    simp only [List.setIfInBounds_toArray, List.set_cons_zero, List.set_cons_succ] at hset
    have HI0 : Hid (TI w w9 w.heap.size op so nn mm na names.length nc l 0 ((w9.setCell ⟨w.heap.size, 1, none⟩ (.slice na names.length nc)).setCell ⟨w.heap.size, 5, none⟩ (.slice none 0 0))) := Lib.hid
      ⟨((Upto.refl [w.heap.size] w9).setCell (p := ⟨w.heap.size, 1, none⟩) (Or.inl (by simp)) _).setCell (p := ⟨w.heap.size, 5, none⟩) (Or.inl (by simp)) _,
       (((HU2.out.trans_ext hu9).setCell (p := ⟨w.heap.size, 1, none⟩) (Or.inr (by simp)) _).setCell (p := ⟨w.heap.size, 5, none⟩) (Or.inr (by simp)) _), none, 0, 0, fun _ _ => undef, hset, ⟨by simpa [cellsN] using World.ownsRow_nil _ 0 30 6, (by intro g hg; cases hg), ⟨fun _ => (0, 0), (by simp), (by intro i j _ h; simp at h)⟩⟩⟩
    clear hsr hsg hu9 hc1 hc2 hset
    have HLS := Lib.hid hls
    have HLN : Hid (l.length ≤ 10000000) := Lib.hid (by omega)
    clear hls
    go_wp2_with fail
    generalize hll : l.length = ll at *
    have HLL := Lib.hid hll
    have hL0 : (0 : Int) ≤ ll := by omega
    have hL1 : (ll : Int) ≤ 10000000 := by have := HLN.out; omega
    clear hll n0 n1 n2 n3 n4 n5 f0 f1 f2 f3 f4 f5
    go_loopw [15] (fun v wr => ∃ j : Nat, j ≤ ll ∧ v = .int .i64 j ∧ Hid (TI w w9 w.heap.size op so nn mm na names.length nc l j wr)) (fun v _ => ll - (intOf v).toNat)
    case atStart => exact ⟨0, by omega, rfl, HI0⟩
    case round =>
      obtain ⟨j, hj, rfl, HI⟩ := hrel
      obtain ⟨va, vn, vc, c, hbk, hrow⟩ := HI.out.st
      obtain ⟨va', vc', hve, -⟩ := ownsRow_len hrow.row
      simp only [Value.slice.injEq] at hve
      have hvn : vn = j := by have := HLL.out; rw [hve.2.1, List.length_take]; omega
      clear hve
      subst hvn
      rcases Nat.lt_or_ge vn ll with hlt | hge
      · obtain ⟨x, hx⟩ : ∃ x, l[vn]? = some x := ⟨_, List.getElem?_eq_getElem (by have := HLL.out; omega)⟩
        obtain ⟨g, o, xo, xn1, xn2, xn3, xs, xm, xq, xl1, xl2, xl3, rfl, c0, c1', c2', c3, c4, c5, hn⟩ := (HLS.out.ext HI.out.old) vn x hx
        have hjl : (l.take vn).length = vn := by have := HLL.out; rw [List.length_take]; omega
        have HJL := Lib.hid hjl
        have HTK : Hid (l.take (vn + 1) = l.take vn ++ [x]) := Lib.hid (by
          obtain ⟨hi, rfl⟩ := List.getElem?_eq_some_iff.1 hx
          exact List.take_succ_eq_append_getElem hi)
        have hxs := sizesF_mem (List.mem_of_getElem? hx)
        have hu7 : Upto [] wr (wr.alloc (.cells #[.int .i64 xo, .slice xn1 xn2 xn3, .int .i64 xs, .int .i64 xm, .int .i64 xq, .slice xl1 xl2 xl3] 30)) := (Upto.refl [] wr).alloc _
        have hb7 := new_at wr (.cells #[.int .i64 xo, .slice xn1 xn2 xn3, .int .i64 xs, .int .i64 xm, .int .i64 xq, .slice xl1 xl2 xl3] 30)
        obtain ⟨W7, hW7⟩ : ∃ W7, W7 = wr.alloc (.cells #[.int .i64 xo, .slice xn1 xn2 xn3, .int .i64 xs, .int .i64 xm, .int .i64 xq, .slice xl1 xl2 xl3] 30) := ⟨_, rfl⟩
        rw [← hW7] at hu7 hb7
        have HI7 := Lib.hid (HI.out.ext hu7)
        have hbk7 := hu7.at hbk (by simp)
        have HBK := Lib.hid hbk7
        have HROW := Lib.hid (hrow.upto hu7 (by simp))
        have HC := Lib.hid (fun w1 (hu : Upto [] W7 w1) => tclone_calls k x (by omega) (by omega) (bigs_mem hbg.2 (List.mem_of_getElem? hx)) P _ w1 ((hn.ext hu7).ext hu))
        have HB7 := Lib.hid hb7
        have hltI : (vn : Int) < ll := by omega
        have hj0 : (0 : Int) ≤ vn := by omega
        clear hrow hbk hn hx hu7 hb7 hbk7
        go_wp2_with fail
        simp only [← hW7]
        clear hW7
        have y5 := cell_of HBK.out 5
        simp only [List.getElem?_toArray, List.getElem?_cons_zero, List.getElem?_cons_succ] at y5
        obtain ⟨z0, z1, z2, z3, z4, z5⟩ := cells6 HB7.out
        have e0 : ∀ u : Ext W7, u.w.cell? ⟨w.heap.size, 5, none⟩ = some (.slice va vn vc) := fun u => u.cell y5
        have k0 : ∀ u : Ext W7, u.w.cell? ⟨wr.heap.size, 0, none⟩ = some _ := fun u => u.cell z0
        have k1 : ∀ u : Ext W7, u.w.cell? ⟨wr.heap.size, 1, none⟩ = some _ := fun u => u.cell z1
        have k2 : ∀ u : Ext W7, u.w.cell? ⟨wr.heap.size, 2, none⟩ = some _ := fun u => u.cell z2
        have k3 : ∀ u : Ext W7, u.w.cell? ⟨wr.heap.size, 3, none⟩ = some _ := fun u => u.cell z3
        have k4 : ∀ u : Ext W7, u.w.cell? ⟨wr.heap.size, 4, none⟩ = some _ := fun u => u.cell z4
        have k5 : ∀ u : Ext W7, u.w.cell? ⟨wr.heap.size, 5, none⟩ = some _ := fun u => u.cell z5
        clear y5 z0 z1 z2 z3 z4 z5 c0 c1' c2' c3 c4 c5
        refine wp_region_seg_at [3, 4] [] [0, 1, 2, 3, 4] [5, 6, 7] 5 (by kernel_rfl) (by kernel_rfl) (by kernel_rfl) ?_
        iterate 3 (refine seg_plain rfl rfl rfl rfl rfl ?_; intro K' hK'; go_big_quiet_op; go_big_quiet_on)
        refine seg_callO (Y := (Int × Option Addr × Nat × Nat) × Int × Int × Int × Option Addr × Nat × Nat) (fun y => .agg #[.int .i64 y.1.1, .slice y.1.2.1 y.1.2.2.1 y.1.2.2.2, .int .i64 y.2.1, .int .i64 y.2.2.1, .int .i64 y.2.2.2.1, .slice y.2.2.2.2.1 y.2.2.2.2.2.1 y.2.2.2.2.2.2]) (fun y u => KdP W7 x (.agg #[.int .i64 y.1.1, .slice y.1.2.1 y.1.2.2.1 y.1.2.2.2, .int .i64 y.2.1, .int .i64 y.2.2.1, .int .i64 y.2.2.2.1, .slice y.2.2.2.2.1 y.2.2.2.2.2.1 y.2.2.2.2.2.2]) u) (fun _ => []) rfl rfl rfl rfl (fun _ _ _ h hu => h.ext hu) (fun _ => List.nodup_nil) (fun w => by go_simp) (fun w' hu hd => (HC.out w' hu).mono fun e w2 ⟨v, h1, h2, h3⟩ => by
          obtain ⟨ro, rn1, rn2, rn3, rs, rm, rq, rl1, rl2, rl3, rfl⟩ := (h2.ndv _ _ _ _).six
          exact ⟨((ro, rn1, rn2, rn3), rs, rm, rq, rl1, rl2, rl3), h1, h3, ⟨w'.heap.size, w2.heap.size, hu.size, h3.size, Nat.le_refl _, h2⟩, fun b hb => by cases hb⟩) ?_
        rintro ⟨⟨ro, rn1, rn2, rn3⟩, rs, rm, rq, rl1, rl2, rl3⟩
        simp only [Act.put, List.setIfInBounds_toArray, List.set_cons_zero, List.set_cons_succ]
        refine seg_opq (Y := Nat) (fun b => .slice (some ⟨b, 0, none⟩) 1 1) (fun b u => u.heap[b]? = some (.cells #[.int .i64 ro, .slice rn1 rn2 rn3, .int .i64 rs, .int .i64 rm, .int .i64 rq, .slice rl1 rl2 rl3] 30 (0, 0))) (fun _ => []) rfl rfl rfl rfl (fun _ _ _ h hu => hu.at h (by simp)) (fun _ => List.nodup_nil) (fun w' post hu hd hp => (congrArg (opqUpon Tryz.prog post) (show _ = Result.ok (Next.value (.slice (some ⟨w'.heap.size, 0, none⟩) 1 1)) (w'.alloc (.cells #[.int .i64 ro, .slice rn1 rn2 rn3, .int .i64 rs, .int .i64 rm, .int .i64 rq, .slice rl1 rl2 rl3] 30)) from by go_simp)).mpr (hp w'.heap.size _ ((Upto.refl [] w').alloc _) (new_at _ _) (fun b hb => by cases hb))) ?_
        intro b8
        simp only [Act.put, List.setIfInBounds_toArray, List.set_cons_zero, List.set_cons_succ]
        intro w10 hg
        have HU10 := Lib.hid hg.up
        have HB8 : Hid (w10.heap[b8]? = some (.cells #[.int .i64 ro, .slice rn1 rn2 rn3, .int .i64 rs, .int .i64 rm, .int .i64 rq, .slice rl1 rl2 rl3] 30 (0, 0))) := Lib.hid hg.hold.1
        have HND : Hid (KdP W7 x (.agg #[.int .i64 ro, .slice rn1 rn2 rn3, .int .i64 rs, .int .i64 rm, .int .i64 rq, .slice rl1 rl2 rl3]) w10) := Lib.hid hg.hold.2.1
        simp only [List.drop_succ_cons, List.drop_zero]
        clear hg e0 k0 k1 k2 k3 k4 k5
        have HR10 := Lib.hid (HROW.out.upto HU10.out (by simp))
        have hr10 := HR10.out.row
        rw [hjl] at hr10
        have HRR := Lib.hid hr10
        obtain ⟨i1, hi1, hy0, hy1, hy2⟩ := info59'
        have hL7 := HLN.out
        have HA := Lib.hid (fun b5 c5 w5 (ho5 : w5.ownsRow 0 30 6 (.slice b5 (vn + 1) c5) (vn + 1) (cellsN c vn ++ [.int .i64 ro, .slice rn1 rn2 rn3, .int .i64 rs, .int .i64 rm, .int .i64 rq, .slice rl1 rl2 rl3])) (hu5 : Upto (Value.slice va vn vc).ownBlock.toList w10 w5) (hw5 : ∀ g, (Value.slice b5 (vn + 1) c5).ownBlock = some g → (Value.slice va vn vc).ownBlock = some g ∨ w10.heap.size ≤ g) => tcl_step HI7.out ⟨Nat.le_refl _, by have := HLT.out.2; omega⟩ HBK.out HROW.out HU10.out HND.out HJL.out HTK.out ho5 hu5 hw5)
        clear hr10 hjl
        go_wp2_with (at_builtin
                     refine wpList_app _ rfl (.tmp 20) (.tmp 23) 28 rfl 30 i1 (.agg #[.int .i64 0, .slice none 0 0, .int .i64 0, .int .i64 0, .int .i64 0, .slice none 0 0]) 6 80 Tryz.underlying28 hi1 hy0 hy1 hy2 rfl (by decide) (.slice va vn vc) vn (cellsN c vn) rfl HRR.out ⟨b8, 0, none⟩ 1 1 [.int .i64 ro, .slice rn1 rn2 rn3, .int .i64 rs, .int .i64 rm, .int .i64 rq, .slice rl1 rl2 rl3] rfl rfl (six_at HB8.out) (by simp [Value.oneCell']) (by unfold maxLen; omega) (by omega) ?_
                     intro b5 c5 w5 ho5 hu5 hw5
                     obtain ⟨hbk5, hI5⟩ := HA.out b5 c5 w5 ho5 hu5 hw5
                     have y5 := cell_of hbk5 5
                     have g5 := free_of hbk5 5
                     simp only [List.getElem?_toArray, List.getElem?_cons_zero, List.getElem?_cons_succ] at y5
                     have HI5 := Lib.hid hI5
                     clear ho5 hu5 hw5 hbk5 hI5)
        go_roundw
        case rel => exact ⟨vn + 1, by omega, by go_num, HI5⟩
        case measure => simp [intOf]; omega
      · obtain rfl : vn = ll := by omega
        have hgeI : ¬ ((vn : Int) < vn) := by omega
        have HROW := Lib.hid hrow
        have hz2 := HI.out.up.at HC2.out (by simp)
        have HZ2 := Lib.hid hz2
        obtain ⟨p0, p1, p2, p3, p4, p5⟩ := cells6 hbk
        obtain ⟨r0, r1, r2, r3, r4, r5⟩ := cells6 hz2
        obtain ⟨t0, t1, t2, t3, t4, t5⟩ := frees6 hz2
        have hF := tcl_end (names := names) HI.out ⟨rfl, HLT.out.2⟩ HSL.out HROW.out (List.take_of_length_le (by have := HLL.out; omega)) HLL.out
        have HF := Lib.hid hF
        clear hrow hbk hz2 hF
        go_wp2_with fail
        have hst := nd_store HZ2.out (.int .i64 op) (.slice na names.length nc) (.int .i64 so) (.int .i64 nn) (.int .i64 mm) (.slice va vn vc)
        obtain ⟨q0, q1, q2, q3, q4, q5⟩ := cells6 hst
        exact bodyPost_ret (v := .agg #[.int .i64 op, .slice na names.length nc, .int .i64 so, .int .i64 nn, .int .i64 mm, .slice va vn vc]) (by simp [results, Tryz.results42, go_sem, q0, q1, q2, q3, q4, q5]) rfl HF.out
end Go.Proofs.YtbnebkkpmcjmbaaGreatDoor


namespace Go.Proofs.YtbnebkkpmcjmbaaGreatDoor
open Go.RowKit Go.PL Go.Maps
/-- operand j in its own blocks [k, m), and what holds once it has changed there and nothing else has -/
theorem OwTs.at {w : World} : ∀ (l : List Nd) (cs : Array Value) (o g lo hi j : Nat) (x : Nd), OwTs w l cs o g lo hi → l[j]? = some x →
    ∃ v0 v1 v2 v3 v4 v5 k m, cs[o + 6 * j]? = some v0 ∧ cs[o + 6 * j + 1]? = some v1 ∧ cs[o + 6 * j + 2]? = some v2 ∧ cs[o + 6 * j + 3]? = some v3 ∧ cs[o + 6 * j + 4]? = some v4 ∧ cs[o + 6 * j + 5]? = some v5 ∧ lo ≤ k ∧ k ≤ m ∧ m ≤ hi ∧ (g < k ∨ m ≤ g) ∧ OwT w x (.agg #[v0, v1, v2, v3, v4, v5]) k m ∧
      ∀ (w' : World) (x' : Nd), OwT w' x' (.agg #[v0, v1, v2, v3, v4, v5]) k m → (∀ b, lo ≤ b → b < hi → (b < k ∨ m ≤ b) → w'.heap[b]? = w.heap[b]?) → OwTs w' (l.set j x') cs o g lo hi
  | [], _, _, _, _, _, _, _, _, hj => by simp at hj
  | y :: ys, cs, o, g, lo, hi, 0, x, h, hj => by
    unfold OwTs at h
    obtain ⟨v0, v1, v2, v3, v4, v5, k, m, c0, c1, c2, c3, c4, c5, h1, h2, h3, h4, h5, h6⟩ := h
    cases hj
    refine ⟨v0, v1, v2, v3, v4, v5, k, m, c0, c1, c2, c3, c4, c5, h1, h2, h3, h4, h5, fun w' x' hx hs => ?_⟩
    rw [List.set_cons_zero]
    unfold OwTs
    exact ⟨v0, v1, v2, v3, v4, v5, k, m, c0, c1, c2, c3, c4, c5, h1, h2, h3, h4, hx, OwTs.same ys cs (o + 6) g m hi h6 (fun b hb hb2 => hs b (by omega) hb2 (Or.inr hb))⟩
  | y :: ys, cs, o, g, lo, hi, j + 1, x, h, hj => by
    unfold OwTs at h
    obtain ⟨u0, u1, u2, u3, u4, u5, k, m, c0, c1, c2, c3, c4, c5, h1, h2, h3, h4, h5, h6⟩ := h
    obtain ⟨v0, v1, v2, v3, v4, v5, k', m', d0, d1, d2, d3, d4, d5, i1, i2, i3, i4, i5, i6⟩ := OwTs.at ys cs (o + 6) g m hi j x h6 (by simpa using hj)
    have ho : o + 6 * (j + 1) = o + 6 + 6 * j := by omega
    rw [ho]
    refine ⟨v0, v1, v2, v3, v4, v5, k', m', d0, d1, d2, d3, d4, d5, by omega, i2, i3, i4, i5, fun w' x' hx hs => ?_⟩
    rw [List.set_cons_succ]
    unfold OwTs
    exact ⟨u0, u1, u2, u3, u4, u5, k, m, c0, c1, c2, c3, c4, c5, h1, h2, h3, h4, OwT.same y _ k m h5 (fun b hb hb2 => hs b (by omega) (by omega) (Or.inl (by omega))), i6 w' x' hx (fun b hb hb2 hb3 => hs b (by omega) hb2 hb3)⟩
/-- the j-th name is written anew -/
theorem NmT.set {w : World} {nms : List (List UInt8)} {g o c lo m : Nat} {j : Nat} {x : List UInt8} (h : NmT w nms (.slice (some ⟨g, o, none⟩) nms.length c) lo m) (hj : j < nms.length) :
    NmT (w.setCell ⟨g, o + j, none⟩ (sV x)) (nms.set j x) (.slice (some ⟨g, o, none⟩) nms.length c) lo m := by
  rcases h with ⟨rfl, -⟩ | ⟨g', o', c', cs, t, e, h1, h2, h3, h4, h5⟩
  · simp at hj
  · simp only [Value.slice.injEq, Option.some.injEq, Addr.mk.injEq] at e
    obtain ⟨⟨rfl, rfl, -⟩, -, rfl⟩ := e
    refine Or.inr ⟨g, o, c, cs.setIfInBounds (o + j) (sV x), t, by rw [List.length_set], by rw [List.length_set]; exact h1, h2, h3, ?_, fun i y hi => ?_⟩
    · simp only [World.setCell]
      rw [Array.getElem?_modify, if_pos rfl, h4]
      rfl
    · rw [Array.getElem?_setIfInBounds]
      rw [List.getElem?_set] at hi
      by_cases hij : j = i
      · subst hij
        rw [if_pos rfl, if_pos hj] at hi
        cases hi
        have hb : (cs[o + j]?) = some (sV nms[j]) := h5 j _ (List.getElem?_eq_getElem hj)
        rw [if_pos rfl, if_pos (Array.getElem?_eq_some_iff.1 hb).1]
      · rw [if_neg hij] at hi
        rw [if_neg (by omega)]
        exact h5 i y hi
end Go.Proofs.YtbnebkkpmcjmbaaGreatDoor


namespace Go.Proofs.YtbnebkkpmcjmbaaGreatDoor
open Go.RowKit Go.PL Go.Maps
def UsA (op : Int) (nms : List (List UInt8)) (a1 : Option Addr) (w : World) (e : Ending) (w' : World) : Prop := ∃ v, e = .returned v ∧ Upto [] w w' ∧
  ((usesF op nms = [] ∧ ∃ a c, v = .slice a 0 c) ∨ ∃ g o c k, v = .slice (some ⟨g, o + k, none⟩) (usesF op nms).length c ∧ a1 = some ⟨g, o, none⟩ ∧ k = (if op = 10 then 1 else 0) ∧ (usesF op nms).length + k = nms.length ∧ (usesF op nms).length ≤ c)
set_option maxRecDepth 100000 in
set_option maxHeartbeats 1600000 in
theorem usesA_calls (P : Nat → Prop) (op : Int) (nms : List (List UInt8)) (a1 : Option Addr) (c1 : Nat) (so nn mm : Int) (a2 : Option Addr) (n2 c2 : Nat) (w : World) (hg : op = 10 → 0 < nms.length) (hs : SlP w P (.slice a1 nms.length c1) nms.length (nms.map sV)) (hl : nms.length ≤ 10000000) : Calls Tryz.prog 74 #[.agg #[.int .i64 op, .slice a1 nms.length c1, .int .i64 so, .int .i64 nn, .int .i64 mm, .slice a2 n2 c2]] w (UsA op nms a1 w) := by
  have HU := Lib.hid ((Upto.refl [] w).alloc (.cells #[.int .i64 op, .slice a1 nms.length c1, .int .i64 so, .int .i64 nn, .int .i64 mm, .slice a2 n2 c2] 30))
  by_cases h10 : op = 10
  · subst h10
    have h0 := hg rfl
    cases nms with
    | nil => simp at h0
    | cons x r =>
      rcases hs with ⟨hz, -⟩ | ⟨g, o, c', e, ⟨hp, hi, hnc⟩, hc⟩
      · simp at hz
      have hs : SlP w P (.slice (some ⟨g, o, none⟩) (x :: r).length c') (x :: r).length ((x :: r).map sV) := Or.inr ⟨g, o, c', rfl, ⟨hp, hi, hnc⟩, hc⟩
      simp only [Value.slice.injEq] at e
      obtain ⟨rfl, -, rfl⟩ := e
      simp only [List.length_cons] at hnc hl
      rw [List.length_cons] at HU ⊢
      generalize hn : r.length = n at *
      have hn1 : (n : Int) + 1 ≤ 10000000 := by omega
      have hn0 : (0 : Int) ≤ n := by omega
      have hmin : min ((n : Int) + 1) 1 = 1 := by omega
      have HS := Lib.hid hs
      have HN := Lib.hid hn
      clear hc hs hi hp hg h0 hn
      by_cases h1 : c1 = 1
      · subst h1
        have h00 : n = 0 := by omega
        subst h00
        go_enter Tryz.func74, Tryz.ntmps74
        go_wp2_with fail
        go_ret
        have hr : r = [] := List.eq_nil_of_length_eq_zero HN.out
        subst hr
        exact ⟨_, rfl, HU.out, Or.inl ⟨by simp [usesF], _, _, rfl⟩⟩
      · obtain ⟨cc, rfl⟩ : ∃ cc, c1 = cc + 2 := ⟨c1 - 2, by omega⟩
        go_enter Tryz.func74, Tryz.ntmps74
        go_wp2_with fail
        go_ret
        have e := HN.out
        subst e
        have HE : usesF 10 (x :: r) = r := by simp [usesF]
        unfold UsA
        rw [HE]
        exact ⟨_, rfl, HU.out, Or.inr ⟨g, o, _, 1, rfl, rfl, by simp, by simp, by omega⟩⟩
  · have e10 : (op == 10) = false := by simpa using h10
    by_cases h2 : op < 2
    · have e2 : ¬ 2 ≤ op := by omega
      have HE : Hid (usesF op nms = []) := Lib.hid (by unfold usesF; rw [if_neg h10, if_neg (by omega)])
      clear hs hg
      go_enter Tryz.func74, Tryz.ntmps74
      go_wp2_with fail
      go_ret
      unfold UsA
      rw [HE.out]
      exact ⟨_, rfl, HU.out, Or.inl ⟨rfl, _, _, rfl⟩⟩
    · by_cases h3 : op < 10
      · have e2 : 2 ≤ op := by omega
        have HE : Hid (usesF op nms = nms) := Lib.hid (by unfold usesF; rw [if_neg h10, if_pos (by omega)])
        have HS := Lib.hid (hs.ext HU.out)
        clear hs hg
        go_enter Tryz.func74, Tryz.ntmps74
        go_wp2_with fail
        go_ret
        unfold UsA
        rw [HE.out]
        rcases HS.out with ⟨h0, h1, a, c, e⟩ | ⟨g, o, c, e, ⟨-, -, hc⟩, -⟩
        · exact ⟨_, rfl, HU.out, Or.inl ⟨List.eq_nil_of_length_eq_zero (by simpa using h0), _, _, e⟩⟩
        · simp only [Value.slice.injEq] at e
          obtain ⟨rfl, -, rfl⟩ := e
          exact ⟨_, rfl, HU.out, Or.inr ⟨g, o, _, 0, rfl, rfl, by rw [if_neg h10], by simp, hc⟩⟩
      · have e2 : 2 ≤ op := by omega
        have HE : Hid (usesF op nms = []) := Lib.hid (by unfold usesF; rw [if_neg h10, if_neg (by omega)])
        clear hs hg
        go_enter Tryz.func74, Tryz.ntmps74
        go_wp2_with fail
        go_ret
        unfold UsA
        rw [HE.out]
        exact ⟨_, rfl, HU.out, Or.inl ⟨rfl, _, _, rfl⟩⟩
end Go.Proofs.YtbnebkkpmcjmbaaGreatDoor


namespace Go.Proofs.YtbnebkkpmcjmbaaGreatDoor
open Go.PL
def mapAt {α : Type} (f : α → α) (k i : Nat) (l : List α) : List α := l.mapIdx fun j x => if k ≤ j ∧ j < k + i then f x else x
theorem mapAt_len {α : Type} (f : α → α) (k i : Nat) (l : List α) : (mapAt f k i l).length = l.length := by simp [mapAt]
theorem mapAt_zero {α : Type} (f : α → α) (k : Nat) (l : List α) : mapAt f k 0 l = l := by
  apply List.ext_getElem?
  intro j
  simp only [mapAt, List.getElem?_mapIdx]
  cases l[j]? with
  | none => rfl
  | some x =>
    simp only [Option.map_some]
    rw [if_neg (by omega)]
theorem mapAt_get {α : Type} (f : α → α) (k i : Nat) (l : List α) : (mapAt f k i l)[k + i]? = l[k + i]? := by
  simp only [mapAt, List.getElem?_mapIdx]
  cases l[k + i]? with
  | none => rfl
  | some x =>
    simp only [Option.map_some]
    rw [if_neg (by omega)]
theorem mapAt_next {α : Type} {f : α → α} {k i : Nat} {l : List α} {x : α} (h : l[k + i]? = some x) : mapAt f k (i + 1) l = (mapAt f k i l).set (k + i) (f x) := by
  apply List.ext_getElem?
  intro j
  rw [List.getElem?_set]
  have hlt : k + i < l.length := (List.getElem?_eq_some_iff.1 h).1
  by_cases hj : k + i = j
  · subst hj
    rw [if_pos rfl, mapAt_len, if_pos hlt]
    simp only [mapAt, List.getElem?_mapIdx, h, Option.map_some]
    rw [if_pos (by omega)]
  · rw [if_neg hj]
    simp only [mapAt, List.getElem?_mapIdx]
    cases l[j]? with
    | none => rfl
    | some y =>
      simp only [Option.map_some]
      by_cases hc : k ≤ j ∧ j < k + i
      · rw [if_pos hc, if_pos (by omega)]
      · rw [if_neg hc, if_neg (by omega)]
/-- an item that stays is no change -/
theorem mapAt_stay {α : Type} {f : α → α} {k i : Nat} {l : List α} {x : α} (h : l[k + i]? = some x) (hf : f x = x) : mapAt f k (i + 1) l = mapAt f k i l := by
  rw [mapAt_next h, hf]
  apply List.ext_getElem?
  intro j
  rw [List.getElem?_set]
  by_cases hj : k + i = j
  · subst hj
    rw [if_pos rfl, mapAt_len, if_pos (List.getElem?_eq_some_iff.1 h).1, mapAt_get, h]
  · rw [if_neg hj]
theorem mapAt_all {α : Type} (f : α → α) (l : List α) : mapAt f 0 l.length l = l.map f := by
  apply List.ext_getElem?
  intro j
  simp only [mapAt, List.getElem?_mapIdx, List.getElem?_map]
  cases hx : l[j]? with
  | none => rfl
  | some x =>
    have := (List.getElem?_eq_some_iff.1 hx).1
    simp only [Option.map_some]
    rw [if_pos (by omega)]
theorem mapAt_uses {op : Int} {f : List UInt8 → List UInt8} {nms : List (List UInt8)} {k : Nat} (hk : k = (if op = 10 then 1 else 0)) (h0 : 0 < (usesF op nms).length) : mapAt f k (usesF op nms).length nms = rnUses op f nms := by
  by_cases h10 : op = 10
  · subst h10
    rw [if_pos rfl] at hk
    subst hk
    cases nms with
    | nil => simp [usesF] at h0
    | cons x r =>
      simp only [usesF, rnUses, if_true, List.drop_succ_cons, List.drop_zero, List.take_succ_cons, List.take_zero, List.cons_append, List.nil_append]
      apply List.ext_getElem?
      intro j
      cases j with
      | zero => simp [mapAt]
      | succ j =>
        simp only [mapAt, List.getElem?_mapIdx, List.getElem?_cons_succ, List.getElem?_map]
        cases hx : r[j]? with
        | none => rfl
        | some y =>
          have := (List.getElem?_eq_some_iff.1 hx).1
          simp only [Option.map_some]
          rw [if_pos (by omega)]
  · rw [if_neg h10] at hk
    subst hk
    unfold usesF at h0 ⊢
    unfold rnUses
    rw [if_neg h10] at h0 ⊢
    rw [if_neg h10]
    by_cases h2 : 2 ≤ op ∧ op < 10
    · rw [if_pos h2] at h0 ⊢
      rw [if_pos h2]
      exact mapAt_all f nms
    · rw [if_neg h2] at h0
      simp at h0
theorem rnUses_none {op : Int} {f : List UInt8 → List UInt8} {nms : List (List UInt8)} (h0 : usesF op nms = []) : rnUses op f nms = nms := by
  unfold usesF at h0
  unfold rnUses
  by_cases h10 : op = 10
  · rw [if_pos h10] at h0 ⊢
    rw [h0]
    have := List.take_append_drop 1 nms
    rw [h0] at this
    simpa using this
  · rw [if_neg h10] at h0 ⊢
    by_cases h2 : 2 ≤ op ∧ op < 10
    · rw [if_pos h2] at h0 ⊢
      rw [h0]
      rfl
    · rw [if_neg h2]
end Go.Proofs.YtbnebkkpmcjmbaaGreatDoor


namespace Go.Proofs.YtbnebkkpmcjmbaaGreatDoor
open Go.RowKit Go.PL Go.Maps
/-- in memory that is there -/
theorem NdV.here {w : World} {P : Nat → Prop} {nd : Nd} {v : Value} (h : NdV w P nd v) : NdV w (fun b => b < w.heap.size) nd v := h.mono (fun _ _ hc => hc.lt)
end Go.Proofs.YtbnebkkpmcjmbaaGreatDoor


namespace Go.Proofs.YtbnebkkpmcjmbaaGreatDoor
open Go.RowKit Go.PL Go.Maps
/-- the list that Bound grows, in the cell of block B -/
def BoJ (w0 : World) (B : Nat) (ls : List (List UInt8)) (r : Nat) (O : List Nat) (u : World) : Prop := ∃ (va : Option Addr) (m vc : Nat), u.heap[B]? = some (.cells #[.slice va m vc] 22 (0, 0)) ∧ u.ownsRow 0 9 1 (.slice va m vc) ls.length (ls.map sV) ∧ m = ls.length ∧ O = (Value.slice va m vc).ownBlock.toList ∧ w0.heap.size ≤ u.heap.size ∧ (∀ g ∈ O, w0.heap.size ≤ g) ∧ ls.length + r ≤ 200000
theorem BoJ.one {w0 : World} {B : Nat} {s : List (List UInt8)} {r : Nat} {O : List Nat} {u : World} (h : BoJ w0 B s r O u) : w0.heap.size ≤ u.heap.size ∧ ∀ g ∈ O, g < u.heap.size ∧ w0.heap.size ≤ g := by
  obtain ⟨va, m, vc, h1, h2, h3, rfl, h5, h6, h7⟩ := h
  exact ⟨h5, fun g hg => ⟨own_lt h2 g hg, h6 g hg⟩⟩
theorem BoJ.ext {w0 : World} {B : Nat} {s : List (List UInt8)} {r : Nat} {O : List Nat} {u u' : World} (h : BoJ w0 B s r O u) (hu : Upto [] u u') : BoJ w0 B s r O u' := by
  obtain ⟨va, m, vc, h1, h2, h3, h4, h5, h6, h7⟩ := h
  exact ⟨va, m, vc, hu.at h1 (by simp), ownsRow_upto h2 hu (by simp), h3, h4, Nat.le_trans h5 hu.size, h6, h7⟩
end Go.Proofs.YtbnebkkpmcjmbaaGreatDoor


namespace Go.Proofs.YtbnebkkpmcjmbaaGreatDoor
open Go.RowKit Go.PL Go.Maps
open Go.Lib (decDigits decDigits_one)
/-- the table of the powers of ten -/
def PowT (w : World) : Prop := Lib.TabIs Tryz.prog w "internal/strconv.uint64pow10" .u64 Lib.pow10Tab
theorem PowT.ext {w w' : World} (h : PowT w) (hu : Upto [] w w') : PowT w' := Lib.tabBelow_of_tabIs h w' hu.ext
theorem itoaG_calls (n : Nat) (h : n < 10000) (w : World) (ht : PowT w) : Calls Tryz.prog 53 #[.int .i64 n] w fun e w' => e = .returned (.string ⟨(decDigits n).toArray⟩) ∧ Upto [] w w' :=
  (Tryz.strconv_Itoa n (by omega) (by omega) w ht).mono fun e w' ⟨h1, k, os, h2⟩ => ⟨by rw [h1, Lib.itoa_nonneg], by rw [h2]; exact Upto.of_below (Lib.below_grow _ _ (Nat.le_refl _) _ _)⟩
theorem decDigits_len (j : Nat) (h : j < 10000) : 1 ≤ (decDigits j).length ∧ (decDigits j).length ≤ 4 := by
  obtain ⟨b, t, e, ht, -⟩ := decDigits_dig 3 j (by omega)
  rw [e]
  simp
  omega
theorem candG_get (s : List UInt8) (j d : Nat) (hd : (decDigits j).length = d) (_hs : s.length ≤ 16) : candG s j = s.take (min s.length (16 - d)) ++ decDigits j := by
  unfold candG
  rw [hd]
  congr 1
  rcases Nat.le_total s.length (16 - d) with h | h
  · rw [Nat.min_eq_left h, List.take_of_length_le h, List.take_of_length_le (Nat.le_refl _)]
  · rw [Nat.min_eq_right h]
theorem freshG_end {s o : List UInt8} {tk : List (List UInt8)} {K j : Nat} (hK : K = freeFromG s tk 9998 2) (hn : nameF s = true) (hc : tk.contains o = false) (hsp : ∀ k, 2 ≤ k → k < K → tk.contains (candG s k) = true)
    (h : (j = 2 ∧ o = s) ∨ (2 < j ∧ o = candG s (j - 1) ∧ tk.contains s = true ∧ j - 1 ≤ K)) : freshG s tk = o := by
  have e1 : ¬ nameF s = false := by rw [hn]; simp
  unfold freshG
  rw [if_neg e1, ← hK]
  rcases h with ⟨h1, h2⟩ | ⟨h1, h2, h3, h4⟩
  · rw [h2] at hc
    rw [if_pos hc, h2]
  · have e2 : ¬ tk.contains s = false := by rw [h3]; simp
    rw [if_neg e2, h2]
    rcases Nat.eq_or_lt_of_le h4 with h5 | h5
    · rw [h5]
    · have := hsp (j - 1) (by omega) h5
      rw [← h2, hc] at this
      cases this
set_option maxRecDepth 100000 in
set_option maxHeartbeats 3200000 in
theorem freshPG_calls (s : List UInt8) (tk : List (List UInt8)) (v : Value) (w : World) (P : Nat → Prop) (h : SlP w P v tk.length (tk.map sV)) (hl : tk.length ≤ 8000) (hs : s.length ≤ 281474976710656) (he : Env w) (ht : PowT w) : Calls Tryz.prog 18 #[.string ⟨s.toArray⟩, v] w fun e w' => e = .returned (.string ⟨(freshG s tk).toArray⟩) ∧ Upto [] w w' := by
  have HID := Lib.hid (fun (x : List UInt8) (u : World) (hu : Upto [] w u) (hx : x.length ≤ 281474976710656) => isIdent_calls x u (he.ext hu) hx)
  have HCO := Lib.hid (fun (x : List UInt8) (u : World) (hu : Upto [] w u) => containsS_calls tk x v u P (h.ext hu) (by omega))
  have HPT := Lib.hid ht
  have HF0 := freeFromG_spec s tk 9998 2
  have HK0 := freeG_lt s tk hl
  have HI0 := freeG_is s tk hl
  have HFE0 := fun (o : List UInt8) (j : Nat) (hn : nameF s = true) (hc : tk.contains o = false) => freshG_end (o := o) (j := j) rfl hn hc HF0.2.2.1
  generalize freeFromG s tk 9998 2 = K at *
  have HF := Lib.hid (And.intro HF0.1 HF0.2.2.1)
  have HK := Lib.hid HK0
  have HI := Lib.hid HI0
  have HFE := Lib.hid HFE0
  have HFN := Lib.hid (fun hn : nameF s = false => freshG_no (tk := tk) hn)
  generalize freshG s tk = R at *
  clear HF0 HK0 HI0 HFE0
  obtain ⟨a, c, rfl⟩ := h.len
  cases hn : nameF s with
  | false =>
    have HE : Hid (R = []) := Lib.hid (HFN.out hn)
    have HN : Hid (identF s = false) := Lib.hid (by rw [ident_is]; exact hn)
    clear h
    go_enter Tryz.func18, Tryz.ntmps18
    go_wp2_with fail
    refine (HID.out s _ (Upto.refl _ _) hs).mono ?_
    rintro e w1 ⟨rfl, hu1⟩
    rw [HN.out]
    have HU := Lib.hid hu1
    clear hu1
    go_wp2_with fail
    go_ret
    exact ⟨by rw [HE.out]; rfl, HU.out⟩
  | true =>
    have HN : Hid (identF s = true) := Lib.hid (by rw [ident_is]; exact hn)
    have HNN := Lib.hid hn
    obtain ⟨b, t, -, -, -, hl16⟩ := name_parts hn
    clear h b t hn
    generalize hS : s = s0 at *
    go_enter Tryz.func18, Tryz.ntmps18
    go_wp2_with fail
    refine (HID.out s0 _ (Upto.refl _ _) hs).mono ?_
    rintro e w1 ⟨rfl, hu1⟩
    rw [HN.out]
    have HU := Lib.hid hu1
    clear hu1
    go_wp2_with fail
    obtain ⟨M, hM⟩ : ∃ M : Nat, M = 20000 := ⟨_, rfl⟩
    have HM := Lib.hid hM
    clear hM
    go_loopw [5, 6] (fun vo vi wr => ∃ (j : Nat) (o : List UInt8), vo = .string ⟨o.toArray⟩ ∧ vi = .int .i64 j ∧ Hid (2 ≤ j ∧ ((j = 2 ∧ o = s0) ∨ (2 < j ∧ o = candG s0 (j - 1) ∧ tk.contains s0 = true ∧ j - 1 ≤ K)) ∧ Upto [] w wr)) (fun _ vi _ => M - (intOf vi).toNat)
    case atStart => exact ⟨2, s0, rfl, rfl, Lib.hid ⟨Nat.le_refl _, Or.inl ⟨rfl, rfl⟩, HU.out⟩⟩
    case round =>
      obtain ⟨j, o, rfl, rfl, HJ⟩ := hrel
      have HOL : Hid (o.length ≤ 16 ∧ nameF o = true ∧ j < 10001) := Lib.hid (by
        rcases HJ.out.2.1 with ⟨h1, rfl⟩ | ⟨h1, rfl, -, h2⟩
        · exact ⟨hl16, HNN.out, by omega⟩
        · have hc := candG_name s0 HNN.out (j - 1) (by have := HK.out; omega)
          obtain ⟨b, t, -, -, -, h3⟩ := name_parts hc
          exact ⟨h3, hc, by have := HK.out; omega⟩)
      go_wp2_with fail
      refine (HCO.out o _ HJ.out.2.2).mono ?_
      rintro e w2 ⟨rfl, rfl⟩
      cases hc : tk.contains o with
      | true =>
        have hjK : Hid (j ≤ K ∧ j < 10000 ∧ tk.contains s0 = true) := Lib.hid (by
          rcases HJ.out.2.1 with ⟨h1, h2⟩ | ⟨h1, h2, h3, h4⟩
          · rw [h2] at hc
            exact ⟨by have := HF.out.1; omega, by omega, hc⟩
          · rcases Nat.eq_or_lt_of_le h4 with h5 | h5
            · rw [h2, h5, HI.out] at hc
              cases hc
            · exact ⟨by omega, by have := HK.out; omega, h3⟩)
        have hd := decDigits_len j hjK.out.2.1
        have HIT := Lib.hid (fun u (hu : Upto [] w u) => itoaG_calls j hjK.out.2.1 u (HPT.out.ext hu))
        have HCG := Lib.hid (candG_get s0 j _ rfl hl16)
        have HJ2 := HJ.out.1
        clear hc
        go_wp2_with fail
        refine (HIT.out _ HJ.out.2.2).mono ?_
        rintro e w3 ⟨rfl, hu3⟩
        have HU3 := Lib.hid hu3
        clear hu3
        generalize hD : decDigits j = D at *
        have hDl0 : (D.length : Int) ≤ 4 := by omega
        have hDl1 : (1 : Int) ≤ D.length := by omega
        have hsl : (s0.length : Int) ≤ 16 := by omega
        go_wp2_with fail
        have hj100 := hjK.out.2.1
        have hw : wrap64 ((j : Int) + 1) = ((j + 1 : Nat) : Int) := by unfold wrap64; omega
        refine ⟨⟨j + 1, candG s0 j, ?_, by rw [hw], Lib.hid ⟨by omega, Or.inr ⟨by omega, by rw [Nat.add_sub_cancel], hjK.out.2.2, by rw [Nat.add_sub_cancel]; exact hjK.out.1⟩, HJ.out.2.2.trans_ext HU3.out⟩⟩, ?_⟩
        · have he := ext_to (s := s0) 0 (min s0.length (16 - D.length))
          rw [Nat.zero_add, List.drop_zero] at he
          rw [show (min (↑s0.length) (16 - (D.length : Int))).toNat = min s0.length (16 - D.length) by omega, he, ← byte_app, ← HCG.out]
        · exact meas_up (by have := HM.out; omega) hw
      | false =>
        have HE : Hid (R = o) := Lib.hid (HFE.out o j HNN.out hc HJ.out.2.1)
        have HNO : Hid (identF o = true) := Lib.hid (by rw [ident_is]; exact HOL.out.2.1)
        have HOI := Lib.hid (HID.out o w2 HJ.out.2.2 (by have := HOL.out.1; omega))
        clear hc
        go_wp2_with fail
        refine HOI.out.mono ?_
        rintro e w3 ⟨rfl, hu3⟩
        rw [HNO.out]
        have HU3 := Lib.hid hu3
        clear hu3
        go_wp2_with fail
        go_ret
        exact ⟨by rw [HE.out]; rfl, HJ.out.2.2.trans_ext HU3.out⟩
end Go.Proofs.YtbnebkkpmcjmbaaGreatDoor


namespace Go.Proofs.YtbnebkkpmcjmbaaGreatDoor
open Go.RowKit Go.PL Go.Maps
set_option maxRecDepth 100000 in
set_option maxHeartbeats 3200000 in
theorem FreeT_calls (nd : Nd) (v : Value) (w : World) (P : Nat → Prop) (h : NdV w P nd v) (hk : sizeF nd ≤ 100000) (hg : goodN nd) (hn : nmsF nd ≤ 200000) : Calls Tryz.prog 19 #[v] w (fun e w' => ∃ v, e = .returned v ∧ TxI w (freeP nd [] []) v w') := by
  obtain ⟨op, a1, n1, c1, so, nn, mm, a2, n2, c2, rfl⟩ := h.six
  obtain ⟨W, hW⟩ : ∃ W, W = w.alloc (.cells #[.int .i64 op, .slice a1 n1 c1, .int .i64 so, .int .i64 nn, .int .i64 mm, .slice a2 n2 c2] 30) := ⟨_, rfl⟩
  have HU1 : Hid (Upto [] w W) := Lib.hid (by rw [hW]; exact (Upto.refl [] w).alloc _)
  have HB1 : Hid (W.heap[w.heap.size]? = some (.cells #[.int .i64 op, .slice a1 n1 c1, .int .i64 so, .int .i64 nn, .int .i64 mm, .slice a2 n2 c2] 30 (0, 0))) := Lib.hid (by rw [hW]; exact new_at w _)
  have HF := Lib.hid (free_calls 100000 nd hk (by omega) hg _ W _ (h.ext HU1.out).here (fun _ => False) [] (.slice none 0 0) SlP.nil [] (.slice none 0 0) (by simpa using World.ownsRow_nil W 0 9 1) (fun b hb => ⟨hb, by simp [Value.ownBlock]⟩) (fun b hb => hb.elim) (by simp; omega) (by simp; omega))
  obtain ⟨x0, x1, x2, x3, x4, x5⟩ := cells6 HB1.out
  clear h
  go_enter Tryz.func19, Tryz.ntmps19
  go_wp2_with fail
  simp only [← hW]
  clear hW
  go_wp2_with fail
  refine HF.out.mono ?_
  rintro e w2 ⟨v2, rfl, ho⟩
  have HU2 : Hid (Upto [] W w2) := Lib.hid (by simpa [Value.ownBlock] using ho.up)
  have HS : Hid (TxI w (freeP nd [] []) v2 w2) := Lib.hid ⟨ho.row, (fun g hg => by
    rcases ho.wh g hg with h1 | h1
    · simp [Value.ownBlock] at h1
    · exact Nat.le_trans HU1.out.size h1), HU1.out.trans_ext HU2.out⟩
  obtain ⟨a9, c9, rfl, -⟩ := ownsRow_len ho.row
  clear ho x0 x1 x2 x3 x4 x5
  go_wp2_with fail
  go_ret
  exact ⟨_, rfl, HS.out⟩
end Go.Proofs.YtbnebkkpmcjmbaaGreatDoor


namespace Go.Proofs.YtbnebkkpmcjmbaaGreatDoor
open Go.RowKit Go.PL Go.Maps
/-- the blocks from lo on, below hi -/
def Rg (lo hi : Nat) : List Nat := List.range' lo (hi - lo)
theorem mem_rg {lo hi b : Nat} : b ∈ Rg lo hi ↔ lo ≤ b ∧ b < hi := by
  unfold Rg
  rw [List.mem_range'_1]
  omega
theorem Upto.rg {lo hi lo' hi' : Nat} {w w' : World} (h : Upto (Rg lo hi) w w') (h1 : lo' ≤ lo) (h2 : hi ≤ hi') : Upto (Rg lo' hi') w w' := h.mono (fun b hb => by
  rw [mem_rg] at hb ⊢
  omega)
/-- older blocks are not touched: what stood ahead of lo stands on -/
theorem Upto.far {lo hi : Nat} {w0 w w' : World} (h0 : Upto [] w0 w) (h : Upto (Rg lo hi) w w') (hl : w0.heap.size ≤ lo) : Upto [] w0 w' := h0.trans h (fun k hk => Or.inr (by rw [mem_rg] at hk; omega))
/-- what renaming answers: the value as it was, its blocks changed -/
def RPost (lo hi : Nat) (v : Value) (n' : Nd) (w : World) (e : Ending) (w' : World) : Prop := e = .returned v ∧ OwT w' n' v lo hi ∧ Upto (Rg lo hi) w w'
/-- what a rename of depth d is called on -/
structure RIn (w0 w : World) (d lo hi : Nat) (n : Nd) (v : Value) : Prop where
  own : OwT w n v lo hi
  hi : hi ≤ w.heap.size
  lo : w0.heap.size ≤ lo
  up : Upto [] w0 w
  deep : depthF n ≤ d
  one : oneN n
  good : goodN n
  few : nmsF n + sizeF n + 2 ≤ 8000
/-- the operands, i of them renamed -/
structure KI (w0 w : World) (f : Nd → Nd) (l : List Nd) (cs : Array Value) (o g m hi i : Nat) (wr : World) : Prop where
  ow : OwTs wr (mapAt f 0 i l) cs o g m hi
  up : Upto (Rg m hi) w wr
  at_ : ∃ t, wr.heap[g]? = some (.cells cs t (0, 0))
theorem KI.ext {w0 w wr w2 : World} {f : Nd → Nd} {l : List Nd} {cs : Array Value} {o g m hi i : Nat} (h : KI w0 w f l cs o g m hi i wr) (hh : hi ≤ w.heap.size) (hu : Upto [] wr w2) : KI w0 w f l cs o g m hi i w2 := by
  obtain ⟨t, ht⟩ := h.at_
  exact ⟨OwTs.same _ _ _ _ _ _ h.ow (SameIn.upto hu (Nat.le_trans hh h.up.size) (by simp)), h.up.trans_ext hu, t, hu.at ht (by simp)⟩
/-- an operand's six cells -/
def Six (cs : Array Value) (p : Nat) (v0 v1 v2 v3 v4 v5 : Value) : Prop := cs[p]? = some v0 ∧ cs[p + 1]? = some v1 ∧ cs[p + 2]? = some v2 ∧ cs[p + 3]? = some v3 ∧ cs[p + 4]? = some v4 ∧ cs[p + 5]? = some v5
theorem Six.cells {w : World} {g p : Nat} {t : TypeId} {cs : Array Value} {v0 v1 v2 v3 v4 v5 : Value} (h : Six cs p v0 v1 v2 v3 v4 v5) (hg : w.heap[g]? = some (.cells cs t (0, 0))) : w.cell? ⟨g, p, none⟩ = some v0 ∧ w.cell? ⟨g, p + 1, none⟩ = some v1 ∧ w.cell? ⟨g, p + 2, none⟩ = some v2 ∧ w.cell? ⟨g, p + 3, none⟩ = some v3 ∧ w.cell? ⟨g, p + 4, none⟩ = some v4 ∧ w.cell? ⟨g, p + 5, none⟩ = some v5 := by
  obtain ⟨k0, k1, k2, k3, k4, k5⟩ := h
  exact ⟨by rw [cell_of hg]; exact k0, by rw [cell_of hg]; exact k1, by rw [cell_of hg]; exact k2, by rw [cell_of hg]; exact k3, by rw [cell_of hg]; exact k4, by rw [cell_of hg]; exact k5⟩
theorem Six.same {w : World} {g p : Nat} {t : TypeId} {cs : Array Value} {v0 v1 v2 v3 v4 v5 : Value} (h : Six cs p v0 v1 v2 v3 v4 v5) (hg : w.heap[g]? = some (.cells cs t (0, 0))) : (((((w.setCell ⟨g, p, none⟩ v0).setCell ⟨g, p + 1, none⟩ v1).setCell ⟨g, p + 2, none⟩ v2).setCell ⟨g, p + 3, none⟩ v3).setCell ⟨g, p + 4, none⟩ v4).setCell ⟨g, p + 5, none⟩ v5 = w := by
  obtain ⟨k0, k1, k2, k3, k4, k5⟩ := h
  rw [set_zero hg _ _ k0, set_zero hg _ _ k1, set_zero hg _ _ k2, set_zero hg _ _ k3, set_zero hg _ _ k4, set_zero hg _ _ k5]
/-- one operand: where it lies, and the state once it is renamed -/
theorem KI.step {w0 w wr : World} {d : Nat} {f : Nd → Nd} {l : List Nd} {cs : Array Value} {o g m hi i : Nat} {x : Nd} (h : KI w0 w f l cs o g m hi i wr) (hx : l[i]? = some x) (hh : hi ≤ w.heap.size) (h0 : Upto [] w0 w) (hl : w0.heap.size ≤ m)
    (hd : depthF x ≤ d) (h1 : oneN x) (h2 : goodN x) (h3 : nmsF x + sizeF x + 2 ≤ 8000) :
    ∃ v0 v1 v2 v3 v4 v5 k q, Six cs (o + i * 6) v0 v1 v2 v3 v4 v5 ∧ m ≤ k ∧ q ≤ hi ∧ (g < k ∨ q ≤ g) ∧ (∀ u, Upto [] wr u → RIn w0 u d k q x (.agg #[v0, v1, v2, v3, v4, v5])) ∧
      ∀ u w', Upto [] wr u → RPost k q (.agg #[v0, v1, v2, v3, v4, v5]) (f x) u (.returned (.agg #[v0, v1, v2, v3, v4, v5])) w' → KI w0 w f l cs o g m hi (i + 1) w' := by
  have hxi : (mapAt f 0 i l)[i]? = some x := by
    have := mapAt_get f 0 i l
    rw [Nat.zero_add] at this
    rw [this, hx]
  obtain ⟨t, ht⟩ := h.at_
  obtain ⟨v0, v1, v2, v3, v4, v5, k, q, c0, c1, c2, c3, c4, c5, i1, i2, i3, i4, i5, i6⟩ := OwTs.at _ cs o g m hi i x h.ow hxi
  refine ⟨v0, v1, v2, v3, v4, v5, k, q, (by rw [Nat.mul_comm]; exact ⟨c0, c1, c2, c3, c4, c5⟩), i1, i3, i4, fun u hu => ?_, fun u w' hu hp => ?_⟩
  · have hwr := h.up.size
    exact ⟨OwT.same _ _ _ _ i5 (SameIn.upto hu (by omega) (by simp)), by have := hu.size; omega, by omega, (Upto.far h0 h.up hl).trans_ext hu, hd, h1, h2, h3⟩
  · obtain ⟨-, hp1, hp2⟩ := hp
    have hwr := h.up.size
    have hset : mapAt f 0 (i + 1) l = (mapAt f 0 i l).set i (f x) := by
      have := mapAt_next (f := f) (k := 0) (i := i) (l := l) (x := x) (by rw [Nat.zero_add]; exact hx)
      rw [Nat.zero_add] at this
      exact this
    have hsame : Upto (Rg k q) wr w' := (hu.mono (by simp)).trans_same hp2
    refine ⟨?_, h.up.trans_same (Upto.rg hsame i1 i3), t, hsame.at ht (fun hm => by rw [mem_rg] at hm; omega)⟩
    rw [hset]
    exact i6 w' (f x) hp1 (fun b hb hb2 hb3 => hsame.block b (by omega) (fun hm => by rw [mem_rg] at hm; omega))
end Go.Proofs.YtbnebkkpmcjmbaaGreatDoor


namespace Go.Proofs.YtbnebkkpmcjmbaaGreatDoor
open Go.RowKit Go.PL Go.Maps
theorem NmT.val {w : World} {nms : List (List UInt8)} {vn : Value} {lo m : Nat} (h : NmT w nms vn lo m) : ∃ a c, vn = .slice a nms.length c := by
  rcases h with ⟨rfl, a, c, rfl⟩ | ⟨g, o, c, cs, t, rfl, -⟩
  · exact ⟨_, _, rfl⟩
  · exact ⟨_, _, rfl⟩
theorem NmT.cell {w : World} {nms : List (List UInt8)} {g o c lo m n : Nat} (h : NmT w nms (.slice (some ⟨g, o, none⟩) n c) lo m) {j : Nat} {x : List UInt8} (hx : nms[j]? = some x) : w.cell? ⟨g, o + j, none⟩ = some (sV x) ∧ w.frozen? ⟨g, o + j, none⟩ = false ∧ lo ≤ g ∧ g < m := by
  rcases h with ⟨rfl, -⟩ | ⟨g', o', c', cs, t, e, h1, h2, h3, h4, h5⟩
  · simp at hx
  · simp only [Value.slice.injEq, Option.some.injEq, Addr.mk.injEq] at e
    obtain ⟨⟨rfl, rfl, -⟩, -, rfl⟩ := e
    exact ⟨by rw [cell_of h4]; exact h5 j x hx, free_of h4 _, h2, h3⟩
/-- the operands' place -/
def KdsT (w : World) (l : List Nd) (a2 : Option Addr) (cs : Array Value) (o g m hi : Nat) : Prop := l = [] ∨ (a2 = some ⟨g, o, none⟩ ∧ (∃ t, w.heap[g]? = some (.cells cs t (0, 0))) ∧ m ≤ g ∧ g < hi ∧ OwTs w l cs o g m hi)
theorem KdsT.same {w w' : World} {l : List Nd} {a2 : Option Addr} {cs : Array Value} {o g m hi : Nat} (h : KdsT w l a2 cs o g m hi) (hs : SameIn w w' m hi) : KdsT w' l a2 cs o g m hi := by
  rcases h with h | ⟨h1, ⟨t, h2⟩, h3, h4, h5⟩
  · exact Or.inl h
  · exact Or.inr ⟨h1, ⟨t, (hs g h3 h4).trans h2⟩, h3, h4, OwTs.same _ _ _ _ _ _ h5 hs⟩
theorem OwT.parts {w : World} {op so nn mm : Int} {nms : List (List UInt8)} {l : List Nd} {v : Value} {lo hi : Nat} (h : OwT w (.mk op nms so nn mm l) v lo hi) : ∃ a1 c1 a2 c2 m cs o g, v = .agg #[.int .i64 op, .slice a1 nms.length c1, .int .i64 so, .int .i64 nn, .int .i64 mm, .slice a2 l.length c2] ∧ lo ≤ m ∧ m ≤ hi ∧ NmT w nms (.slice a1 nms.length c1) lo m ∧ KdsT w l a2 cs o g m hi := by
  unfold OwT at h
  obtain ⟨vn, vl, m, e, h1, h2, h3, h4⟩ := h
  obtain ⟨a1, c1, rfl⟩ := h3.val
  rcases h4 with ⟨rfl, a, c, rfl⟩ | ⟨g, o, c, cs, t, rfl, h5, h6, h7, h8⟩
  · exact ⟨a1, c1, a, c, m, #[], 0, 0, e, h1, h2, h3, Or.inl rfl⟩
  · exact ⟨a1, c1, _, c, m, cs, o, g, e, h1, h2, h3, Or.inr ⟨rfl, ⟨t, h5⟩, h6, h7, h8⟩⟩
theorem OwT.join {w : World} {op so nn mm : Int} {nms : List (List UInt8)} {l : List Nd} {a1 a2 : Option Addr} {c1 c2 n1 n2 m o g lo hi : Nat} {cs : Array Value} (h1 : nms.length = n1) (h2 : l.length = n2) (h3 : lo ≤ m) (h4 : m ≤ hi) (hN : NmT w nms (.slice a1 n1 c1) lo m) (hK : KdsT w l a2 cs o g m hi) : OwT w (.mk op nms so nn mm l) (.agg #[.int .i64 op, .slice a1 n1 c1, .int .i64 so, .int .i64 nn, .int .i64 mm, .slice a2 n2 c2]) lo hi := by
  subst h1 h2
  unfold OwT
  refine ⟨_, _, m, rfl, h3, h4, hN, ?_⟩
  rcases hK with rfl | ⟨rfl, ⟨t, k1⟩, k2, k3, k4⟩
  · exact Or.inl ⟨rfl, _, _, rfl⟩
  · exact Or.inr ⟨g, o, c2, cs, t, rfl, k1, k2, k3, k4⟩
/-- between the rounds over the names: w3 is the world ahead of the loop -/
structure NI (w3 : World) (f : List UInt8 → List UInt8) (k : Nat) (nms : List (List UInt8)) (a1 : Option Addr) (c1 lo m i : Nat) (wr : World) : Prop where
  nm : NmT wr (mapAt f k i nms) (.slice a1 nms.length c1) lo m
  up : Upto (Rg lo m) w3 wr
theorem NI.start {w3 : World} {f : List UInt8 → List UInt8} {k : Nat} {nms : List (List UInt8)} {a1 : Option Addr} {c1 lo m : Nat} (h : NmT w3 nms (.slice a1 nms.length c1) lo m) : NI w3 f k nms a1 c1 lo m 0 w3 := ⟨by rw [mapAt_zero]; exact h, Upto.refl _ _⟩
theorem NI.at {w3 wr : World} {f : List UInt8 → List UInt8} {k : Nat} {nms : List (List UInt8)} {g o c1 lo m i : Nat} {x : List UInt8} (h : NI w3 f k nms (some ⟨g, o, none⟩) c1 lo m i wr) (hx : nms[k + i]? = some x) : wr.cell? ⟨g, o + k + i, none⟩ = some (sV x) ∧ wr.frozen? ⟨g, o + k + i, none⟩ = false := by
  have := h.nm.cell (j := k + i) (x := x) (by rw [mapAt_get, hx])
  rw [← Nat.add_assoc] at this
  exact ⟨this.1, this.2.1⟩
theorem NI.stay {w3 wr : World} {f : List UInt8 → List UInt8} {k : Nat} {nms : List (List UInt8)} {a1 : Option Addr} {c1 lo m i : Nat} {x : List UInt8} (h : NI w3 f k nms a1 c1 lo m i wr) (hx : nms[k + i]? = some x) (hf : f x = x) : NI w3 f k nms a1 c1 lo m (i + 1) wr := ⟨by rw [mapAt_stay hx hf]; exact h.nm, h.up⟩
theorem NI.put {w3 wr : World} {f : List UInt8 → List UInt8} {k : Nat} {nms : List (List UInt8)} {g o c1 lo m i : Nat} {x y : List UInt8} (h : NI w3 f k nms (some ⟨g, o, none⟩) c1 lo m i wr) (hx : nms[k + i]? = some x) (hf : f x = y) : NI w3 f k nms (some ⟨g, o, none⟩) c1 lo m (i + 1) (wr.setCell ⟨g, o + k + i, none⟩ (sV y)) := by
  have hlt : k + i < nms.length := (List.getElem?_eq_some_iff.1 hx).1
  have hl := mapAt_len f k i nms
  have hc := h.nm.cell (j := k + i) (x := x) (by rw [mapAt_get, hx])
  refine ⟨?_, h.up.trans_same ((Upto.refl _ wr).setCell (p := ⟨g, o + k + i, none⟩) (Or.inl (mem_rg.2 ⟨hc.2.2.1, hc.2.2.2⟩)) _)⟩
  rw [mapAt_next hx, hf, Nat.add_assoc, ← hl]
  exact NmT.set (by rw [hl]; exact h.nm) (by rw [hl]; exact hlt)
theorem nmss_mem : ∀ {l : List Nd} {x : Nd}, x ∈ l → nmsF x ≤ nmssF l
  | [], _, h => by cases h
  | y :: ys, x, h => by
    unfold nmssF
    rcases List.mem_cons.1 h with rfl | h
    · omega
    · have := nmss_mem h
      omega
theorem NmT.slp {w : World} {nms : List (List UInt8)} {vn : Value} {lo m : Nat} (h : NmT w nms vn lo m) : SlP w (fun _ => True) vn nms.length (nms.map sV) := by
  rcases h with ⟨rfl, a, c, rfl⟩ | ⟨g, o, c, cs, t, rfl, k1, k2, k3, k4, k5⟩
  · exact Or.inl ⟨rfl, rfl, a, c, rfl⟩
  · refine Or.inr ⟨g, o, c, rfl, ⟨trivial, ⟨_, _, _, k4⟩, k1⟩, fun j u hj => ?_⟩
    rw [cell_of k4]
    rw [List.getElem?_map] at hj
    cases hx : nms[j]? with
    | none => rw [hx] at hj; cases hj
    | some x =>
      rw [hx] at hj
      cases hj
      exact k5 j x hx
end Go.Proofs.YtbnebkkpmcjmbaaGreatDoor


namespace Go.Proofs.YtbnebkkpmcjmbaaGreatDoor
open Go.RowKit Go.PL Go.Maps
theorem uses_binds {op : Int} {nms : List (List UInt8)} (h : bindsF op nms.length = true) : usesF op nms = [] := by
  unfold bindsF at h
  have ho : op = 16 ∨ op = 17 := by
    simp only [Bool.and_eq_true, Bool.or_eq_true, decide_eq_true_eq] at h
    exact h.1
  unfold usesF
  rw [if_neg (by omega), if_neg (by omega)]
theorem KdsT.first {w : World} {l : List Nd} {a2 : Option Addr} {cs : Array Value} {o g m hi : Nat} {x : Nd} (h : KdsT w l a2 cs o g m hi) (hl : l = [x]) : ∃ qo b1 q1 e1 qs qn qm b2 q2 e2 k q, Six cs o (.int .i64 qo) (.slice b1 q1 e1) (.int .i64 qs) (.int .i64 qn) (.int .i64 qm) (.slice b2 q2 e2) ∧ ∃ t, w.heap[g]? = some (.cells cs t (0, 0)) ∧ NdV w (fun b => k ≤ b ∧ b < q) x (.agg #[.int .i64 qo, .slice b1 q1 e1, .int .i64 qs, .int .i64 qn, .int .i64 qm, .slice b2 q2 e2]) := by
  subst hl
  rcases h with h | ⟨-, ⟨t, ht⟩, -, -, h⟩
  · cases h
  · obtain ⟨v0, v1, v2, v3, v4, v5, k, q, c0, c1, c2, c3, c4, c5, -, -, -, -, h5, -⟩ := OwTs.at _ _ _ _ _ _ 0 x h rfl
    have hnd := h5.ndv _ _ _ _
    obtain ⟨qo, b1, q1, e1, qs, qn, qm, b2, q2, e2, heq⟩ := hnd.six
    obtain ⟨rfl, rfl, rfl, rfl, rfl, rfl⟩ : v0 = .int .i64 qo ∧ v1 = .slice b1 q1 e1 ∧ v2 = .int .i64 qs ∧ v3 = .int .i64 qn ∧ v4 = .int .i64 qm ∧ v5 = .slice b2 q2 e2 := by simpa using heq
    exact ⟨qo, b1, q1, e1, qs, qn, qm, b2, q2, e2, k, q, ⟨c0, c1, c2, c3, c4, c5⟩, t, ht, hnd⟩
end Go.Proofs.YtbnebkkpmcjmbaaGreatDoor

