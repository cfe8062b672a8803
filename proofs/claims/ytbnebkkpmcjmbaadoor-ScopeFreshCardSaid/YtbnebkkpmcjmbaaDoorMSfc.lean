/- Texts merged, in build order: Cn2, Ka, Kb, Kc, Kd, Ke, Kh, Ki, Kj, Kk, Z6, FmQ, Fm31, FmP6, Ck, Zs, Fm30, Sw. -/
import Derived.Test.YtbnebkkpmcjmbaaDoorMSfb
import Derived.Test.YtbnebkkpmcjmbaaDoorRows
import Derived.WalkKit
import Derived.WalkSpells
import Derived.WalkLawsBesides
import Derived.Maps.OwnSet
import Derived.Lib.Hide
import Derived.Laws.BytesArg
import Derived.Deep.QuietTactic
import Derived.BigQuiet
import Derived.Test.YtbnebkkpmcjmbaaDoorProg
import Derived.Shelf.Small.Strs
import Derived.Shelf.LaysM
import Derived.Shelf.Strings.SplitShaped
import Derived.Deep.DeepCutAuto
import Derived.Deep.CutBlock
import Derived.Lib.Strings
import Derived.Lib.Walk
import Derived.Lib.ConvBytes
import Derived.Lib.ParseIntBMem
import Derived.Lib.AtoiErrMem
import Derived.Lib.BufferWrite
import Derived.Lib.UnsafeStr
import Derived.Lib.IfaceEq
import Derived.Laws.MakeOwn
import Derived.Laws.Strings3
import Derived.Laws.Closers25
import Derived.Laws.Closers25b
import Derived.RegionTactic
import Derived.Deep.RegionWith
import Derived.BigCall
import Derived.BigGuard
import Derived.Lib.AppendIntMem
import Derived.Carry
import Derived.OrdersHeld
import Derived.Deep.RegionHeld3
import Derived.Shelf.Strconv.Itoa3
import Derived.Shelf.Slices.Turned
import Derived.Shelf.Slices.Clone
import Derived.Deep.RegionLaw
import Derived.RangeFuncNested
import Derived.RangeFuncBound
import Derived.RangeFuncCalls
import Derived.RangeFuncLeaves
import Derived.RangeFuncBox
import Derived.Shelf.Abstract
import Derived.OwnWalkIn
import Derived.TacticsInMore
import Derived.LoopNIn
import Derived.LoopIn
import Derived.Laws.EntriesVeiled
import Derived.Laws.AppendOwn
import Derived.Shelf.SlMaps.Clone
namespace Go.Proofs.YtbnebkkpmcjmbaaDoor
open Go.RowKit Go.PL Go.Maps
def ClPost2 (w : World) (op : Int) (names : List (List UInt8)) (so nn mm : Int) (l : List Nd) (e : Ending) (w' : World) : Prop := ∃ vn vl m, e = .returned (.agg #[.int .i64 op, vn, .int .i64 so, .int .i64 nn, .int .i64 mm, vl]) ∧ Upto [] w w' ∧ SlP w' (fun b => Nu w w' b ∧ b < m) vn names.length (names.map sV) ∧
  ((l = [] ∧ ∃ a c, vl = .slice a 0 c) ∨ ∃ g o c, vl = .slice (some ⟨g, o, none⟩) l.length c ∧ ((Nu w w' g ∧ m ≤ g) ∧ IsC w' g) ∧ NdsV w' (fun b => Nu w w' b ∧ m ≤ b ∧ b ≠ g) g o l)
theorem ClRow.list2 {w0 w : World} {B : Nat} {c : Nat → Nat → Value} {v : Value} {ms : List Nd} (h : ClRow w0 w B c v ms) : (ms = [] ∧ ∃ a c, v = .slice a 0 c) ∨ ∃ g o c, v = .slice (some ⟨g, o, none⟩) ms.length c ∧ (v.ownBlock = some g ∧ Unf w g) ∧ NdsV w (Lu w0 w B v) g o ms := by
  rcases h.row.2 with ⟨e, h0⟩ | ⟨g, cap, cur, e, _, hh, _, _, _, ht⟩
  · exact Or.inl ⟨List.eq_nil_of_length_eq_zero h0, none, 0, e⟩
  · refine Or.inr ⟨g, 0, cap, e, ⟨by rw [e]; rfl, _, _, hh⟩, nds_of ms 0 fun i x hi => ?_⟩
    have hil : i < ms.length := (List.getElem?_eq_some_iff.1 hi).1
    have cl : ∀ j, j < 6 → w.cell? ⟨g, 0 + i * 6 + j, none⟩ = some (c i j) := fun j hj => by
      rw [cell_of hh]
      have := cellsN_at c hil hj
      rw [← ht, List.getElem?_take] at this
      split at this
      · simpa using this
      · cases this
    exact ⟨_, _, _, _, _, _, cl 0 (by omega), cl 1 (by omega), cl 2 (by omega), cl 3 (by omega), cl 4 (by omega), cl 5 (by omega), h.nd i x hi⟩
theorem cl_end2 {w w9 wr : World} {bn : Nat} {op so nn mm : Int} {na : Option Addr} {nc : Nat} {names : List (List UInt8)} {l : List Nd} {vn : Nat} {va : Option Addr} {vc : Nat} {c : Nat → Nat → Value}
    (HI : ClI w w9 bn op so nn mm na names.length nc l vn wr) (HLT : w.heap.size = bn ∧ bn + 1 < w9.heap.size)
    (hsl : SlP w9 (fun b => Nu w w9 b ∧ b ≠ bn ∧ b ≠ bn + 1) (.slice na names.length nc) names.length (names.map sV))
    (hrow : ClRow w9 wr bn c (.slice va vn vc) (l.take vn)) (htk : l.take vn = l) (_hll : l.length = vn) :
    ClPost2 w op names so nn mm l (.returned (.agg #[.int .i64 op, .slice na names.length nc, .int .i64 so, .int .i64 nn, .int .i64 mm, .slice va vn vc])) ((((((wr.setCell ⟨w.heap.size + 1, 0, none⟩ (.int .i64 op)).setCell ⟨w.heap.size + 1, 1, none⟩ (.slice na names.length nc)).setCell ⟨w.heap.size + 1, 2, none⟩ (.int .i64 so)).setCell ⟨w.heap.size + 1, 3, none⟩ (.int .i64 nn)).setCell ⟨w.heap.size + 1, 4, none⟩ (.int .i64 mm)).setCell ⟨w.heap.size + 1, 5, none⟩ (.slice va vn vc)) := by
  have hst := nd_self wr (w.heap.size + 1) (.int .i64 op) (.slice na names.length nc) (.int .i64 so) (.int .i64 nn) (.int .i64 mm) (.slice va vn vc)
  have hrow2 := hrow.upto hst (fun k hk => Or.inl (by simp at hk; omega))
  rw [htk] at hrow2
  obtain ⟨wE, hE⟩ : ∃ wE, wE = ((((((wr.setCell ⟨w.heap.size + 1, 0, none⟩ (.int .i64 op)).setCell ⟨w.heap.size + 1, 1, none⟩ (.slice na names.length nc)).setCell ⟨w.heap.size + 1, 2, none⟩ (.int .i64 so)).setCell ⟨w.heap.size + 1, 3, none⟩ (.int .i64 nn)).setCell ⟨w.heap.size + 1, 4, none⟩ (.int .i64 mm)).setCell ⟨w.heap.size + 1, 5, none⟩ (.slice va vn vc)) := ⟨_, rfl⟩
  have hup : Upto [] w wE := by rw [hE]; exact nd_up HI.old (Or.inr (by omega)) ..
  rw [← hE] at hst hrow2 ⊢
  have hu9 : Upto [bn, bn + 1] w9 wE := (HI.up.mono (by simp)).trans (hst.mono (by simp; omega)) (fun k hk => Or.inl hk)
  have hs2 : SlP wE (fun b => Nu w wE b ∧ b < w9.heap.size) (.slice na names.length nc) names.length (names.map sV) := hsl.keep ⟨hu9.size, fun b hb hl => by
    have he := hu9.block b hl.lt (by simp; exact hb.2)
    exact ⟨⟨⟨hb.1.1, hb.1.2.stay he⟩, hl.lt⟩, he⟩⟩
  refine ⟨_, _, w9.heap.size, rfl, hup, hs2, ?_⟩
  rcases hrow2.list2 with ⟨h1, h2⟩ | ⟨g, o, cc, h1, ⟨h2, h3⟩, h4⟩
  · exact Or.inl ⟨h1, h2⟩
  · refine Or.inr ⟨g, o, cc, h1, ⟨⟨⟨by have := (hrow.own g h2).1; unfold New; omega, h3⟩, (hrow.own g h2).1⟩, (by obtain ⟨cs, t, h⟩ := h3; exact ⟨cs, t, _, h⟩)⟩, ?_⟩
    refine NdsV.keep (P := Lu w9 wE bn (.slice va vn vc)) ⟨Nat.le_refl _, fun b hb hl => ⟨⟨⟨by have := hb.1.1; unfold New at this ⊢; omega, hb.2⟩, hb.1.1, fun e => hb.1.2.2 (by rw [e]; exact h2)⟩, rfl⟩⟩ g rfl _ _ h4
set_option maxRecDepth 100000 in
set_option maxHeartbeats 6400000 in
theorem fclone2_calls (k : Nat) (op : Int) (names : List (List UInt8)) (so nn mm : Int) (l : List Nd) (hk : sizeF (.mk op names so nn mm l) ≤ k + 1) (hk7 : k + 1 ≤ 10000000) (hbg : bigN (.mk op names so nn mm l)) (P : Nat → Prop) (v : Value) (w : World) (h : NdV w P (.mk op names so nn mm l) v) : Calls Tryd.prog 19 #[v] w (ClPost2 w op names so nn mm l) := by
  obtain ⟨a1, c1, a2, c2, rfl, hs, hls⟩ := h.open
  unfold bigN at hbg
  have hsz : sizesF l ≤ k := by simp only [sizeF] at hk; omega
  have hln := sizes_len l
  have hu2 : Upto [] w ((w.alloc (.cells #[.int .i64 op, .slice a1 names.length c1, .int .i64 so, .int .i64 nn, .int .i64 mm, .slice a2 l.length c2] 30)).alloc (.cells #[.int .i64 0, .slice none 0 0, .int .i64 0, .int .i64 0, .int .i64 0, .slice none 0 0] 30)) := ((Upto.refl [] w).alloc _).alloc _
  have hb1 := alloc_old (new_at w (.cells #[.int .i64 op, .slice a1 names.length c1, .int .i64 so, .int .i64 nn, .int .i64 mm, .slice a2 l.length c2] 30)) (.cells #[.int .i64 0, .slice none 0 0, .int .i64 0, .int .i64 0, .int .i64 0, .slice none 0 0] 30)
  have hb2 := new_at1 w (.cells #[.int .i64 op, .slice a1 names.length c1, .int .i64 so, .int .i64 nn, .int .i64 mm, .slice a2 l.length c2] 30) (.cells #[.int .i64 0, .slice none 0 0, .int .i64 0, .int .i64 0, .int .i64 0, .slice none 0 0] 30)
  obtain ⟨W, hW⟩ : ∃ W, W = ((w.alloc (.cells #[.int .i64 op, .slice a1 names.length c1, .int .i64 so, .int .i64 nn, .int .i64 mm, .slice a2 l.length c2] 30)).alloc (.cells #[.int .i64 0, .slice none 0 0, .int .i64 0, .int .i64 0, .int .i64 0, .slice none 0 0] 30)) := ⟨_, rfl⟩
  rw [← hW] at hu2 hb1 hb2
  have HU2 := Lib.hid hu2
  have HB1 := Lib.hid hb1
  have HB2 := Lib.hid hb2
  have HCL := Lib.hid (fun W2 (hu : Upto [] W W2) => sclone_calls (names.map sV) a1 names.length c1 W2 P (by simp) hbg.1 (by intro u hu; obtain ⟨x, _, rfl⟩ := List.mem_map.1 hu; rfl) ((hs.ext hu2).ext hu))
  obtain ⟨x0, x1, x2, x3, x4, x5⟩ := cells6 hb1
  have hwl : w.heap.size + 1 < W.heap.size := lt_of_heap hb2
  have HWL := Lib.hid hwl
  clear hs h hu2 hb1 hb2
  go_enter Tryd.func19, Tryd.ntmps19
  go_wp2_with fail
  simp only [← hW]
  clear hW x0 x1 x2 x3 x4 x5
  refine (HCL.out W (Upto.refl [] W)).mono ?_
  rintro e w9 ⟨na, nc, rfl, hsl, hu9⟩
  have hc1 := hu9.at HB1.out (by simp)
  have hc2 := hu9.at HB2.out (by simp)
  have HUP := Lib.hid hu9
  have HC2 := Lib.hid hc2
  have HSL : Hid (SlP w9 (fun b => Nu w w9 b ∧ b ≠ w.heap.size ∧ b ≠ w.heap.size + 1) (.slice na names.length nc) names.length (names.map sV)) := Lib.hid (hsl.mono (fun b hb _ => ⟨⟨by have := hb.1; unfold New at this ⊢; omega, hb.2⟩, by have := hb.1; unfold New at this; omega, by have := hb.1; unfold New at this; omega⟩))
  have HLT : Hid (w.heap.size = w.heap.size ∧ w.heap.size + 1 < w9.heap.size) := Lib.hid ⟨rfl, lt_of_heap hc2⟩
  obtain ⟨n0, n1, n2, n3, n4, n5⟩ := cells6 hc1
  obtain ⟨f0, f1, f2, f3, f4, f5⟩ := frees6 hc1
  have hset := set_same (set_same hc1 1 (.slice na names.length nc)) 5 (.slice none 0 0)
  simp only [List.setIfInBounds_toArray, List.set_cons_zero, List.set_cons_succ] at hset
  have HI0 : Hid (ClI w w9 w.heap.size op so nn mm na names.length nc l 0 ((w9.setCell ⟨w.heap.size, 1, none⟩ (.slice na names.length nc)).setCell ⟨w.heap.size, 5, none⟩ (.slice none 0 0))) := Lib.hid
    ⟨((Upto.refl [w.heap.size] w9).setCell (p := ⟨w.heap.size, 1, none⟩) (Or.inl (by simp)) _).setCell (p := ⟨w.heap.size, 5, none⟩) (Or.inl (by simp)) _,
     (((HU2.out.trans_ext hu9).setCell (p := ⟨w.heap.size, 1, none⟩) (Or.inr (by simp)) _).setCell (p := ⟨w.heap.size, 5, none⟩) (Or.inr (by simp)) _), none, 0, 0, fun _ _ => undef, hset, ⟨by simpa [cellsN] using World.ownsRow_nil _ 0 30 6, by simp, by intro g hg; cases hg⟩⟩
  clear hsl hu9 hc1 hc2 hset
  have HLS := Lib.hid hls
  have HLN : Hid (l.length ≤ 10000000) := Lib.hid (by omega)
  clear hls
  go_wp2_with fail
  generalize hll : l.length = ll at *
  have HLL := Lib.hid hll
  have hL0 : (0 : Int) ≤ ll := by omega
  have hL1 : (ll : Int) ≤ 10000000 := by have := HLN.out; omega
  clear hll n0 n1 n2 n3 n4 n5 f0 f1 f2 f3 f4 f5
  go_loopw [15] (fun v wr => ∃ j : Nat, j ≤ ll ∧ v = .int .i64 j ∧ Hid (ClI w w9 w.heap.size op so nn mm na names.length nc l j wr)) (fun v _ => ll - (intOf v).toNat)
  case atStart => exact ⟨0, by omega, rfl, HI0⟩
  case round =>
    obtain ⟨j, hj, rfl, HI⟩ := hrel
    obtain ⟨va, vn, vc, c, hbk, hrow⟩ := HI.out.st
    obtain ⟨va', vc', hve, -⟩ := ownsRow_len hrow.row
    simp only [Value.slice.injEq] at hve
    have hvn : vn = j := by have := HLL.out; rw [hve.2.1, List.length_take]; omega
    clear hve
    subst hvn
    rcases Nat.lt_or_ge vn ll with hlt | hge
    · obtain ⟨x, hx⟩ : ∃ x, l[vn]? = some x := ⟨_, List.getElem?_eq_getElem (by have := HLL.out; omega)⟩
      obtain ⟨g, o, xo, xn1, xn2, xn3, xs, xm, xq, xl1, xl2, xl3, rfl, c0, c1', c2', c3, c4, c5, hn⟩ := (HLS.out.ext HI.out.old) vn x hx
      have hjl : (l.take vn).length = vn := by have := HLL.out; rw [List.length_take]; omega
      have HJL := Lib.hid hjl
      have HTK : Hid (l.take (vn + 1) = l.take vn ++ [x]) := Lib.hid (by
        obtain ⟨hi, rfl⟩ := List.getElem?_eq_some_iff.1 hx
        exact List.take_succ_eq_append_getElem hi)
      have hxs := sizesF_mem (List.mem_of_getElem? hx)
      have hu7 : Upto [] wr (wr.alloc (.cells #[.int .i64 xo, .slice xn1 xn2 xn3, .int .i64 xs, .int .i64 xm, .int .i64 xq, .slice xl1 xl2 xl3] 30)) := (Upto.refl [] wr).alloc _
      have hb7 := new_at wr (.cells #[.int .i64 xo, .slice xn1 xn2 xn3, .int .i64 xs, .int .i64 xm, .int .i64 xq, .slice xl1 xl2 xl3] 30)
      obtain ⟨W7, hW7⟩ : ∃ W7, W7 = wr.alloc (.cells #[.int .i64 xo, .slice xn1 xn2 xn3, .int .i64 xs, .int .i64 xm, .int .i64 xq, .slice xl1 xl2 xl3] 30) := ⟨_, rfl⟩
      rw [← hW7] at hu7 hb7
      have HI7 := Lib.hid (HI.out.ext hu7)
      have hbk7 := hu7.at hbk (by simp)
      have HBK := Lib.hid hbk7
      have HROW := Lib.hid (hrow.upto hu7 (by simp))
      have HC := Lib.hid (fun w1 (hu : Upto [] W7 w1) => fclone_calls k x (by omega) (by omega) (bigs_mem hbg.2 (List.mem_of_getElem? hx)) P _ w1 ((hn.ext hu7).ext hu))
      have HB7 := Lib.hid hb7
      have hltI : (vn : Int) < ll := by omega
      have hj0 : (0 : Int) ≤ vn := by omega
      clear hrow hbk hn hx hu7 hb7 hbk7
      go_wp2_with fail
      simp only [← hW7]
      clear hW7
      have y5 := cell_of HBK.out 5
      simp only [List.getElem?_toArray, List.getElem?_cons_zero, List.getElem?_cons_succ] at y5
      obtain ⟨z0, z1, z2, z3, z4, z5⟩ := cells6 HB7.out
      have e0 : ∀ u : Ext W7, u.w.cell? ⟨w.heap.size, 5, none⟩ = some (.slice va vn vc) := fun u => u.cell y5
      have k0 : ∀ u : Ext W7, u.w.cell? ⟨wr.heap.size, 0, none⟩ = some _ := fun u => u.cell z0
      have k1 : ∀ u : Ext W7, u.w.cell? ⟨wr.heap.size, 1, none⟩ = some _ := fun u => u.cell z1
      have k2 : ∀ u : Ext W7, u.w.cell? ⟨wr.heap.size, 2, none⟩ = some _ := fun u => u.cell z2
      have k3 : ∀ u : Ext W7, u.w.cell? ⟨wr.heap.size, 3, none⟩ = some _ := fun u => u.cell z3
      have k4 : ∀ u : Ext W7, u.w.cell? ⟨wr.heap.size, 4, none⟩ = some _ := fun u => u.cell z4
      have k5 : ∀ u : Ext W7, u.w.cell? ⟨wr.heap.size, 5, none⟩ = some _ := fun u => u.cell z5
      clear y5 z0 z1 z2 z3 z4 z5 c0 c1' c2' c3 c4 c5
      refine wp_region_seg_at [3, 4] [] [0, 1, 2, 3, 4] [5, 6, 7] 5 (by kernel_rfl) (by kernel_rfl) (by kernel_rfl) ?_
      iterate 3 (refine seg_plain rfl rfl rfl rfl rfl ?_; intro K' hK'; go_big_quiet_op; go_big_quiet_on)
      refine seg_callO (Y := (Int × Option Addr × Nat × Nat) × Int × Int × Int × Option Addr × Nat × Nat) (fun y => .agg #[.int .i64 y.1.1, .slice y.1.2.1 y.1.2.2.1 y.1.2.2.2, .int .i64 y.2.1, .int .i64 y.2.2.1, .int .i64 y.2.2.2.1, .slice y.2.2.2.2.1 y.2.2.2.2.2.1 y.2.2.2.2.2.2]) (fun y u => NdV u (Nu W7 u) x (.agg #[.int .i64 y.1.1, .slice y.1.2.1 y.1.2.2.1 y.1.2.2.2, .int .i64 y.2.1, .int .i64 y.2.2.1, .int .i64 y.2.2.2.1, .slice y.2.2.2.2.1 y.2.2.2.2.2.1 y.2.2.2.2.2.2])) (fun _ => []) rfl rfl rfl rfl (fun _ _ _ h hu => h.nu hu) (fun _ => List.nodup_nil) (fun w => by go_simp) (fun w' hu hd => (HC.out w' hu).mono fun e w2 ⟨v, h1, h2, h3⟩ => by
        obtain ⟨ro, rn1, rn2, rn3, rs, rm, rq, rl1, rl2, rl3, rfl⟩ := h2.six
        exact ⟨((ro, rn1, rn2, rn3), rs, rm, rq, rl1, rl2, rl3), h1, h3, h2.mono (fun b hb _ => ⟨New.mono hu b hb.1, hb.2⟩), fun b hb => by cases hb⟩) ?_
      rintro ⟨⟨ro, rn1, rn2, rn3⟩, rs, rm, rq, rl1, rl2, rl3⟩
      simp only [Act.put, List.setIfInBounds_toArray, List.set_cons_zero, List.set_cons_succ]
      refine seg_opq (Y := Nat) (fun b => .slice (some ⟨b, 0, none⟩) 1 1) (fun b u => u.heap[b]? = some (.cells #[.int .i64 ro, .slice rn1 rn2 rn3, .int .i64 rs, .int .i64 rm, .int .i64 rq, .slice rl1 rl2 rl3] 30 (0, 0))) (fun _ => []) rfl rfl rfl rfl (fun _ _ _ h hu => hu.at h (by simp)) (fun _ => List.nodup_nil) (fun w' post hu hd hp => (congrArg (opqUpon Tryd.prog post) (show _ = Result.ok (Next.value (.slice (some ⟨w'.heap.size, 0, none⟩) 1 1)) (w'.alloc (.cells #[.int .i64 ro, .slice rn1 rn2 rn3, .int .i64 rs, .int .i64 rm, .int .i64 rq, .slice rl1 rl2 rl3] 30)) from by go_simp)).mpr (hp w'.heap.size _ ((Upto.refl [] w').alloc _) (new_at _ _) (fun b hb => by cases hb))) ?_
      intro b8
      simp only [Act.put, List.setIfInBounds_toArray, List.set_cons_zero, List.set_cons_succ]
      intro w10 hg
      have HU10 := Lib.hid hg.up
      have HB8 : Hid (w10.heap[b8]? = some (.cells #[.int .i64 ro, .slice rn1 rn2 rn3, .int .i64 rs, .int .i64 rm, .int .i64 rq, .slice rl1 rl2 rl3] 30 (0, 0))) := Lib.hid hg.hold.1
      have HND : Hid (NdV w10 (Nu W7 w10) x (.agg #[.int .i64 ro, .slice rn1 rn2 rn3, .int .i64 rs, .int .i64 rm, .int .i64 rq, .slice rl1 rl2 rl3])) := Lib.hid hg.hold.2.1
      simp only [List.drop_succ_cons, List.drop_zero]
      clear hg e0 k0 k1 k2 k3 k4 k5
      have HR10 := Lib.hid (HROW.out.upto HU10.out (by simp))
      have hr10 := HR10.out.row
      rw [hjl] at hr10
      have HRR := Lib.hid hr10
      obtain ⟨i1, hi1, hy0, hy1, hy2⟩ := info59'
      have hL7 := HLN.out
      have HA := Lib.hid (fun b5 c5 w5 (ho5 : w5.ownsRow 0 30 6 (.slice b5 (vn + 1) c5) (vn + 1) (cellsN c vn ++ [.int .i64 ro, .slice rn1 rn2 rn3, .int .i64 rs, .int .i64 rm, .int .i64 rq, .slice rl1 rl2 rl3])) (hu5 : Upto (Value.slice va vn vc).ownBlock.toList w10 w5) (hw5 : ∀ g, (Value.slice b5 (vn + 1) c5).ownBlock = some g → (Value.slice va vn vc).ownBlock = some g ∨ w10.heap.size ≤ g) => cl_step HI7.out ⟨Nat.le_refl _, by have := HLT.out.2; omega⟩ HBK.out HROW.out HU10.out HND.out HJL.out HTK.out ho5 hu5 hw5)
      clear hr10 hjl
      go_wp2_with (at_builtin
                   refine wpList_app _ rfl (.tmp 20) (.tmp 23) 28 rfl 30 i1 (.agg #[.int .i64 0, .slice none 0 0, .int .i64 0, .int .i64 0, .int .i64 0, .slice none 0 0]) 6 80 Tryd.underlying28 hi1 hy0 hy1 hy2 rfl (by decide) (.slice va vn vc) vn (cellsN c vn) rfl HRR.out ⟨b8, 0, none⟩ 1 1 [.int .i64 ro, .slice rn1 rn2 rn3, .int .i64 rs, .int .i64 rm, .int .i64 rq, .slice rl1 rl2 rl3] rfl rfl (six_at HB8.out) (by simp [Value.oneCell']) (by unfold maxLen; omega) (by omega) ?_
                   intro b5 c5 w5 ho5 hu5 hw5
                   obtain ⟨hbk5, hI5⟩ := HA.out b5 c5 w5 ho5 hu5 hw5
                   have y5 := cell_of hbk5 5
                   have g5 := free_of hbk5 5
                   simp only [List.getElem?_toArray, List.getElem?_cons_zero, List.getElem?_cons_succ] at y5
                   have HI5 := Lib.hid hI5
                   clear ho5 hu5 hw5 hbk5 hI5)
      go_roundw
      case rel => exact ⟨vn + 1, by omega, by go_num, HI5⟩
      case measure => simp [intOf]; omega
    · obtain rfl : vn = ll := by omega
      have hgeI : ¬ ((vn : Int) < vn) := by omega
      have HROW := Lib.hid hrow
      have hz2 := HI.out.up.at HC2.out (by simp)
      have HZ2 := Lib.hid hz2
      obtain ⟨p0, p1, p2, p3, p4, p5⟩ := cells6 hbk
      obtain ⟨r0, r1, r2, r3, r4, r5⟩ := cells6 hz2
      obtain ⟨t0, t1, t2, t3, t4, t5⟩ := frees6 hz2
      have hF := cl_end2 (names := names) HI.out ⟨rfl, HLT.out.2⟩ HSL.out HROW.out (List.take_of_length_le (by have := HLL.out; omega)) HLL.out
      have HF := Lib.hid hF
      clear hrow hbk hz2 hF
      go_wp2_with fail
      have hst := nd_store HZ2.out (.int .i64 op) (.slice na names.length nc) (.int .i64 so) (.int .i64 nn) (.int .i64 mm) (.slice va vn vc)
      obtain ⟨q0, q1, q2, q3, q4, q5⟩ := cells6 hst
      exact bodyPost_ret (v := .agg #[.int .i64 op, .slice na names.length nc, .int .i64 so, .int .i64 nn, .int .i64 mm, .slice va vn vc]) (by simp [results, Tryd.results19, go_sem, q0, q1, q2, q3, q4, q5]) rfl HF.out
end Go.Proofs.YtbnebkkpmcjmbaaDoor


namespace Go.Proofs.YtbnebkkpmcjmbaaDoor
open Go.RowKit Go.PL Go.Maps
set_option maxRecDepth 100000 in
set_option maxHeartbeats 1600000 in
theorem binds16_calls (a1 : Option Addr) (n1 c1 : Nat) (so nn mm : Int) (a2 : Option Addr) (n2 c2 : Nat) (h1 : 1 ≤ n1) (w : World) : Calls Tryd.prog 23 #[.agg #[.int .i64 16, .slice a1 n1 c1, .int .i64 so, .int .i64 nn, .int .i64 mm, .slice a2 n2 c2]] w fun e w' => e = .returned (.bool true) ∧ Upto [] w w' := by
  have HU := Lib.hid ((Upto.refl [] w).alloc (.cells #[.int .i64 16, .slice a1 n1 c1, .int .i64 so, .int .i64 nn, .int .i64 mm, .slice a2 n2 c2] 30))
  have hn : (0 : Int) < n1 := by omega
  go_enter Tryd.func23, Tryd.ntmps23
  go_wp2_with fail
  go_ret
  exact ⟨ret_bool (decide_eq_true (by omega)), HU.out⟩
set_option maxRecDepth 100000 in
set_option maxHeartbeats 1600000 in
theorem binds5_calls (a1 : Option Addr) (n1 c1 : Nat) (so nn mm : Int) (a2 : Option Addr) (n2 c2 : Nat) (w : World) : Calls Tryd.prog 23 #[.agg #[.int .i64 5, .slice a1 n1 c1, .int .i64 so, .int .i64 nn, .int .i64 mm, .slice a2 n2 c2]] w fun e w' => e = .returned (.bool false) ∧ Upto [] w w' := by
  have HU := Lib.hid ((Upto.refl [] w).alloc (.cells #[.int .i64 5, .slice a1 n1 c1, .int .i64 so, .int .i64 nn, .int .i64 mm, .slice a2 n2 c2] 30))
  go_enter Tryd.func23, Tryd.ntmps23
  go_wp2_with fail
  go_ret
  exact ⟨rfl, HU.out⟩
set_option maxRecDepth 100000 in
set_option maxHeartbeats 1600000 in
theorem uses16_calls (a1 : Option Addr) (n1 c1 : Nat) (so nn mm : Int) (a2 : Option Addr) (n2 c2 : Nat) (w : World) : Calls Tryd.prog 37 #[.agg #[.int .i64 16, .slice a1 n1 c1, .int .i64 so, .int .i64 nn, .int .i64 mm, .slice a2 n2 c2]] w fun e w' => e = .returned (.slice none 0 0) ∧ Upto [] w w' := by
  have HU := Lib.hid ((Upto.refl [] w).alloc (.cells #[.int .i64 16, .slice a1 n1 c1, .int .i64 so, .int .i64 nn, .int .i64 mm, .slice a2 n2 c2] 30))
  go_enter Tryd.func37, Tryd.ntmps37
  go_wp2_with fail
  go_ret
  exact ⟨rfl, HU.out⟩
set_option maxRecDepth 100000 in
set_option maxHeartbeats 1600000 in
theorem uses5_calls (a1 : Option Addr) (n1 c1 : Nat) (so nn mm : Int) (a2 : Option Addr) (n2 c2 : Nat) (w : World) : Calls Tryd.prog 37 #[.agg #[.int .i64 5, .slice a1 n1 c1, .int .i64 so, .int .i64 nn, .int .i64 mm, .slice a2 n2 c2]] w fun e w' => e = .returned (.slice a1 n1 c1) ∧ Upto [] w w' := by
  have HU := Lib.hid ((Upto.refl [] w).alloc (.cells #[.int .i64 5, .slice a1 n1 c1, .int .i64 so, .int .i64 nn, .int .i64 mm, .slice a2 n2 c2] 30))
  go_enter Tryd.func37, Tryd.ntmps37
  go_wp2_with fail
  go_ret
  exact ⟨rfl, HU.out⟩
set_option maxRecDepth 100000 in
set_option maxHeartbeats 3200000 in
/-- the free names of an atom over different names -/
theorem free5_calls (ns : List (List UInt8)) (hnd : ns.Nodup) (hl : ns.length ≤ 100) (P : Nat → Prop) (a1 : Option Addr) (c1 : Nat) (so nn mm : Int) (a2 : Option Addr) (c2 : Nat) (w : World) (h : SlP w P (.slice a1 ns.length c1) ns.length (ns.map sV)) : Calls Tryd.prog 48 #[.agg #[.int .i64 5, .slice a1 ns.length c1, .int .i64 so, .int .i64 nn, .int .i64 mm, .slice a2 0 c2], .slice none 0 0, .slice none 0 0] w fun e w' => ∃ vo, e = .returned vo ∧ TxI w ns vo w' := by
  have hu1 : Upto [] w (w.alloc (.cells #[.int .i64 5, .slice a1 ns.length c1, .int .i64 so, .int .i64 nn, .int .i64 mm, .slice a2 0 c2] 30)) := (Upto.refl [] w).alloc _
  have hb1 := new_at w (.cells #[.int .i64 5, .slice a1 ns.length c1, .int .i64 so, .int .i64 nn, .int .i64 mm, .slice a2 0 c2] 30)
  obtain ⟨W, hW⟩ : ∃ W, W = w.alloc (.cells #[.int .i64 5, .slice a1 ns.length c1, .int .i64 so, .int .i64 nn, .int .i64 mm, .slice a2 0 c2] 30) := ⟨_, rfl⟩
  rw [← hW] at hu1 hb1
  have HU1 := Lib.hid hu1
  have HB1 := Lib.hid hb1
  have HUS := Lib.hid (fun u => uses5_calls a1 ns.length c1 so nn mm a2 0 c2 u)
  have HBI := Lib.hid (fun u => binds5_calls a1 ns.length c1 so nn mm a2 0 c2 u)
  have HC : Hid (∀ j, j < ns.length → ∃ g o, a1 = some ⟨g, o, none⟩ ∧ ∀ u, Upto [] W u → u.cell? ⟨g, o + j, none⟩ = some (.string ⟨(ns.getD j []).toArray⟩)) := Lib.hid (fun j hj => by
    rcases h with ⟨h0, -⟩ | ⟨g, o, c', e, -, hc⟩
    · omega
    · simp only [Value.slice.injEq] at e
      refine ⟨g, o, e.1, fun u hu => ?_⟩
      have h1 := hc j (sV ns[j]) (by simp [hj])
      rw [((HU1.out.trans_ext hu).cell (World.block_lt_of_cell? w _ h1) (by simp)).trans h1]
      simp [sV, List.getD, hj])
  have HNC : Hid (∀ j, j < ns.length → (ns.take j).contains (ns.getD j []) = false ∧ ns.take (j + 1) = ns.take j ++ [ns.getD j []]) := Lib.hid (fun j hj => by
    have e : ns.getD j [] = ns[j] := by simp [List.getD, hj]
    refine ⟨?_, by rw [e]; exact List.take_succ_eq_append_getElem hj⟩
    cases hc : (ns.take j).contains (ns.getD j []) with
    | false => rfl
    | true =>
      rw [e] at hc
      have hm : ns[j] ∈ ns.take j := by simpa using hc
      obtain ⟨i, hi, e2⟩ := List.mem_iff_getElem.1 hm
      have hij : i < j := by rw [List.length_take] at hi; omega
      rw [List.getElem_take] at e2
      exact absurd e2 ((List.pairwise_iff_getElem.1 hnd) i j (by omega) hj hij))
  have HCN := Lib.hid (fun (x : List UInt8) (u : World) => containsS_calls [] x (.slice none 0 0) u (fun _ => True) SlP.nil (by simp))
  have HCO := Lib.hid (fun (ls : List (List UInt8)) (x : List UInt8) (l : Value) (u : World) (ht : TxI W ls l u) (hn : ls.length ≤ 100) => containsS_calls ls x l u _ ht.slp (by omega))
  obtain ⟨i0, hi0, hz0, hz1, hz2⟩ := info9'
  have HI0 := Lib.hid hi0
  have HZ0 := Lib.hid hz0
  have HZ1 := Lib.hid hz1
  have HZ2 := Lib.hid hz2
  obtain ⟨x0, x1, x2, x3, x4, x5⟩ := cells6 hb1
  have HTK : Hid (ns.take ns.length = ns) := Lib.hid (List.take_of_length_le (Nat.le_refl _))
  have HTL : Hid (∀ j, j ≤ ns.length → (ns.take j).length = j) := Lib.hid (fun j hj => by rw [List.length_take]; omega)
  generalize hln : ns.length = n at *
  have hn0 : (0 : Int) ≤ n := by omega
  have hn1 : (n : Int) ≤ 100 := by omega
  clear h hi0 hz0 hz1 hz2 hu1 hb1 hnd
  go_enter Tryd.func48, Tryd.ntmps48
  go_wp2_with fail
  simp only [← hW]
  clear hW
  go_wp2_with fail
  refine (HUS.out _).mono ?_
  rintro e w1 ⟨rfl, hu1⟩
  have HU2 := Lib.hid (hu1)
  have HB2 := Lib.hid (hu1.at HB1.out (by simp))
  clear hu1 x0 x1 x2 x3 x4 x5
  go_wp2_with fail
  go_loopw [2, 14] (fun vl vi wr => ∃ (j : Nat) (va : Option Addr) (vc : Nat), vi = .int .i64 j ∧ vl = .slice va j vc ∧ j ≤ n ∧ Hid (TxI W (ns.take j) (.slice va j vc) wr)) (fun _ vi _ => n - (intOf vi).toNat)
  case atStart => exact ⟨0, none, 0, rfl, rfl, by omega, Lib.hid (by rw [List.take_zero]; exact TxI.nil W w1 HU2.out)⟩
  case round =>
    obtain ⟨j, va, vc, rfl, rfl, hj, HI⟩ := hrel
    have hj0 : (0 : Int) ≤ j := by omega
    rcases Nat.lt_or_ge j n with hlt | hge
    · obtain ⟨g, o, rfl, hcell⟩ := HC.out j hlt
      have hc := hcell wr HI.out.up
      have hltI : (j : Int) < n := by omega
      obtain ⟨hnc, htk⟩ := HNC.out j hlt
      have HTL2 := Lib.hid (HTL.out j (by omega))
      generalize ns.getD j [] = y at *
      have HNC2 := Lib.hid hnc
      have HTK2 := Lib.hid htk
      clear hcell hnc htk
      go_wp2_with fail
      refine (HCN.out y wr).mono ?_
      rintro e w2 ⟨rfl, rfl⟩
      rw [show ([] : List (List UInt8)).contains y = false from rfl]
      go_wp2_with fail
      refine (HCO.out _ y _ w2 HI.out (by rw [HTL2.out]; omega)).mono ?_
      rintro e w3 ⟨rfl, rfl⟩
      rw [HNC2.out]
      have HT := Lib.hid (HI.out.ext ((Upto.refl [] _).alloc (.cells #[.string ⟨y.toArray⟩] 9)))
      have hrow := HT.out.row
      rw [HTL2.out] at hrow
      have hsrc := cells_at (l := [sV y]) (new_at w3 (.cells #[.string ⟨y.toArray⟩] 9))
      go_wp2_with (at_builtin; refine wpList_app _ rfl (.tmp 28) (.tmp 30) 22 rfl 9 i0 (.string ⟨#[]⟩) 1 16 Tryd.underlying22 HI0.out HZ0.out HZ1.out HZ2.out rfl (by decide) (.slice va j vc) j _ rfl hrow ⟨w3.heap.size, 0, none⟩ 1 1 [sV y] rfl rfl hsrc (by simp [Value.oneCell', sV]) (by unfold maxLen; omega) (by omega) ?_; intro vb vd w4 ho4 hu4 hw4; have HM5 := Lib.hid (HT.out.app HTL2.out ho4 hu4 hw4); clear hrow hsrc ho4 hu4 hw4)
      rw [show (j : Int) + 1 = ((j + 1 : Nat) : Int) from rfl]
      exact ⟨⟨j + 1, vb, vd, rfl, rfl, by omega, Lib.hid (by rw [HTK2.out]; exact HM5.out)⟩, meas_up (by omega) rfl⟩
    · obtain rfl : j = n := by omega
      have hgeI : ¬ ((j : Int) < j) := by omega
      have HB3 := Lib.hid (HI.out.up.at HB1.out (by simp))
      obtain ⟨y0, y1, y2, y3, y4, y5⟩ := cells6 HB3.out
      go_wp2_with fail
      refine (HBI.out wr).mono ?_
      rintro e w2 ⟨rfl, hu2⟩
      have HB4 := Lib.hid (hu2.at HB3.out (by simp))
      have HE := Lib.hid (HI.out.ext hu2)
      rw [HTK.out] at HE
      clear y0 y1 y2 y3 y4 y5 hu2
      have z5 := cell_of HB4.out 5
      simp only [List.getElem?_toArray, List.getElem?_cons_zero, List.getElem?_cons_succ] at z5
      go_wp2_with fail
      clear z5
      go_loopw [2, 46] (fun vl vi wr => vl = .slice va j vc ∧ vi = .int .i64 0 ∧ wr = w2) (fun _ _ _ => 0)
      case atStart => exact ⟨rfl, rfl, rfl⟩
      case round =>
        obtain ⟨rfl, rfl, rfl⟩ := hrel
        go_wp2_with fail
        go_ret
        exact ⟨_, rfl, HE.out.row, fun g hg => Nat.le_trans HU1.out.size (HE.out.own g hg), HU1.out.trans_ext HE.out.up⟩
end Go.Proofs.YtbnebkkpmcjmbaaDoor


namespace Go.Proofs.YtbnebkkpmcjmbaaDoor
open Go.RowKit Go.PL Go.Maps
set_option maxRecDepth 100000 in
set_option maxHeartbeats 1600000 in
theorem bound1_calls (a1 : Option Addr) (n1 c1 : Nat) (so nn mm : Int) (a2 : Option Addr) (n2 c2 : Nat) (p : Value) (w : World) : Calls Tryd.prog 50 #[.agg #[.int .i64 5, .slice a1 n1 c1, .int .i64 so, .int .i64 nn, .int .i64 mm, .slice a2 n2 c2], p] w fun e w' => e = .returned (.tuple #[]) ∧ Upto [] w w' := by
  have HU := Lib.hid ((Upto.refl [] w).alloc (.cells #[.int .i64 5, .slice a1 n1 c1, .int .i64 so, .int .i64 nn, .int .i64 mm, .slice a2 n2 c2] 30))
  have HBI := Lib.hid (fun u => binds5_calls a1 n1 c1 so nn mm a2 n2 c2 u)
  have hb := new_at w (.cells #[.int .i64 5, .slice a1 n1 c1, .int .i64 so, .int .i64 nn, .int .i64 mm, .slice a2 n2 c2] 30)
  obtain ⟨W, hW⟩ : ∃ W, W = w.alloc (.cells #[.int .i64 5, .slice a1 n1 c1, .int .i64 so, .int .i64 nn, .int .i64 mm, .slice a2 n2 c2] 30) := ⟨_, rfl⟩
  rw [← hW] at hb HU
  have e0 : ∀ u : Ext W, u.w.cell? ⟨w.heap.size, 0, none⟩ = some (.int .i64 5) := fun u => u.cell (cell_of hb 0)
  have e1 : ∀ u : Ext W, u.w.cell? ⟨w.heap.size, 1, none⟩ = some (.slice a1 n1 c1) := fun u => u.cell (cell_of hb 1)
  have e2 : ∀ u : Ext W, u.w.cell? ⟨w.heap.size, 2, none⟩ = some (.int .i64 so) := fun u => u.cell (cell_of hb 2)
  have e3 : ∀ u : Ext W, u.w.cell? ⟨w.heap.size, 3, none⟩ = some (.int .i64 nn) := fun u => u.cell (cell_of hb 3)
  have e4 : ∀ u : Ext W, u.w.cell? ⟨w.heap.size, 4, none⟩ = some (.int .i64 mm) := fun u => u.cell (cell_of hb 4)
  have e5 : ∀ u : Ext W, u.w.cell? ⟨w.heap.size, 5, none⟩ = some (.slice a2 n2 c2) := fun u => u.cell (cell_of hb 5)
  clear hb
  go_enter Tryd.func50, Tryd.ntmps50
  go_wp2_with fail
  simp only [← hW]
  clear hW
  refine wp_region_seg_all [1, 8] [] [0, 1, 2, 3, 4, 5, 6, 7, 8, 9, 10] (by kernel_rfl) (by kernel_rfl) ?_
  (refine seg_plain rfl rfl rfl rfl rfl ?_; intro K' hK'; go_big_quiet_op; go_big_quiet_on)
  refine seg_call rfl rfl rfl rfl (fun w => by go_simp) (fun w hu hd => HBI.out w) ?_
  simp only [Act.put, List.setIfInBounds_toArray, List.set_cons_zero, List.set_cons_succ]
  (refine seg_plain rfl rfl rfl rfl rfl ?_; intro K' hK'; go_big_quiet_op; go_big_quiet_on)
  refine seg_skip rfl rfl ?_
  simp only [Act.put, List.setIfInBounds_toArray, List.set_cons_zero, List.set_cons_succ]
  refine seg_skip rfl rfl ?_
  simp only [Act.put, List.setIfInBounds_toArray, List.set_cons_zero, List.set_cons_succ]
  refine seg_skip rfl rfl ?_
  simp only [Act.put, List.setIfInBounds_toArray, List.set_cons_zero, List.set_cons_succ]
  refine seg_skip rfl rfl ?_
  simp only [Act.put, List.setIfInBounds_toArray, List.set_cons_zero, List.set_cons_succ]
  refine seg_skip rfl rfl ?_
  simp only [Act.put, List.setIfInBounds_toArray, List.set_cons_zero, List.set_cons_succ]
  refine seg_skip rfl rfl ?_
  simp only [Act.put, List.setIfInBounds_toArray, List.set_cons_zero, List.set_cons_succ]
  refine seg_skip rfl rfl ?_
  simp only [Act.put, List.setIfInBounds_toArray, List.set_cons_zero, List.set_cons_succ]
  (refine seg_plain rfl rfl rfl rfl rfl ?_; intro K' hK'; go_big_quiet_op; go_big_quiet_on)
  intro w9 hg
  have HU9 := Lib.hid (HU.out.trans_ext hg.up)
  clear hg e0 e1 e2 e3 e4 e5
  go_wp2_with fail
  exact bodyPost_end (v := .tuple #[]) (by simp [results, Tryd.results50, go_sem]) rfl ⟨rfl, HU9.out⟩
set_option maxRecDepth 100000 in
set_option maxHeartbeats 1600000 in
theorem walk5_calls (a1 : Option Addr) (n1 c1 : Nat) (so nn mm : Int) (a2 : Option Addr) (c2 : Nat) (p : Value) (w : World) : Calls Tryd.prog 49 #[.agg #[.int .i64 5, .slice a1 n1 c1, .int .i64 so, .int .i64 nn, .int .i64 mm, .slice a2 0 c2], .func (.func 50) #[] #[p]] w fun e w' => e = .returned (.tuple #[]) ∧ Upto [] w w' := by
  have HU := Lib.hid ((Upto.refl [] w).alloc (.cells #[.int .i64 5, .slice a1 n1 c1, .int .i64 so, .int .i64 nn, .int .i64 mm, .slice a2 0 c2] 30))
  have HB := Lib.hid (new_at w (.cells #[.int .i64 5, .slice a1 n1 c1, .int .i64 so, .int .i64 nn, .int .i64 mm, .slice a2 0 c2] 30))
  have HBO := Lib.hid (fun u => bound1_calls a1 n1 c1 so nn mm a2 0 c2 p u)
  go_enter Tryd.func49, Tryd.ntmps49
  go_wp2_with fail
  refine (HBO.out _).mono ?_
  rintro e w1 ⟨rfl, hu1⟩
  have HU1 := Lib.hid (HU.out.trans_ext hu1)
  have HB1 := Lib.hid (hu1.at HB.out (by simp))
  clear hu1
  have z5 := cell_of HB1.out 5
  simp only [List.getElem?_toArray, List.getElem?_cons_zero, List.getElem?_cons_succ] at z5
  go_wp2_with fail
  clear z5
  go_loopw [12] (fun vi wr => vi = .int .i64 0 ∧ wr = w1) (fun _ _ => 0)
  case atStart => exact ⟨rfl, rfl⟩
  case round =>
    obtain ⟨rfl, rfl⟩ := hrel
    go_wp2_with fail
    exact bodyPost_end (v := .tuple #[]) (by simp [results, Tryd.results49, go_sem]) rfl ⟨rfl, HU1.out⟩
set_option maxRecDepth 100000 in
set_option maxHeartbeats 1600000 in
theorem bound5_calls (a1 : Option Addr) (n1 c1 : Nat) (so nn mm : Int) (a2 : Option Addr) (c2 : Nat) (w : World) : Calls Tryd.prog 36 #[.agg #[.int .i64 5, .slice a1 n1 c1, .int .i64 so, .int .i64 nn, .int .i64 mm, .slice a2 0 c2]] w fun e w' => e = .returned (.slice none 0 0) ∧ Upto [] w w' := by
  have HWA := Lib.hid (fun p u => walk5_calls a1 n1 c1 so nn mm a2 c2 p u)
  go_enter Tryd.func36, Tryd.ntmps36
  go_wp2_with fail
  refine (HWA.out _ _).mono ?_
  rintro e w1 ⟨rfl, hu1⟩
  have HU1 := Lib.hid ((((Upto.refl [] w).alloc _).alloc _).trans_ext hu1)
  have hb := hu1.at (new_at1 w (.cells #[.int .i64 5, .slice a1 n1 c1, .int .i64 so, .int .i64 nn, .int .i64 mm, .slice a2 0 c2] 30) (.cells #[.slice none 0 0] 22)) (by simp)
  have z0 := cell_of hb 0
  simp only [List.getElem?_toArray, List.getElem?_cons_zero] at z0
  clear hu1 hb
  go_wp2_with fail
  go_ret
  exact ⟨rfl, HU1.out⟩
end Go.Proofs.YtbnebkkpmcjmbaaDoor


namespace Go.Proofs.YtbnebkkpmcjmbaaDoor
open Go.RowKit Go.PL Go.Maps
def rpF (a b z : List UInt8) : List UInt8 := if z = a then b else z
/-- block g holds, from o on, the texts x and y; beside them what cs holds -/
structure NmB (w : World) (g o : Nat) (t : TypeId) (cs : Array Value) (x y : List UInt8) : Prop where
  st : ∃ cs', w.heap[g]? = some (.cells cs' t (0, 0)) ∧ cs'[o]? = some (sV x) ∧ cs'[o + 1]? = some (sV y) ∧ ∀ i, i ≠ o → i ≠ o + 1 → cs'[i]? = cs[i]?
theorem NmB.ext {w w' : World} {g o : Nat} {t : TypeId} {cs : Array Value} {x y : List UInt8} (h : NmB w g o t cs x y) (hu : Upto [] w w') : NmB w' g o t cs x y := by
  obtain ⟨cs', h1, h2⟩ := h.st
  exact ⟨cs', hu.at h1 (by simp), h2⟩
theorem NmB.upto {S : List Nat} {w w' : World} {g o : Nat} {t : TypeId} {cs : Array Value} {x y : List UInt8} (h : NmB w g o t cs x y) (hu : Upto S w w') (hs : g ∉ S) : NmB w' g o t cs x y := by
  obtain ⟨cs', h1, h2⟩ := h.st
  exact ⟨cs', hu.at h1 hs, h2⟩
theorem NmB.cells {w : World} {g o : Nat} {t : TypeId} {cs : Array Value} {x y : List UInt8} (h : NmB w g o t cs x y) : w.cell? ⟨g, o, none⟩ = some (sV x) ∧ w.cell? ⟨g, o + 1, none⟩ = some (sV y) ∧ w.frozen? ⟨g, o, none⟩ = false ∧ w.frozen? ⟨g, o + 1, none⟩ = false := by
  obtain ⟨cs', h1, h2, h3, -⟩ := h.st
  exact ⟨by rw [cell_of h1]; exact h2, by rw [cell_of h1]; exact h3, free_of h1 _, free_of h1 _⟩
theorem NmB.set0 {w : World} {g o : Nat} {t : TypeId} {cs : Array Value} {x y : List UInt8} (h : NmB w g o t cs x y) (z : List UInt8) : NmB (w.setCell ⟨g, o, none⟩ (sV z)) g o t cs z y := by
  obtain ⟨cs', h1, h2, h3, h4⟩ := h.st
  have hlt := (Array.getElem?_eq_some_iff.1 h2).1
  refine ⟨_, set_same h1 o (sV z), by rw [Array.getElem?_setIfInBounds_self_of_lt hlt], by rw [Array.getElem?_setIfInBounds_ne (by omega)]; exact h3, fun i i0 i1 => ?_⟩
  rw [Array.getElem?_setIfInBounds_ne (by omega)]
  exact h4 i i0 i1
theorem NmB.set1 {w : World} {g o : Nat} {t : TypeId} {cs : Array Value} {x y : List UInt8} (h : NmB w g o t cs x y) (z : List UInt8) : NmB (w.setCell ⟨g, o + 1, none⟩ (sV z)) g o t cs x z := by
  obtain ⟨cs', h1, h2, h3, h4⟩ := h.st
  have hlt := (Array.getElem?_eq_some_iff.1 h3).1
  refine ⟨_, set_same h1 (o + 1) (sV z), by rw [Array.getElem?_setIfInBounds_ne (by omega)]; exact h2, by rw [Array.getElem?_setIfInBounds_self_of_lt hlt], fun i i0 i1 => ?_⟩
  rw [Array.getElem?_setIfInBounds_ne (by omega)]
  exact h4 i i0 i1
set_option maxRecDepth 100000 in
set_option maxHeartbeats 3200000 in
theorem rename5_calls (g o c1 : Nat) (t : TypeId) (cs : Array Value) (x y a b : List UInt8) (so nn mm : Int) (a2 : Option Addr) (c2 : Nat) (w : World) (h : NmB w g o t cs x y) : Calls Tryd.prog 20 #[.agg #[.int .i64 5, .slice (some ⟨g, o, none⟩) 2 c1, .int .i64 so, .int .i64 nn, .int .i64 mm, .slice a2 0 c2], .string ⟨a.toArray⟩, .string ⟨b.toArray⟩] w fun e w' => e = .returned (.agg #[.int .i64 5, .slice (some ⟨g, o, none⟩) 2 c1, .int .i64 so, .int .i64 nn, .int .i64 mm, .slice a2 0 c2]) ∧ NmB w' g o t cs (rpF a b x) (rpF a b y) ∧ Upto [g] w w' := by
  have hgl : g < w.heap.size := by
    obtain ⟨cs', h1, -⟩ := h.st
    exact lt_of_heap h1
  obtain ⟨W, hW⟩ : ∃ W, W = (w.alloc (.cells #[.int .i64 5, .slice (some ⟨g, o, none⟩) 2 c1, .int .i64 so, .int .i64 nn, .int .i64 mm, .slice a2 0 c2] 30)).alloc (.cells #[.int .i64 0, .slice none 0 0, .int .i64 0, .int .i64 0, .int .i64 0, .slice none 0 0] 30) := ⟨_, rfl⟩
  have HU : Hid (Upto [] w W) := Lib.hid (by rw [hW]; exact ((Upto.refl [] w).alloc _).alloc _)
  have HB1 : Hid (W.heap[w.heap.size]? = some (.cells #[.int .i64 5, .slice (some ⟨g, o, none⟩) 2 c1, .int .i64 so, .int .i64 nn, .int .i64 mm, .slice a2 0 c2] 30 (0, 0))) := Lib.hid (by rw [hW]; exact alloc_old (new_at w _) _)
  have HB2 : Hid (W.heap[w.heap.size + 1]? = some (.cells #[.int .i64 0, .slice none 0 0, .int .i64 0, .int .i64 0, .int .i64 0, .slice none 0 0] 30 (0, 0))) := Lib.hid (by rw [hW]; exact new_at1 w _ _)
  have HBI := Lib.hid (fun u => binds5_calls (some ⟨g, o, none⟩) 2 c1 so nn mm a2 0 c2 u)
  have HUS := Lib.hid (fun u => uses5_calls (some ⟨g, o, none⟩) 2 c1 so nn mm a2 0 c2 u)
  have HN := Lib.hid (h.ext HU.out)
  have HGL := Lib.hid hgl
  obtain ⟨x0, x1, x2, x3, x4, x5⟩ := cells6 HB1.out
  clear h hgl
  go_enter Tryd.func20, Tryd.ntmps20
  go_wp2_with fail
  simp only [← hW]
  clear hW
  go_wp2_with fail
  refine (HBI.out _).mono ?_
  rintro e w1 ⟨rfl, hu1⟩
  have HU1 := Lib.hid hu1
  have HC1 := Lib.hid (hu1.at HB1.out (by simp))
  clear hu1 x0 x1 x2 x3 x4 x5
  obtain ⟨x0, x1, x2, x3, x4, x5⟩ := cells6 HC1.out
  go_wp2_with fail
  refine (HBI.out _).mono ?_
  rintro e w2 ⟨rfl, hu2⟩
  have HU2 := Lib.hid (HU1.out.trans_ext hu2)
  have HC2 := Lib.hid (HU2.out.at HB1.out (by simp))
  clear hu2 x0 x1 x2 x3 x4 x5
  obtain ⟨x0, x1, x2, x3, x4, x5⟩ := cells6 HC2.out
  go_wp2_with fail
  refine (HUS.out _).mono ?_
  rintro e w3 ⟨rfl, hu3⟩
  have HU3 := Lib.hid (HU2.out.trans_ext hu3)
  have HN3 := Lib.hid (HN.out.ext HU3.out)
  have HW3 := Lib.hid (lt_of_heap (HU3.out.at HB2.out (by simp)))
  clear hu3 x0 x1 x2 x3 x4 x5
  go_wp2_with fail
  go_loopw [80] (fun v wr => ∃ j : Nat, j ≤ 2 ∧ v = .int .i64 j ∧ Hid (NmB wr g o t cs (if 1 ≤ j then rpF a b x else x) (if 2 ≤ j then rpF a b y else y) ∧ Upto [g] w3 wr)) (fun v _ => 2 - (intOf v).toNat)
  case atStart => exact ⟨0, by omega, rfl, Lib.hid ⟨by simpa using HN3.out, Upto.refl _ _⟩⟩
  case round =>
    obtain ⟨j, hj, rfl, HI⟩ := hrel
    obtain rfl | rfl | rfl : j = 0 ∨ j = 1 ∨ j = 2 := by omega
    · replace HI : Hid (NmB wr g o t cs x y ∧ Upto [g] w3 wr) := Lib.hid (by simpa using HI.out)
      have hc := HI.out.1.cells
      by_cases hz : x = a
      · have hzz : (x == a) = true := by rw [hz]; exact beq_self_eq_true a
        have HR : Hid (rpF a b x = b) := Lib.hid (by unfold rpF; rw [if_pos hz])
        obtain ⟨q0, q1, f0, f1⟩ := hc
        have HI2 := Lib.hid (And.intro (HI.out.1.set0 b) (HI.out.2.setCell (p := ⟨g, o, none⟩) (Or.inl (by simp)) (sV b)))
        clear hz
        unfold sV at q0 q1
        go_wp2_with fail
        exact ⟨⟨1, by omega, rfl, Lib.hid (by simpa [HR.out, sV] using HI2.out)⟩, by simp [intOf]⟩
      · have hzz : (x == a) = false := by rw [beq_eq_false_iff_ne]; exact hz
        have HR : Hid (rpF a b x = x) := Lib.hid (by unfold rpF; rw [if_neg hz])
        obtain ⟨q0, q1, f0, f1⟩ := hc
        clear hz
        unfold sV at q0 q1
        go_wp2_with fail
        exact ⟨⟨1, by omega, rfl, Lib.hid (by simpa [HR.out] using HI.out)⟩, by simp [intOf]⟩
    · replace HI : Hid (NmB wr g o t cs (rpF a b x) y ∧ Upto [g] w3 wr) := Lib.hid (by simpa using HI.out)
      have hc := HI.out.1.cells
      by_cases hz : y = a
      · have hzz : (y == a) = true := by rw [hz]; exact beq_self_eq_true a
        have HR : Hid (rpF a b y = b) := Lib.hid (by unfold rpF; rw [if_pos hz])
        obtain ⟨q0, q1, f0, f1⟩ := hc
        have HI2 := Lib.hid (And.intro (HI.out.1.set1 b) (HI.out.2.setCell (p := ⟨g, o + 1, none⟩) (Or.inl (by simp)) (sV b)))
        clear hz
        unfold sV at q0 q1
        go_wp2_with fail
        exact ⟨⟨2, by omega, rfl, Lib.hid (by simpa [HR.out, sV] using HI2.out)⟩, by simp [intOf]⟩
      · have hzz : (y == a) = false := by rw [beq_eq_false_iff_ne]; exact hz
        have HR : Hid (rpF a b y = y) := Lib.hid (by unfold rpF; rw [if_neg hz])
        obtain ⟨q0, q1, f0, f1⟩ := hc
        clear hz
        unfold sV at q0 q1
        go_wp2_with fail
        exact ⟨⟨2, by omega, rfl, Lib.hid (by simpa [HR.out] using HI.out)⟩, by simp [intOf]⟩
    · replace HI : Hid (NmB wr g o t cs (rpF a b x) (rpF a b y) ∧ Upto [g] w3 wr) := Lib.hid (by simpa using HI.out)
      have HU9 := Lib.hid ((HU3.out.mono (by simp)).trans_same HI.out.2)
      have HG9 : Hid (w.heap.size ∉ [g] ∧ w.heap.size + 1 ∉ [g]) := Lib.hid ⟨by have := HGL.out; simp; omega, by have := HGL.out; simp; omega⟩
      have HC9 := Lib.hid (HU9.out.at HB1.out HG9.out.1)
      have HD9 := Lib.hid (HU9.out.at HB2.out HG9.out.2)
      obtain ⟨x0, x1, x2, x3, x4, x5⟩ := cells6 HC9.out
      go_wp2_with fail
      clear x0 x1 x2 x3 x4 x5
      rename World => w8
      go_loopw [96] (fun v wr => v = .int .i64 0 ∧ wr = w8) (fun _ _ => 0)
      case atStart => exact ⟨rfl, rfl⟩
      case round =>
        obtain ⟨rfl, rfl⟩ := hrel
        have x0 := cell_of HC9.out 0
        have x1 := cell_of HC9.out 1
        have x2 := cell_of HC9.out 2
        have x3 := cell_of HC9.out 3
        have x4 := cell_of HC9.out 4
        have x5 := cell_of HC9.out 5
        have y0 := cell_of HD9.out 0
        have y1 := cell_of HD9.out 1
        have y2 := cell_of HD9.out 2
        have y3 := cell_of HD9.out 3
        have y4 := cell_of HD9.out 4
        have y5 := cell_of HD9.out 5
        obtain ⟨f0, f1, f2, f3, f4, f5⟩ := frees6 HD9.out
        simp only [List.getElem?_toArray, List.getElem?_cons_zero, List.getElem?_cons_succ] at x0 x1 x2 x3 x4 x5 y0 y1 y2 y3 y4 y5
        go_wp2_with fail
        clear x0 x1 x2 x3 x4 x5 y0 y1 y2 y3 y4 y5 f0 f1 f2 f3 f4 f5
        have hst := nd_store HD9.out (.int .i64 5) (.slice (some ⟨g, o, none⟩) 2 c1) (.int .i64 so) (.int .i64 nn) (.int .i64 mm) (.slice a2 0 c2)
        have hself := nd_self wr (w.heap.size + 1) (.int .i64 5) (.slice (some ⟨g, o, none⟩) 2 c1) (.int .i64 so) (.int .i64 nn) (.int .i64 mm) (.slice a2 0 c2)
        have hup := nd_up ((HU.out.mono (by simp)).trans_same HU9.out) (B := w.heap.size + 1) (Or.inr (by omega)) (.int .i64 5) (.slice (some ⟨g, o, none⟩) 2 c1) (.int .i64 so) (.int .i64 nn) (.int .i64 mm) (.slice a2 0 c2)
        have hnm := HI.out.1.upto hself (by have := HGL.out; simp; omega)
        obtain ⟨q0, q1, q2, q3, q4, q5⟩ := cells6 hst
        exact bodyPost_ret (v := .agg #[.int .i64 5, .slice (some ⟨g, o, none⟩) 2 c1, .int .i64 so, .int .i64 nn, .int .i64 mm, .slice a2 0 c2]) (by simp [results, Tryd.results20, go_sem, q0, q1, q2, q3, q4, q5]) rfl ⟨rfl, hnm, hup⟩
end Go.Proofs.YtbnebkkpmcjmbaaDoor


namespace Go.Proofs.YtbnebkkpmcjmbaaDoor
open Go.RowKit Go.PL Go.Maps
theorem fresh_y : freshF [121] [[120], [121], [120], [121]] = [121, 50] := by kernel_rfl
theorem set_zero {w : World} {b : Nat} {cs : Array Value} {t : TypeId} {z : Nat × Nat} (h : w.heap[b]? = some (.cells cs t z)) (i : Nat) (v : Value) (hv : cs[i]? = some v) : w.setCell ⟨b, i, none⟩ v = w := by
  have hc : cs.setIfInBounds i v = cs := by
    apply Array.ext_getElem?
    intro j
    rw [Array.getElem?_setIfInBounds]
    split
    · rename_i hij
      subst hij
      rw [hv]
      split
      · rfl
      · rename_i hn
        exact absurd (Array.getElem?_eq_some_iff.1 hv).1 hn
    · rfl
  have hh : (w.setCell ⟨b, i, none⟩ v).heap = w.heap := by
    apply Array.ext_getElem?
    intro j
    simp only [World.setCell]
    rw [Array.getElem?_modify]
    split
    · rename_i hj
      subst hj
      rw [h]
      simp [hc]
    · rfl
  simp only [World.setCell] at hh ⊢
  rw [hh]
set_option maxRecDepth 100000 in
set_option maxHeartbeats 1600000 in
theorem freeT_calls (g o c2 : Nat) (t : TypeId) (cs : Array Value) (x y : List UInt8) (hxy : x ≠ y) (hc : 2 ≤ c2) (so nn mm : Int) (a3 : Option Addr) (c3 : Nat) (w : World) (h : NmB w g o t cs x y) : Calls Tryd.prog 35 #[.agg #[.int .i64 5, .slice (some ⟨g, o, none⟩) 2 c2, .int .i64 so, .int .i64 nn, .int .i64 mm, .slice a3 0 c3]] w fun e w' => ∃ vo, e = .returned vo ∧ TxI w [x, y] vo w' := by
  obtain ⟨cs', h6, h7, h8, -⟩ := h.st
  have hsl : SlP (w.alloc (.cells #[.int .i64 5, .slice (some ⟨g, o, none⟩) 2 c2, .int .i64 so, .int .i64 nn, .int .i64 mm, .slice a3 0 c3] 30)) (fun _ => True) (.slice (some ⟨g, o, none⟩) 2 c2) 2 ([x, y].map sV) := by
    have h6' := alloc_old h6 (.cells #[.int .i64 5, .slice (some ⟨g, o, none⟩) 2 c2, .int .i64 so, .int .i64 nn, .int .i64 mm, .slice a3 0 c3] 30)
    refine Or.inr ⟨g, o, c2, rfl, ⟨trivial, ⟨_, _, _, h6'⟩, hc⟩, fun j u hj => ?_⟩
    rw [cell_of h6']
    match j, hj with
    | 0, hj => simp at hj; rw [← hj]; exact h7
    | 1, hj => simp at hj; rw [← hj]; exact h8
    | j + 2, hj => simp at hj
  have HF := Lib.hid (free5_calls [x, y] (by simpa using hxy) (by simp) (fun _ => True) (some ⟨g, o, none⟩) c2 so nn mm a3 c3 _ hsl)
  have HU := Lib.hid ((Upto.refl [] w).alloc (.cells #[.int .i64 5, .slice (some ⟨g, o, none⟩) 2 c2, .int .i64 so, .int .i64 nn, .int .i64 mm, .slice a3 0 c3] 30))
  clear h h6 h7 h8 hsl
  go_enter Tryd.func35, Tryd.ntmps35
  go_wp2_with fail
  refine HF.out.mono ?_
  rintro e w1 ⟨vo, rfl, ht⟩
  have HT := Lib.hid (show TxI w [x, y] vo w1 from ⟨ht.row, fun g hg => Nat.le_trans HU.out.size (ht.own g hg), HU.out.trans_ext ht.up⟩)
  obtain ⟨va, vc, rfl, -⟩ := ownsRow_len ht.row
  clear ht
  go_wp2_with fail
  go_ret
  exact ⟨_, rfl, HT.out⟩
theorem TxI.apps {w wr wr' : World} {ls ys : List (List UInt8)} {l : Value} {n m : Nat} {b' : Option Addr} {c' : Nat} (h : TxI w ls l wr) (hn : ls.length = n) (hm : ys.length = m) (ho : wr'.ownsRow 0 9 1 (.slice b' (n + m) c') (n + m) (ls.map sV ++ ys.map sV)) (hu : Upto l.ownBlock.toList wr wr') (hw : ∀ g, (Value.slice b' (n + m) c').ownBlock = some g → l.ownBlock = some g ∨ wr.heap.size ≤ g) :
    TxI w (ls ++ ys) (.slice b' (n + m) c') wr' := by
  subst hn hm
  refine ⟨?_, fun g hg => (hw g hg).elim (h.own g) (fun h2 => Nat.le_trans h.up.size h2), h.up.trans hu (fun k hk => Or.inr (h.own k (Option.mem_toList.1 hk)))⟩
  rw [List.map_append, List.length_append]
  exact ho
/-- the quantifier's node: its name, its one operand, the operand's names, in three blocks -/
structure QnB (w : World) (g1 o1 gl ol g o : Nat) (c2 c3 : Nat) (so nn mm : Int) (a3 : Option Addr) (x0 x y : List UInt8) : Prop where
  n1 : ∃ cs t, w.heap[g1]? = some (.cells cs t (0, 0)) ∧ cs[o1]? = some (sV x0)
  l : ∃ cs t, w.heap[gl]? = some (.cells cs t (0, 0)) ∧ cs[ol]? = some (.int .i64 5) ∧ cs[ol + 1]? = some (.slice (some ⟨g, o, none⟩) 2 c2) ∧ cs[ol + 2]? = some (.int .i64 so) ∧ cs[ol + 3]? = some (.int .i64 nn) ∧ cs[ol + 4]? = some (.int .i64 mm) ∧ cs[ol + 5]? = some (.slice a3 0 c3)
  nm : ∃ t cs, NmB w g o t cs x y
  cap : 2 ≤ c2
theorem QnB.ext {w w' : World} {g1 o1 gl ol g o : Nat} {c2 c3 : Nat} {so nn mm : Int} {a3 : Option Addr} {x0 x y : List UInt8} (h : QnB w g1 o1 gl ol g o c2 c3 so nn mm a3 x0 x y) (hu : Upto [] w w') : QnB w' g1 o1 gl ol g o c2 c3 so nn mm a3 x0 x y := by
  obtain ⟨cs, t, h1, h2⟩ := h.n1
  obtain ⟨ds, u, h3, h4⟩ := h.l
  obtain ⟨t2, cs2, h5⟩ := h.nm
  exact ⟨⟨cs, t, hu.at h1 (by simp), h2⟩, ⟨ds, u, hu.at h3 (by simp), h4⟩, ⟨t2, cs2, h5.ext hu⟩, h.cap⟩
theorem QnB.cells {w : World} {g1 o1 gl ol g o : Nat} {c2 c3 : Nat} {so nn mm : Int} {a3 : Option Addr} {x0 x y : List UInt8} (h : QnB w g1 o1 gl ol g o c2 c3 so nn mm a3 x0 x y) : w.cell? ⟨g1, o1, none⟩ = some (sV x0) ∧ w.frozen? ⟨g1, o1, none⟩ = false ∧ w.cell? ⟨gl, ol, none⟩ = some (.int .i64 5) ∧ w.cell? ⟨gl, ol + 1, none⟩ = some (.slice (some ⟨g, o, none⟩) 2 c2) ∧ w.cell? ⟨gl, ol + 2, none⟩ = some (.int .i64 so) ∧ w.cell? ⟨gl, ol + 3, none⟩ = some (.int .i64 nn) ∧ w.cell? ⟨gl, ol + 4, none⟩ = some (.int .i64 mm) ∧ w.cell? ⟨gl, ol + 5, none⟩ = some (.slice a3 0 c3) := by
  obtain ⟨cs, t, h1, h2⟩ := h.n1
  obtain ⟨ds, u, h3, k0, k1, k2, k3, k4, k5⟩ := h.l
  exact ⟨by rw [cell_of h1]; exact h2, free_of h1 _, by rw [cell_of h3]; exact k0, by rw [cell_of h3]; exact k1, by rw [cell_of h3]; exact k2, by rw [cell_of h3]; exact k3, by rw [cell_of h3]; exact k4, by rw [cell_of h3]; exact k5⟩
theorem QnB.frozen {w : World} {g1 o1 gl ol g o : Nat} {c2 c3 : Nat} {so nn mm : Int} {a3 : Option Addr} {x0 x y : List UInt8} (h : QnB w g1 o1 gl ol g o c2 c3 so nn mm a3 x0 x y) (i : Nat) : w.frozen? ⟨gl, i, none⟩ = false := by
  obtain ⟨ds, u, h3, -⟩ := h.l
  exact free_of h3 _
theorem QnB.same {w : World} {g1 o1 gl ol g o : Nat} {c2 c3 : Nat} {so nn mm : Int} {a3 : Option Addr} {x0 x y : List UInt8} (h : QnB w g1 o1 gl ol g o c2 c3 so nn mm a3 x0 x y) : (((((w.setCell ⟨gl, ol, none⟩ (.int .i64 5)).setCell ⟨gl, ol + 1, none⟩ (.slice (some ⟨g, o, none⟩) 2 c2)).setCell ⟨gl, ol + 2, none⟩ (.int .i64 so)).setCell ⟨gl, ol + 3, none⟩ (.int .i64 nn)).setCell ⟨gl, ol + 4, none⟩ (.int .i64 mm)).setCell ⟨gl, ol + 5, none⟩ (.slice a3 0 c3) = w := by
  obtain ⟨ds, u, h3, k0, k1, k2, k3, k4, k5⟩ := h.l
  rw [set_zero h3 _ _ k0, set_zero h3 _ _ k1, set_zero h3 _ _ k2, set_zero h3 _ _ k3, set_zero h3 _ _ k4, set_zero h3 _ _ k5]
theorem QnB.setn {w : World} {g1 o1 gl ol g o : Nat} {c2 c3 : Nat} {so nn mm : Int} {a3 : Option Addr} {x0 x y : List UInt8} (h : QnB w g1 o1 gl ol g o c2 c3 so nn mm a3 x0 x y) (hd : g1 ≠ gl ∧ g1 ≠ g ∧ gl ≠ g) (z : List UInt8) : QnB (w.setCell ⟨g1, o1, none⟩ (sV z)) g1 o1 gl ol g o c2 c3 so nn mm a3 z x y := by
  obtain ⟨cs, t, h1, h2⟩ := h.n1
  obtain ⟨ds, u, h3, h4⟩ := h.l
  obtain ⟨t2, cs2, h5⟩ := h.nm
  have hlt := (Array.getElem?_eq_some_iff.1 h2).1
  have hup : Upto [g1] w (w.setCell ⟨g1, o1, none⟩ (sV z)) := (Upto.refl [g1] w).setCell (p := ⟨g1, o1, none⟩) (Or.inl (by simp)) _
  exact ⟨⟨_, t, set_same h1 o1 (sV z), by rw [Array.getElem?_setIfInBounds_self_of_lt hlt]⟩, ⟨ds, u, hup.at h3 (by simp; omega), h4⟩, ⟨t2, cs2, h5.upto hup (by simp; omega)⟩, h.cap⟩
theorem QnB.away {w w' : World} {S : List Nat} {g1 o1 gl ol g o : Nat} {c2 c3 : Nat} {so nn mm : Int} {a3 : Option Addr} {x0 x y : List UInt8} (h : QnB w g1 o1 gl ol g o c2 c3 so nn mm a3 x0 x y) (hu : Upto S w w') (hs : g1 ∉ S ∧ gl ∉ S ∧ g ∉ S) : QnB w' g1 o1 gl ol g o c2 c3 so nn mm a3 x0 x y := by
  obtain ⟨cs, t, h1, h2⟩ := h.n1
  obtain ⟨ds, u, h3, h4⟩ := h.l
  obtain ⟨t2, cs2, h5⟩ := h.nm
  exact ⟨⟨cs, t, hu.at h1 hs.1, h2⟩, ⟨ds, u, hu.at h3 hs.2.1, h4⟩, ⟨t2, cs2, h5.upto hu hs.2.2⟩, h.cap⟩
theorem QnB.leaf {w w' : World} {g1 o1 gl ol g o : Nat} {c2 c3 : Nat} {so nn mm : Int} {a3 : Option Addr} {x0 x y x' y' : List UInt8} (h : QnB w g1 o1 gl ol g o c2 c3 so nn mm a3 x0 x y) (hd : g1 ≠ gl ∧ g1 ≠ g ∧ gl ≠ g) (hu : Upto [g] w w') {t : TypeId} {cs : Array Value} (hn : NmB w' g o t cs x' y') : QnB w' g1 o1 gl ol g o c2 c3 so nn mm a3 x0 x' y' := by
  obtain ⟨cs1, t1, h1, h2⟩ := h.n1
  obtain ⟨ds, u, h3, h4⟩ := h.l
  exact ⟨⟨cs1, t1, hu.at h1 (by simp; omega), h2⟩, ⟨ds, u, hu.at h3 (by simp; omega), h4⟩, ⟨t, cs, hn⟩, h.cap⟩
set_option maxRecDepth 100000 in
set_option maxHeartbeats 6400000 in
theorem rename16_calls (g1 o1 c1 gl ol cl g o c2 c3 : Nat) (so nn mm : Int) (a3 : Option Addr) (w : World) (he : Env w) (hd : g1 ≠ gl ∧ g1 ≠ g ∧ gl ≠ g) (h : QnB w g1 o1 gl ol g o c2 c3 so nn mm a3 [121] [120] [121]) : Calls Tryd.prog 20 #[.agg #[.int .i64 16, .slice (some ⟨g1, o1, none⟩) 1 c1, .int .i64 0, .int .i64 0, .int .i64 0, .slice (some ⟨gl, ol, none⟩) 1 cl], .string ⟨[120].toArray⟩, .string ⟨[121].toArray⟩] w fun e w' => e = .returned (.agg #[.int .i64 16, .slice (some ⟨g1, o1, none⟩) 1 c1, .int .i64 0, .int .i64 0, .int .i64 0, .slice (some ⟨gl, ol, none⟩) 1 cl]) ∧ QnB w' g1 o1 gl ol g o c2 c3 so nn mm a3 [121, 50] [121] [121, 50] ∧ Upto [g1, gl, g] w w' := by
  have hlt : g1 < w.heap.size ∧ gl < w.heap.size ∧ g < w.heap.size := by
    obtain ⟨cs, t, h1, h2⟩ := h.n1
    obtain ⟨ds, u, h3, h4⟩ := h.l
    obtain ⟨t2, cs2, h5⟩ := h.nm
    obtain ⟨cs', h6, -⟩ := h5.st
    exact ⟨lt_of_heap h1, lt_of_heap h3, lt_of_heap h6⟩
  obtain ⟨W, hW⟩ : ∃ W, W = (w.alloc (.cells #[.int .i64 16, .slice (some ⟨g1, o1, none⟩) 1 c1, .int .i64 0, .int .i64 0, .int .i64 0, .slice (some ⟨gl, ol, none⟩) 1 cl] 30)).alloc (.cells #[.int .i64 0, .slice none 0 0, .int .i64 0, .int .i64 0, .int .i64 0, .slice none 0 0] 30) := ⟨_, rfl⟩
  have HU : Hid (Upto [] w W) := Lib.hid (by rw [hW]; exact ((Upto.refl [] w).alloc _).alloc _)
  have HB1 : Hid (W.heap[w.heap.size]? = some (.cells #[.int .i64 16, .slice (some ⟨g1, o1, none⟩) 1 c1, .int .i64 0, .int .i64 0, .int .i64 0, .slice (some ⟨gl, ol, none⟩) 1 cl] 30 (0, 0))) := Lib.hid (by rw [hW]; exact alloc_old (new_at w _) _)
  have HB2 : Hid (W.heap[w.heap.size + 1]? = some (.cells #[.int .i64 0, .slice none 0 0, .int .i64 0, .int .i64 0, .int .i64 0, .slice none 0 0] 30 (0, 0))) := Lib.hid (by rw [hW]; exact new_at1 w _ _)
  have HBI := Lib.hid (fun u => binds16_calls (some ⟨g1, o1, none⟩) 1 c1 0 0 0 (some ⟨gl, ol, none⟩) 1 cl (by omega) u)
  have HUS := Lib.hid (fun u => uses16_calls (some ⟨g1, o1, none⟩) 1 c1 0 0 0 (some ⟨gl, ol, none⟩) 1 cl u)
  have HFR : Hid (∀ (u : World), QnB u g1 o1 gl ol g o c2 c3 so nn mm a3 [121] [120] [121] → Calls Tryd.prog 35 #[.agg #[.int .i64 5, .slice (some ⟨g, o, none⟩) 2 c2, .int .i64 so, .int .i64 nn, .int .i64 mm, .slice a3 0 c3]] u fun e w' => ∃ vo, e = .returned vo ∧ TxI u [[120], [121]] vo w') := Lib.hid (fun u hn => by
    obtain ⟨t2, cs2, h5⟩ := hn.nm
    exact freeT_calls g o c2 t2 cs2 [120] [121] (by decide) hn.cap so nn mm a3 c3 u h5)
  have HBO := Lib.hid (fun u => bound5_calls (some ⟨g, o, none⟩) 2 c2 so nn mm a3 c3 u)
  obtain ⟨i0, hi0, hz0, hz1, hz2⟩ := info9'
  have HI0 := Lib.hid hi0
  have HZ0 := Lib.hid hz0
  have HZ1 := Lib.hid hz1
  have HZ2 := Lib.hid hz2
  have HQ := Lib.hid (h.ext HU.out)
  have HLT := Lib.hid hlt
  have HD := Lib.hid hd
  have HE := Lib.hid he
  obtain ⟨x0, x1, x2, x3, x4, x5⟩ := cells6 HB1.out
  clear h hlt hd he hi0 hz0 hz1 hz2
  go_enter Tryd.func20, Tryd.ntmps20
  go_wp2_with fail
  simp only [← hW]
  clear hW
  go_wp2_with fail
  refine (HBI.out _).mono ?_
  rintro e w1 ⟨rfl, hu1⟩
  have HU1 := Lib.hid hu1
  have HC1 := Lib.hid (hu1.at HB1.out (by simp))
  have HQ1 := Lib.hid (HQ.out.ext hu1)
  clear hu1 x0 x1 x2 x3 x4 x5
  obtain ⟨x0, x1, x2, x3, x4, x5⟩ := cells6 HC1.out
  obtain ⟨n0, nf, l0, l1, l2, l3, l4, l5⟩ := HQ1.out.cells
  unfold sV at n0
  go_wp2_with fail
  refine (HBI.out _).mono ?_
  rintro e w2 ⟨rfl, hu2⟩
  have HU2 := Lib.hid (HU1.out.trans_ext hu2)
  have HC2 := Lib.hid (HU2.out.at HB1.out (by simp))
  have HQ2 := Lib.hid (HQ1.out.ext hu2)
  clear hu2 x0 x1 x2 x3 x4 x5 n0 nf l0 l1 l2 l3 l4 l5
  obtain ⟨x0, x1, x2, x3, x4, x5⟩ := cells6 HC2.out
  obtain ⟨n0, nf, l0, l1, l2, l3, l4, l5⟩ := HQ2.out.cells
  unfold sV at n0
  go_wp2_with fail
  refine (HFR.out _ HQ2.out).mono ?_
  rintro e w3 ⟨vo, rfl, ht⟩
  have HU3 := Lib.hid (HU2.out.trans_ext ht.up)
  have HC3 := Lib.hid (ht.up.at HC2.out (by simp))
  have HQ3 := Lib.hid (HQ2.out.ext ht.up)
  have HCO := Lib.hid (containsS_calls [[120], [121]] [120] vo w3 _ ht.slp (by simp))
  obtain ⟨va, vc, rfl, -⟩ := ownsRow_len ht.row
  clear ht x0 x1 x2 x3 x4 x5 n0 nf l0 l1 l2 l3 l4 l5
  go_wp2_with fail
  refine HCO.out.mono ?_
  rintro e w4 ⟨rfl, rfl⟩
  rw [show ([[120], [121]] : List (List UInt8)).contains [120] = true from rfl]
  go_wp2_with fail
  have e5 : ∀ u : Ext w4, u.w.cell? ⟨w.heap.size, 5, none⟩ = some (.slice (some ⟨gl, ol, none⟩) 1 cl) := fun u => u.cell (cell_of HC3.out 5)
  obtain ⟨-, -, l0, l1, l2, l3, l4, l5⟩ := HQ3.out.cells
  have k0 : ∀ u : Ext w4, u.w.cell? ⟨gl, ol, none⟩ = some (.int .i64 5) := fun u => u.cell l0
  have k1 : ∀ u : Ext w4, u.w.cell? ⟨gl, ol + 1, none⟩ = some (.slice (some ⟨g, o, none⟩) 2 c2) := fun u => u.cell l1
  have k2 : ∀ u : Ext w4, u.w.cell? ⟨gl, ol + 2, none⟩ = some (.int .i64 so) := fun u => u.cell l2
  have k3 : ∀ u : Ext w4, u.w.cell? ⟨gl, ol + 3, none⟩ = some (.int .i64 nn) := fun u => u.cell l3
  have k4 : ∀ u : Ext w4, u.w.cell? ⟨gl, ol + 4, none⟩ = some (.int .i64 mm) := fun u => u.cell l4
  have k5 : ∀ u : Ext w4, u.w.cell? ⟨gl, ol + 5, none⟩ = some (.slice a3 0 c3) := fun u => u.cell l5
  clear l0 l1 l2 l3 l4 l5
  refine wp_region_seg_at [4, 9] [] [0, 1, 2, 3, 4, 5, 6, 7, 8, 9] [10, 11] 10 (by kernel_rfl) (by kernel_rfl) (by kernel_rfl) ?_
  iterate 4 (refine seg_plain rfl rfl rfl rfl rfl ?_; intro K' hK'; go_big_quiet_op; go_big_quiet_on)
  refine seg_callO (Y := Option Addr × Nat) (fun tt => .slice tt.1 2 tt.2) (fun tt u => TxI w4 [[120], [121]] (.slice tt.1 2 tt.2) u) (fun _ => []) rfl rfl rfl rfl (fun _ _ _ h hu => h.ext hu) (fun _ => List.nodup_nil) (fun w => by go_simp) (fun w hu hd => (HFR.out w (HQ3.out.ext hu)).mono fun e w' ⟨vo, h1, h2⟩ => by
    obtain ⟨va, vc, rfl, -⟩ := ownsRow_len h2.row
    exact ⟨(va, vc), h1, h2.up, ⟨h2.row, fun g hg => Nat.le_trans hu.size (h2.own g hg), hu.trans_ext h2.up⟩, fun b hb => by cases hb⟩) ?_
  rintro ⟨fa, fc⟩
  simp only [Act.put, List.setIfInBounds_toArray, List.set_cons_zero, List.set_cons_succ]
  iterate 4 (refine seg_plain rfl rfl rfl rfl rfl ?_; intro K' hK'; go_big_quiet_op; go_big_quiet_on)
  refine seg_call rfl rfl rfl rfl (fun w => by go_simp) (fun w hu hd => HBO.out w) ?_
  simp only [Act.put, List.setIfInBounds_toArray, List.set_cons_zero, List.set_cons_succ]
  intro w10 hg
  have HU10 := Lib.hid hg.up
  have HT10 : Hid (TxI w4 [[120], [121]] (.slice fa 2 fc) w10) := Lib.hid hg.hold.1
  simp only [List.drop_succ_cons, List.drop_zero]
  have hrow := HT10.out.row
  clear hg e5 k0 k1 k2 k3 k4 k5
  go_wp2_with (at_builtin; first
    | (refine wpList_apps _ rfl (.tmp 48) (.tmp 53) 22 rfl 9 i0 (.string ⟨#[]⟩) 16 Tryd.underlying22 HI0.out HZ0.out HZ1.out HZ2.out rfl (.slice fa 2 fc) 2 _ rfl hrow (.slice none 0 0) [] rfl (Or.inl ⟨rfl, none, 0, rfl⟩) (by simp) (by simp [maxLen]) (by simp) ?_; intro vb vd w11 ho hu hw; have HM := Lib.hid (HT10.out.apps (ys := []) rfl rfl ho hu hw); clear hrow ho hu hw; have HT11 : Hid (TxI w4 [[120], [121]] (.slice vb 2 vd) (w11.alloc (.cells #[.string ⟨#[120]⟩, .string ⟨#[121]⟩] 9))) := Lib.hid (HM.out.ext ((Upto.refl [] _).alloc _)); have hrow2 := HT11.out.row; have hsrc2 := cells_at (l := [sV [120], sV [121]]) (new_at w11 (.cells #[.string ⟨#[120]⟩, .string ⟨#[121]⟩] 9)))
    | (refine wpList_app _ rfl (.tmp 56) (.tmp 59) 22 rfl 9 i0 (.string ⟨#[]⟩) 1 16 Tryd.underlying22 HI0.out HZ0.out HZ1.out HZ2.out rfl (by decide) (.slice vb 2 vd) 2 _ rfl hrow2 ⟨w11.heap.size, 0, none⟩ 2 2 [sV [120], sV [121]] rfl rfl hsrc2 (by simp [Value.oneCell', sV]) (by simp [maxLen]) (by simp) ?_; intro vb2 vd2 w12 ho hu hw; have HN := Lib.hid (HT11.out.apps (ys := [[120], [121]]) rfl rfl ho hu hw); clear hrow2 hsrc2 ho hu hw))
  have HFP := Lib.hid (freshP_calls [121] [[120], [121], [120], [121]] (.slice vb2 4 vd2) w12 _ HN.out.slp (by simp) (by simp) (HE.out.ext (HU.out.trans_ext (HU3.out.trans_ext HN.out.up))))
  refine HFP.out.mono ?_
  rintro e w13 ⟨rfl, hu13⟩
  rw [fresh_y]
  have HU4 := Lib.hid (HN.out.up.trans_ext hu13)
  have HQ13 := Lib.hid (HQ3.out.ext HU4.out)
  have HC13 := Lib.hid (HU4.out.at HC3.out (by simp))
  have HU13 := Lib.hid (HU.out.trans_ext (HU3.out.trans_ext HU4.out))
  clear hu13 HFP HM HT11 HN HT10 HU10 HCO
  obtain ⟨n0, nf, -⟩ := HQ13.out.cells
  unfold sV at n0
  obtain ⟨x0, x1, x2, x3, x4, x5⟩ := cells6 HC13.out
  go_wp2_with fail
  obtain ⟨W14, hW14⟩ : ∃ W14, W14 = w13.setCell ⟨g1, o1, none⟩ (.string ⟨#[121, 50]⟩) := ⟨_, rfl⟩
  have HS14 : Hid (Upto [g1] w13 W14) := Lib.hid (by rw [hW14]; exact (Upto.refl [g1] w13).setCell (p := ⟨g1, o1, none⟩) (Or.inl (by simp)) _)
  have HQ14 : Hid (QnB W14 g1 o1 gl ol g o c2 c3 so nn mm a3 [121, 50] [120] [121]) := Lib.hid (by rw [hW14]; exact HQ13.out.setn HD.out [121, 50])
  have HC14 := Lib.hid (HS14.out.at HC13.out (by have := HLT.out.1; simp; omega))
  have HZ14 := Lib.hid (HS14.out.at (HU4.out.at (HU3.out.at HB2.out (by simp)) (by simp)) (by have := HLT.out.1; simp; omega))
  have HU14 : Hid (Upto [g1, gl, g] w W14) := Lib.hid ((HU13.out.mono (by simp)).trans_same (HS14.out.mono (by simp)))
  simp only [← hW14]
  clear hW14 x0 x1 x2 x3 x4 x5 n0 nf
  have x5 := cell_of HC14.out 5
  simp only [List.getElem?_toArray, List.getElem?_cons_zero, List.getElem?_cons_succ] at x5
  obtain ⟨-, -, l0, l1, l2, l3, l4, l5⟩ := HQ14.out.cells
  obtain ⟨t15, cs15, hn15⟩ := HQ14.out.nm
  have HRN := Lib.hid (rename5_calls g o c2 t15 cs15 [120] [121] [121] [121, 50] so nn mm a3 c3 W14.drew (hn15.ext (Upto.refl [] W14).drew))
  have HP : Hid (Upto [] W14 W14.drew) := Lib.hid (Upto.refl [] W14).drew
  have HR1 : Hid (rpF [121] [121, 50] [120] = [120] ∧ rpF [121] [121, 50] [121] = [121, 50]) := Lib.hid ⟨by decide, by decide⟩
  clear hn15
  go_region_with (refine HRN.out.mono ?_
                  rintro e w16 ⟨rfl, hn16, hu16⟩
                  rw [HR1.out.1, HR1.out.2] at hn16
                  have HQ16 := Lib.hid ((HQ14.out.ext HP.out).leaf HD.out hu16 hn16)
                  have HU16 := Lib.hid ((HU14.out.trans_ext HP.out).trans_same (hu16.mono (by simp)))
                  have HC16 := Lib.hid (hu16.at (HP.out.at HC14.out (by simp)) (by have := HLT.out.2.2; simp; omega))
                  have HZ16 := Lib.hid (hu16.at (HP.out.at HZ14.out (by simp)) (by have := HLT.out.2.2; simp; omega))
                  have z5 := cell_of HC16.out 5
                  simp only [List.getElem?_toArray, List.getElem?_cons_zero, List.getElem?_cons_succ] at z5
                  clear hn16 hu16
                  obtain ⟨-, -, m0, m1, m2, m3, m4, m5⟩ := HQ16.out.cells
                  have f0 := HQ16.out.frozen ol
                  have f1 := HQ16.out.frozen (ol + 1)
                  have f2 := HQ16.out.frozen (ol + 2)
                  have f3 := HQ16.out.frozen (ol + 3)
                  have f4 := HQ16.out.frozen (ol + 4)
                  have f5 := HQ16.out.frozen (ol + 5))
  all_goals
    simp only [HQ16.out.same]
    clear x5 l0 l1 l2 l3 l4 l5 z5 m0 m1 m2 m3 m4 m5 f0 f1 f2 f3 f4 f5
    obtain ⟨x0, x1, x2, x3, x4, x5⟩ := cells6 HC16.out
    go_wp2_with fail
    refine (HUS.out _).mono ?_
    rintro e w17 ⟨rfl, hu17⟩
    have HC17 := Lib.hid (hu17.at HC16.out (by simp))
    have HQ17 := Lib.hid (HQ16.out.ext hu17)
    have HZ17 := Lib.hid (hu17.at HZ16.out (by simp))
    have HU17 := Lib.hid (HU16.out.trans_ext hu17)
    clear hu17 x0 x1 x2 x3 x4 x5
    have x5 := cell_of HC17.out 5
    simp only [List.getElem?_toArray, List.getElem?_cons_zero, List.getElem?_cons_succ] at x5
    go_wp2_with fail
    go_loopw [80] (fun v wr => v = .int .i64 0 ∧ wr = w17) (fun _ _ => 0)
    case atStart => exact ⟨rfl, rfl⟩
    case round =>
      obtain ⟨rfl, rfl⟩ := hrel
      go_wp2_with fail
      go_loopw [96] (fun v wr => ∃ j : Nat, j ≤ 1 ∧ v = .int .i64 j ∧ Hid (QnB wr g1 o1 gl ol g o c2 c3 so nn mm a3 [121, 50] (if j = 0 then [120] else [121]) [121, 50] ∧ wr.heap[w.heap.size]? = some (.cells #[.int .i64 16, .slice (some ⟨g1, o1, none⟩) 1 c1, .int .i64 0, .int .i64 0, .int .i64 0, .slice (some ⟨gl, ol, none⟩) 1 cl] 30 (0, 0)) ∧ wr.heap[w.heap.size + 1]? = some (.cells #[.int .i64 0, .slice none 0 0, .int .i64 0, .int .i64 0, .int .i64 0, .slice none 0 0] 30 (0, 0)) ∧ Upto [g1, gl, g] w wr)) (fun v _ => 1 - (intOf v).toNat)
      case atStart => exact ⟨0, by omega, rfl, Lib.hid ⟨HQ17.out, HC17.out, HZ17.out, HU17.out⟩⟩
      case round =>
        obtain ⟨j, hj, rfl, HJ⟩ := hrel
        obtain rfl | rfl : j = 0 ∨ j = 1 := by omega
        · replace HJ : Hid (QnB wr g1 o1 gl ol g o c2 c3 so nn mm a3 [121, 50] [120] [121, 50] ∧ wr.heap[w.heap.size]? = some (.cells #[.int .i64 16, .slice (some ⟨g1, o1, none⟩) 1 c1, .int .i64 0, .int .i64 0, .int .i64 0, .slice (some ⟨gl, ol, none⟩) 1 cl] 30 (0, 0)) ∧ wr.heap[w.heap.size + 1]? = some (.cells #[.int .i64 0, .slice none 0 0, .int .i64 0, .int .i64 0, .int .i64 0, .slice none 0 0] 30 (0, 0)) ∧ Upto [g1, gl, g] w wr) := Lib.hid (by simpa using HJ.out)
          obtain ⟨x0, x1, x2, x3, x4, x5⟩ := cells6 HJ.out.2.1
          obtain ⟨-, -, l0, l1, l2, l3, l4, l5⟩ := HJ.out.1.cells
          go_wp2_with fail
          obtain ⟨W18, hW18⟩ : ∃ W18, W18 = wr.alloc (.cells #[.int .i64 5, .slice (some ⟨g, o, none⟩) 2 c2, .int .i64 so, .int .i64 nn, .int .i64 mm, .slice a3 0 c3] 30) := ⟨_, rfl⟩
          have HA18 : Hid (Upto [] wr W18) := Lib.hid (by rw [hW18]; exact (Upto.refl [] wr).alloc _)
          have HL18 : Hid (W18.heap[wr.heap.size]? = some (.cells #[.int .i64 5, .slice (some ⟨g, o, none⟩) 2 c2, .int .i64 so, .int .i64 nn, .int .i64 mm, .slice a3 0 c3] 30 (0, 0))) := Lib.hid (by rw [hW18]; exact new_at wr _)
          simp only [← hW18]
          have HP2 : Hid (Upto [] wr W18.drew) := Lib.hid HA18.out.drew
          have HC18 := Lib.hid (HA18.out.at HJ.out.2.1 (by simp))
          clear hW18 x0 x1 x2 x3 x4 x5 l0 l1 l2 l3 l4 l5
          have x5 := cell_of HC18.out 5
          simp only [List.getElem?_toArray, List.getElem?_cons_zero, List.getElem?_cons_succ] at x5
          obtain ⟨y0, y1, y2, y3, y4, y5⟩ := cells6 HL18.out
          obtain ⟨t19, cs19, hn19⟩ := HJ.out.1.nm
          have HRM := Lib.hid (rename5_calls g o c2 t19 cs19 [120] [121, 50] [120] [121] so nn mm a3 c3 W18.drew (hn19.ext HP2.out))
          have HR2 : Hid (rpF [120] [121] [120] = [121] ∧ rpF [120] [121] [121, 50] = [121, 50]) := Lib.hid ⟨by decide, by decide⟩
          clear hn19
          go_region_with (refine HRM.out.mono ?_
                          rintro e w20 ⟨rfl, hn20, hu20⟩
                          rw [HR2.out.1, HR2.out.2] at hn20
                          have HJ20 := Lib.hid (And.intro ((HJ.out.1.ext HP2.out).leaf HD.out hu20 hn20) (And.intro (hu20.at (HP2.out.at HJ.out.2.1 (by simp)) (by have := HLT.out.2.2; simp; omega)) (And.intro (hu20.at (HP2.out.at HJ.out.2.2.1 (by simp)) (by have := HLT.out.2.2; simp; omega)) ((HJ.out.2.2.2.trans_ext HP2.out).trans_same (hu20.mono (by simp))))))
                          have z5 := cell_of HJ20.out.2.1 5
                          simp only [List.getElem?_toArray, List.getElem?_cons_zero, List.getElem?_cons_succ] at z5
                          clear hn20 hu20
                          obtain ⟨-, -, m0, m1, m2, m3, m4, m5⟩ := HJ20.out.1.cells
                          have f0 := HJ20.out.1.frozen ol
                          have f1 := HJ20.out.1.frozen (ol + 1)
                          have f2 := HJ20.out.1.frozen (ol + 2)
                          have f3 := HJ20.out.1.frozen (ol + 3)
                          have f4 := HJ20.out.1.frozen (ol + 4)
                          have f5 := HJ20.out.1.frozen (ol + 5))
          all_goals
            simp only [HJ20.out.1.same]
            clear x5 y0 y1 y2 y3 y4 y5 z5 m0 m1 m2 m3 m4 m5 f0 f1 f2 f3 f4 f5
            go_wp2_with fail
            exact ⟨⟨1, by omega, rfl, Lib.hid (by simpa using HJ20.out)⟩, by simp [intOf]⟩
        · replace HJ : Hid (QnB wr g1 o1 gl ol g o c2 c3 so nn mm a3 [121, 50] [121] [121, 50] ∧ wr.heap[w.heap.size]? = some (.cells #[.int .i64 16, .slice (some ⟨g1, o1, none⟩) 1 c1, .int .i64 0, .int .i64 0, .int .i64 0, .slice (some ⟨gl, ol, none⟩) 1 cl] 30 (0, 0)) ∧ wr.heap[w.heap.size + 1]? = some (.cells #[.int .i64 0, .slice none 0 0, .int .i64 0, .int .i64 0, .int .i64 0, .slice none 0 0] 30 (0, 0)) ∧ Upto [g1, gl, g] w wr) := Lib.hid (by simpa using HJ.out)
          obtain ⟨x0, x1, x2, x3, x4, x5⟩ := cells6 HJ.out.2.1
          obtain ⟨y0, y1, y2, y3, y4, y5⟩ := cells6 HJ.out.2.2.1
          obtain ⟨f0, f1, f2, f3, f4, f5⟩ := frees6 HJ.out.2.2.1
          go_wp2_with fail
          clear x0 x1 x2 x3 x4 x5 y0 y1 y2 y3 y4 y5 f0 f1 f2 f3 f4 f5
          have hst := nd_store HJ.out.2.2.1 (.int .i64 16) (.slice (some ⟨g1, o1, none⟩) 1 c1) (.int .i64 0) (.int .i64 0) (.int .i64 0) (.slice (some ⟨gl, ol, none⟩) 1 cl)
          have hself := nd_self wr (w.heap.size + 1) (.int .i64 16) (.slice (some ⟨g1, o1, none⟩) 1 c1) (.int .i64 0) (.int .i64 0) (.int .i64 0) (.slice (some ⟨gl, ol, none⟩) 1 cl)
          have hup := nd_up HJ.out.2.2.2 (B := w.heap.size + 1) (Or.inr (by omega)) (.int .i64 16) (.slice (some ⟨g1, o1, none⟩) 1 c1) (.int .i64 0) (.int .i64 0) (.int .i64 0) (.slice (some ⟨gl, ol, none⟩) 1 cl)
          have hqn := HJ.out.1.away hself (by have := HLT.out; simp; omega)
          obtain ⟨q0, q1, q2, q3, q4, q5⟩ := cells6 hst
          exact bodyPost_ret (v := .agg #[.int .i64 16, .slice (some ⟨g1, o1, none⟩) 1 c1, .int .i64 0, .int .i64 0, .int .i64 0, .slice (some ⟨gl, ol, none⟩) 1 cl]) (by simp [results, Tryd.results20, go_sem, q0, q1, q2, q3, q4, q5]) rfl ⟨rfl, hqn, hup⟩
end Go.Proofs.YtbnebkkpmcjmbaaDoor


namespace Go.Proofs.YtbnebkkpmcjmbaaDoor
open Go.RowKit Go.PL Go.Maps
set_option maxRecDepth 100000 in
set_option maxHeartbeats 1600000 in
theorem rank5_calls (a1 : Option Addr) (n1 c1 : Nat) (so nn mm : Int) (a2 : Option Addr) (c2 : Nat) (w : World) : Calls Tryd.prog 10 #[.agg #[.int .i64 5, .slice a1 n1 c1, .int .i64 so, .int .i64 nn, .int .i64 mm, .slice a2 0 c2]] w fun e w' => e = .returned (.int .i64 0) ∧ Upto [] w w' := by
  have HU := Lib.hid ((Upto.refl [] w).alloc (.cells #[.int .i64 5, .slice a1 n1 c1, .int .i64 so, .int .i64 nn, .int .i64 mm, .slice a2 0 c2] 30))
  have HB := Lib.hid (new_at w (.cells #[.int .i64 5, .slice a1 n1 c1, .int .i64 so, .int .i64 nn, .int .i64 mm, .slice a2 0 c2] 30))
  have HBI := Lib.hid (fun u => binds5_calls a1 n1 c1 so nn mm a2 0 c2 u)
  obtain ⟨W, hW⟩ : ∃ W, W = w.alloc (.cells #[.int .i64 5, .slice a1 n1 c1, .int .i64 so, .int .i64 nn, .int .i64 mm, .slice a2 0 c2] 30) := ⟨_, rfl⟩
  rw [← hW] at HU HB
  go_enter Tryd.func10, Tryd.ntmps10
  go_wp2_with fail
  simp only [← hW]
  clear hW
  go_loopw [3, 9] (fun vo vi wr => vo = .int .i64 0 ∧ vi = .int .i64 0 ∧ wr = W) (fun _ _ _ => 0)
  case atStart => exact ⟨rfl, rfl, rfl⟩
  case round =>
    obtain ⟨rfl, rfl, rfl⟩ := hrel
    obtain ⟨x0, x1, x2, x3, x4, x5⟩ := cells6 HB.out
    go_wp2_with fail
    refine (HBI.out _).mono ?_
    rintro e w1 ⟨rfl, hu1⟩
    have HU1 := Lib.hid (HU.out.trans_ext hu1)
    clear hu1
    go_wp2_with fail
    go_ret
    exact ⟨rfl, HU1.out⟩
/-- the operand's six cells, now and later -/
def LfB (w : World) (gl ol : Nat) (a2 : Option Addr) (n2 c2 : Nat) (so nn mm : Int) (a3 : Option Addr) (c3 : Nat) : Prop := w.cell? ⟨gl, ol, none⟩ = some (.int .i64 5) ∧ w.cell? ⟨gl, ol + 1, none⟩ = some (.slice a2 n2 c2) ∧ w.cell? ⟨gl, ol + 2, none⟩ = some (.int .i64 so) ∧ w.cell? ⟨gl, ol + 3, none⟩ = some (.int .i64 nn) ∧ w.cell? ⟨gl, ol + 4, none⟩ = some (.int .i64 mm) ∧ w.cell? ⟨gl, ol + 5, none⟩ = some (.slice a3 0 c3)
theorem LfB.ext {w w' : World} {gl ol : Nat} {a2 : Option Addr} {n2 c2 : Nat} {so nn mm : Int} {a3 : Option Addr} {c3 : Nat} (h : LfB w gl ol a2 n2 c2 so nn mm a3 c3) (hu : Upto [] w w') : LfB w' gl ol a2 n2 c2 so nn mm a3 c3 := by
  have up : ∀ {p : Addr} {u : Value}, w.cell? p = some u → w'.cell? p = some u := fun hp => (hu.cell (World.block_lt_of_cell? w _ hp) (by simp)).trans hp
  obtain ⟨h0, h1, h2, h3, h4, h5⟩ := h
  exact ⟨up h0, up h1, up h2, up h3, up h4, up h5⟩
set_option maxRecDepth 100000 in
set_option maxHeartbeats 1600000 in
theorem rank16_calls (g1 o1 c1 gl ol cl : Nat) (a2 : Option Addr) (n2 c2 : Nat) (so nn mm : Int) (a3 : Option Addr) (c3 : Nat) (w : World) (h : LfB w gl ol a2 n2 c2 so nn mm a3 c3) : Calls Tryd.prog 10 #[.agg #[.int .i64 16, .slice (some ⟨g1, o1, none⟩) 1 c1, .int .i64 0, .int .i64 0, .int .i64 0, .slice (some ⟨gl, ol, none⟩) 1 cl]] w fun e w' => e = .returned (.int .i64 1) ∧ Upto [] w w' := by
  have HBI := Lib.hid (fun u => binds16_calls (some ⟨g1, o1, none⟩) 1 c1 0 0 0 (some ⟨gl, ol, none⟩) 1 cl (by omega) u)
  have HRK := Lib.hid (fun u => rank5_calls a2 n2 c2 so nn mm a3 c3 u)
  obtain ⟨W, hW⟩ : ∃ W, W = w.alloc (.cells #[.int .i64 16, .slice (some ⟨g1, o1, none⟩) 1 c1, .int .i64 0, .int .i64 0, .int .i64 0, .slice (some ⟨gl, ol, none⟩) 1 cl] 30) := ⟨_, rfl⟩
  have HU : Hid (Upto [] w W) := Lib.hid (by rw [hW]; exact (Upto.refl [] w).alloc _)
  have HB : Hid (W.heap[w.heap.size]? = some (.cells #[.int .i64 16, .slice (some ⟨g1, o1, none⟩) 1 c1, .int .i64 0, .int .i64 0, .int .i64 0, .slice (some ⟨gl, ol, none⟩) 1 cl] 30 (0, 0))) := Lib.hid (by rw [hW]; exact new_at w _)
  have HL := Lib.hid (h.ext HU.out)
  clear h
  go_enter Tryd.func10, Tryd.ntmps10
  go_wp2_with fail
  simp only [← hW]
  clear hW
  go_loopw [3, 9] (fun vo vi wr => ∃ j : Nat, j ≤ 1 ∧ vo = .int .i64 0 ∧ vi = .int .i64 j ∧ Hid (Upto [] W wr)) (fun _ vi _ => 1 - (intOf vi).toNat)
  case atStart => exact ⟨0, by omega, rfl, rfl, Lib.hid (Upto.refl _ _)⟩
  case round =>
    obtain ⟨j, hj, rfl, rfl, HI⟩ := hrel
    obtain rfl | rfl : j = 0 ∨ j = 1 := by omega
    · obtain ⟨l0, l1, l2, l3, l4, l5⟩ := HL.out.ext HI.out
      have HA := Lib.hid (HI.out.alloc (.cells #[.int .i64 5, .slice a2 n2 c2, .int .i64 so, .int .i64 nn, .int .i64 mm, .slice a3 0 c3] 30))
      go_wp2_with fail
      refine (HRK.out _).mono ?_
      rintro e w1 ⟨rfl, hu1⟩
      have HU1 := Lib.hid (HA.out.trans_ext hu1)
      clear hu1 l0 l1 l2 l3 l4 l5
      go_wp2_with fail
      exact ⟨⟨1, by omega, rfl, rfl, HU1⟩, by simp [intOf]⟩
    · have HB1 := Lib.hid (HI.out.at HB.out (by simp))
      obtain ⟨x0, x1, x2, x3, x4, x5⟩ := cells6 HB1.out
      go_wp2_with fail
      refine (HBI.out _).mono ?_
      rintro e w1 ⟨rfl, hu1⟩
      have HU1 := Lib.hid ((HU.out.trans_ext HI.out).trans_ext hu1)
      clear hu1
      go_wp2_with fail
      go_ret
      exact ⟨rfl, HU1.out⟩
end Go.Proofs.YtbnebkkpmcjmbaaDoor


namespace Go.Proofs.YtbnebkkpmcjmbaaDoor
open Go.RowKit Go.PL Go.Maps Go.Shelf
set_option maxRecDepth 100000 in
set_option maxHeartbeats 2000000 in
theorem mclone_calls (b : Nat) (es : Array MapEntry) (clock : Nat) (w : World) (hb : w.heap[b]? = some (.map es clock)) :
    Calls Tryd.prog 40 #[.map (some b)] w fun e w' => e = .returned (.map (some w.heap.size)) ∧ w' = w.alloc (.map es clock) := by
  have hq := fun w => run_eql_map_nil_sl (P := Tryd.prog) w 52 _ _ (some b) Tryd.underlying52
  go_enter Tryd.func40, Tryd.ntmps40
  go_wp2
  rw [run_callFunc_extern Tryd.func51 (by kernel_rfl) (by kernel_rfl) (by kernel_rfl) (e := Extern.MapsClone.clone) (by kernel_rfl), run_maps_clone_sl w 52 hb]
  simp only [Result.andThen]
  rw [Oper.upon_value]
  go_wp2
  rw [run_typeAssert_map_sl _ 52 20 _ _ _ Tryd.underlying52]
  simp only [Result.andThen]
  rw [Oper.upon_value]
  go_wp2
  go_ret
  exact ⟨rfl, rfl⟩
end Go.Proofs.YtbnebkkpmcjmbaaDoor


namespace Go.Proofs.YtbnebkkpmcjmbaaDoor
open Go.RowKit Go.PL Go.Maps
set_option maxRecDepth 100000 in
set_option maxHeartbeats 2000000 in
theorem atom_calls (g o c2 : Nat) (so nn mm : Int) (a3 : Option Addr) (n3 c3 : Nat) (b : Nat) (w : World) (h0 : w.cell? ⟨g, o, none⟩ = some (sV [120])) (hlk : ∀ u, Upto [] w u → (Instr.lookup 52 (.map (some b)) (.string ⟨#[120]⟩) true).run Tryd.prog u = .ok (.tuple #[.int .i64 0, .bool false]) u) : Calls Tryd.prog 39 #[.agg #[.int .i64 5, .slice (some ⟨g, o, none⟩) 2 c2, .int .i64 so, .int .i64 nn, .int .i64 mm, .slice a3 n3 c3], .map (some b)] w fun e w' => e = .returned (.agg #[.int .i64 21, .string ⟨#[120]⟩]) ∧ Upto [] w w' := by
  obtain ⟨W, hW⟩ : ∃ W, W = (w.alloc (.cells #[.int .i64 5, .slice (some ⟨g, o, none⟩) 2 c2, .int .i64 so, .int .i64 nn, .int .i64 mm, .slice a3 n3 c3] 30)).alloc (.cells #[.int .i64 0, .string ⟨#[]⟩] 35) := ⟨_, rfl⟩
  have HU : Hid (Upto [] w W) := Lib.hid (by rw [hW]; exact ((Upto.refl [] w).alloc _).alloc _)
  have HB1 : Hid (W.heap[w.heap.size]? = some (.cells #[.int .i64 5, .slice (some ⟨g, o, none⟩) 2 c2, .int .i64 so, .int .i64 nn, .int .i64 mm, .slice a3 n3 c3] 30 (0, 0))) := Lib.hid (by rw [hW]; exact alloc_old (new_at w _) _)
  obtain ⟨x0, x1⟩ := cells2 HB1.out
  have n0 := (HU.out.cell (World.block_lt_of_cell? w _ h0) (by simp)).trans h0
  unfold sV at n0
  have HB2 : Hid (W.heap[w.heap.size + 1]? = some (.cells #[.int .i64 0, .string ⟨#[]⟩] 35 (0, 0))) := Lib.hid (by rw [hW]; exact new_at1 w _ _)
  obtain ⟨y0, y1⟩ := cells2 HB2.out
  obtain ⟨f0, f1⟩ := frees2 HB2.out
  have hl := hlk W HU.out
  clear hlk h0
  go_enter Tryd.func39, Tryd.ntmps39
  go_wp2_with fail
  simp only [← hW]
  clear hW
  go_loopw [23] (fun vi wr => vi = .int .i64 0 ∧ wr = W) (fun _ _ => 0)
  case atStart => exact ⟨rfl, rfl⟩
  case round =>
    obtain ⟨rfl, rfl⟩ := hrel
    go_wp2_with fail
    clear x0 x1 y0 y1 f0 f1 n0 hl
    have hst := set_same (set_same HB2.out 0 (.int .i64 21)) 1 (.string ⟨#[120]⟩)
    simp only [List.setIfInBounds_toArray, List.set_cons_zero, List.set_cons_succ] at hst
    have hup := (HU.out.setCell (p := ⟨w.heap.size + 1, 0, none⟩) (Or.inr (by simp)) (.int .i64 21)).setCell (p := ⟨w.heap.size + 1, 1, none⟩) (Or.inr (by simp)) (.string ⟨#[120]⟩)
    obtain ⟨q0, q1⟩ := cells2 hst
    exact bodyPost_ret (v := .agg #[.int .i64 21, .string ⟨#[120]⟩]) (by simp [results, Tryd.results39, go_sem, q0, q1]) rfl ⟨rfl, hup⟩
end Go.Proofs.YtbnebkkpmcjmbaaDoor


namespace Go.Proofs.YtbnebkkpmcjmbaaDoor
open Go.RowKit Go.PL Go.Maps
set_option maxRecDepth 100000 in
set_option maxHeartbeats 2000000 in
theorem check5_calls (g o c2 : Nat) (so nn mm : Int) (a3 : Option Addr) (n3 c3 : Nat) (b : Nat) (w : World) (h0 : w.cell? ⟨g, o, none⟩ = some (sV [120])) (hlk : ∀ u, Upto [] w u → (Instr.lookup 52 (.map (some b)) (.string ⟨#[120]⟩) true).run Tryd.prog u = .ok (.tuple #[.int .i64 0, .bool false]) u) : Calls Tryd.prog 22 #[.agg #[.int .i64 5, .slice (some ⟨g, o, none⟩) 2 c2, .int .i64 so, .int .i64 nn, .int .i64 mm, .slice a3 n3 c3], .map (some b)] w fun e w' => e = .returned (.agg #[.int .i64 21, .string ⟨#[120]⟩]) ∧ Upto [] w w' := by
  obtain ⟨W, hW⟩ : ∃ W, W = (w.alloc (.cells #[.int .i64 5, .slice (some ⟨g, o, none⟩) 2 c2, .int .i64 so, .int .i64 nn, .int .i64 mm, .slice a3 n3 c3] 30)).alloc (.cells #[.int .i64 0, .string ⟨#[]⟩] 35) := ⟨_, rfl⟩
  have HU : Hid (Upto [] w W) := Lib.hid (by rw [hW]; exact ((Upto.refl [] w).alloc _).alloc _)
  have HB1 : Hid (W.heap[w.heap.size]? = some (.cells #[.int .i64 5, .slice (some ⟨g, o, none⟩) 2 c2, .int .i64 so, .int .i64 nn, .int .i64 mm, .slice a3 n3 c3] 30 (0, 0))) := Lib.hid (by rw [hW]; exact alloc_old (new_at w _) _)
  have HB2 : Hid (W.heap[w.heap.size + 1]? = some (.cells #[.int .i64 0, .string ⟨#[]⟩] 35 (0, 0))) := Lib.hid (by rw [hW]; exact new_at1 w _ _)
  have HAT := Lib.hid (fun u (hu : Upto [] w u) => atom_calls g o c2 so nn mm a3 n3 c3 b u ((hu.cell (World.block_lt_of_cell? w _ h0) (by simp)).trans h0) (fun v hv => hlk v (hu.trans_ext hv)))
  obtain ⟨x0, x1, x2, x3, x4, x5⟩ := cells6 HB1.out
  clear h0 hlk
  go_enter Tryd.func22, Tryd.ntmps22
  go_wp2_with fail
  simp only [← hW]
  clear hW
  refine (HAT.out _ HU.out).mono ?_
  rintro e w1 ⟨rfl, hu1⟩
  have HB3 := Lib.hid (hu1.at HB2.out (by simp))
  have HU1 := Lib.hid (HU.out.trans_ext hu1)
  clear hu1 x0 x1 x2 x3 x4 x5
  obtain ⟨y0, y1⟩ := cells2 HB3.out
  obtain ⟨f0, f1⟩ := frees2 HB3.out
  go_wp2_with fail
  clear y0 y1 f0 f1
  have hst := set_same (set_same HB3.out 0 (.int .i64 21)) 1 (.string ⟨#[120]⟩)
  simp only [List.setIfInBounds_toArray, List.set_cons_zero, List.set_cons_succ] at hst
  have hup := (HU1.out.setCell (p := ⟨w.heap.size + 1, 0, none⟩) (Or.inr (by simp)) (.int .i64 21)).setCell (p := ⟨w.heap.size + 1, 1, none⟩) (Or.inr (by simp)) (.string ⟨#[120]⟩)
  obtain ⟨q0, q1⟩ := cells2 hst
  exact bodyPost_ret (v := .agg #[.int .i64 21, .string ⟨#[120]⟩]) (by simp [results, Tryd.results22, go_sem, q0, q1]) rfl ⟨rfl, hup⟩
end Go.Proofs.YtbnebkkpmcjmbaaDoor


namespace Go.Proofs.YtbnebkkpmcjmbaaDoor
open Go.RowKit Go.PL Go.Maps
set_option maxRecDepth 100000 in
set_option maxHeartbeats 2000000 in
theorem check16_calls (g1 o1 c1 gl ol cl g o c2 : Nat) (so nn mm : Int) (a3 : Option Addr) (c3 : Nat) (b : Nat) (w : World) (hb : w.heap[b]? = some (.map #[] 0)) (hn : w.cell? ⟨g1, o1, none⟩ = some (sV [121])) (h0 : w.cell? ⟨g, o, none⟩ = some (sV [120])) (hl : LfB w gl ol (some ⟨g, o, none⟩) 2 c2 so nn mm a3 c3) : Calls Tryd.prog 22 #[.agg #[.int .i64 16, .slice (some ⟨g1, o1, none⟩) 1 c1, .int .i64 0, .int .i64 0, .int .i64 0, .slice (some ⟨gl, ol, none⟩) 1 cl], .map (some b)] w fun e w' => e = .returned (.agg #[.int .i64 21, .string ⟨#[120]⟩]) ∧ Upto [] w w' := by
  obtain ⟨W, hW⟩ : ∃ W, W = (w.alloc (.cells #[.int .i64 16, .slice (some ⟨g1, o1, none⟩) 1 c1, .int .i64 0, .int .i64 0, .int .i64 0, .slice (some ⟨gl, ol, none⟩) 1 cl] 30)).alloc (.cells #[.int .i64 0, .string ⟨#[]⟩] 35) := ⟨_, rfl⟩
  have HU : Hid (Upto [] w W) := Lib.hid (by rw [hW]; exact ((Upto.refl [] w).alloc _).alloc _)
  have HB1 : Hid (W.heap[w.heap.size]? = some (.cells #[.int .i64 16, .slice (some ⟨g1, o1, none⟩) 1 c1, .int .i64 0, .int .i64 0, .int .i64 0, .slice (some ⟨gl, ol, none⟩) 1 cl] 30 (0, 0))) := Lib.hid (by rw [hW]; exact alloc_old (new_at w _) _)
  have HB2 : Hid (W.heap[w.heap.size + 1]? = some (.cells #[.int .i64 0, .string ⟨#[]⟩] 35 (0, 0))) := Lib.hid (by rw [hW]; exact new_at1 w _ _)
  have HBI := Lib.hid (fun u => binds16_calls (some ⟨g1, o1, none⟩) 1 c1 0 0 0 (some ⟨gl, ol, none⟩) 1 cl (by omega) u)
  have HMB := Lib.hid (HU.out.at hb (by simp))
  have HLB := Lib.hid (fun u (hu : Upto [] w u) => hl.ext hu)
  have HN0 := Lib.hid (fun u (hu : Upto [] w u) => (hu.cell (World.block_lt_of_cell? w _ h0) (by simp)).trans h0)
  obtain ⟨x0, x1, x2, x3, x4, x5⟩ := cells6 HB1.out
  go_enter Tryd.func22, Tryd.ntmps22
  go_wp2_with fail
  simp only [← hW]
  clear hW
  refine (HBI.out _).mono ?_
  rintro e w1 ⟨rfl, hu1⟩
  have HB3 := Lib.hid (hu1.at HB1.out (by simp))
  have HR3 := Lib.hid (hu1.at HB2.out (by simp))
  have HM1 := Lib.hid (hu1.at HMB.out (by simp))
  have HU1 := Lib.hid (HU.out.trans_ext hu1)
  clear hu1 x0 x1 x2 x3 x4 x5
  go_wp2_with fail
  refine (mclone_calls b #[] 0 w1 HM1.out).mono ?_
  rintro e w2 ⟨rfl, rfl⟩
  go_wp2_with fail
  have hm4 := MapL.made Tryd.prog 9 w1
  obtain ⟨W4, hW4⟩ : ∃ W4, W4 = w1.alloc (.map #[] 0) := ⟨_, rfl⟩
  have HWL := Lib.hid HU1.out.size
  have HWB := Lib.hid (lt_of_heap HB3.out)
  have HU4 : Hid (Upto [] w W4) := Lib.hid (by rw [hW4]; exact HU1.out.alloc _)
  have HB4 : Hid (W4.heap[w.heap.size]? = some (.cells #[.int .i64 16, .slice (some ⟨g1, o1, none⟩) 1 c1, .int .i64 0, .int .i64 0, .int .i64 0, .slice (some ⟨gl, ol, none⟩) 1 cl] 30 (0, 0))) := Lib.hid (by rw [hW4]; exact alloc_old HB3.out _)
  have HR4 : Hid (W4.heap[w.heap.size + 1]? = some (.cells #[.int .i64 0, .string ⟨#[]⟩] 35 (0, 0))) := Lib.hid (by rw [hW4]; exact alloc_old HR3.out _)
  have HRB := Lib.hid (lt_of_heap HR3.out)
  rw [← hW4] at hm4
  have HM4 := Lib.hid hm4
  simp only [← hW4]
  clear hW4 hm4
  have hn4 := (HU4.out.cell (World.block_lt_of_cell? w _ hn) (by simp)).trans hn
  unfold sV at hn4
  have e1 : ∀ u : Ext W4, u.w.cell? ⟨w.heap.size, 1, none⟩ = some (.slice (some ⟨g1, o1, none⟩) 1 c1) := fun u => u.cell (cell_of HB4.out 1)
  have e2 : ∀ u : Ext W4, u.w.cell? ⟨w.heap.size, 2, none⟩ = some (.int .i64 0) := fun u => u.cell (cell_of HB4.out 2)
  have en : ∀ u : Ext W4, u.w.cell? ⟨g1, o1, none⟩ = some (.string ⟨#[121]⟩) := fun u => u.cell hn4
  clear hn4
  refine wp_region_seg_at [] [] [0, 1, 2, 3, 4, 5, 6] [7] 7 (by kernel_rfl) (by kernel_rfl) (by kernel_rfl) ?_
  iterate 7 (refine seg_plain rfl rfl rfl rfl rfl ?_; intro K' hK'; go_big_quiet_op; go_big_quiet_on)
  intro w5 hg
  have HU5 := Lib.hid (HU4.out.trans_ext hg.up)
  have hm5 := HM4.out.upto hg.up (by simp)
  have HB5 := Lib.hid (hg.up.at HB4.out (by simp))
  have HR5 := Lib.hid (hg.up.at HR4.out (by simp))
  simp only [List.drop_succ_cons, List.drop_zero]
  clear hg e1 e2 en
  go_wp2_with (refine wpList_insert _ rfl _ _ _ 52 rfl 9 3 lawS Tryd.underlying52 w1.heap.size [] rfl hm5 (.string ⟨#[121]⟩) (.int .i64 0) _ rfl rfl (keyS Tryd.underlying9 (by decide)) (by simp) ?_; intro w6 hm6 hg6; have HU6 := Lib.hid (HU5.out.grown hg6 (fun k hk => by cases hk; exact Or.inr HWL.out)); have HB6 := Lib.hid (((Upto.refl [w1.heap.size] w5).grown hg6 (fun k hk => by cases hk; simp)).at HB5.out (by have := HWB.out; simp; omega)); have HR6 := Lib.hid (((Upto.refl [w1.heap.size] w5).grown hg6 (fun k hk => by cases hk; simp)).at HR5.out (by have := HRB.out; simp; omega)); have HM6 := Lib.hid hm6; clear hm6 hg6; have z5 := cell_of HB6.out 5; simp only [List.getElem?_toArray, List.getElem?_cons_zero, List.getElem?_cons_succ] at z5)
  have HLK : Hid (∀ u, Upto [] w6 u → (Instr.lookup 52 (.map (some w1.heap.size)) (.string ⟨#[120]⟩) true).run Tryd.prog u = .ok (.tuple #[.int .i64 0, .bool false]) u) := Lib.hid (fun u hu => by
    rcases (HM6.out.upto hu (by simp)).look lawS Tryd.underlying52 (z := .int .i64 0) rfl (x := .string ⟨#[120]⟩) (keyS Tryd.underlying9 (by decide)) true with ⟨h1, -⟩ | ⟨v, h1, -⟩
    · exact h1
    · simp at h1)
  have HC5 := Lib.hid (fun u (hu : Upto [] w6 u) => check5_calls g o c2 so nn mm a3 0 c3 w1.heap.size u (HN0.out u (HU6.out.trans_ext hu)) (fun v hv => HLK.out v (hu.trans_ext hv)))
  obtain ⟨l0, l1, l2, l3, l4, l5⟩ := HLB.out _ HU6.out
  clear hl h0 hn hb
  go_loopw [33] (fun vi wr => vi = .int .i64 0 ∧ wr = w6) (fun _ _ => 0)
  case atStart => exact ⟨rfl, rfl⟩
  case round =>
    obtain ⟨rfl, rfl⟩ := hrel
    go_wp2_with fail
    refine (HC5.out _ ((Upto.refl [] _).alloc _)).mono ?_
    rintro e w7 ⟨rfl, hu7⟩
    have HU7 := Lib.hid (((Upto.refl [] _).alloc (.cells #[.int .i64 5, .slice (some ⟨g, o, none⟩) 2 c2, .int .i64 so, .int .i64 nn, .int .i64 mm, .slice a3 0 c3] 30)).trans_ext hu7)
    have HR7 := Lib.hid (HU7.out.at HR6.out (by simp))
    clear hu7 z5 l0 l1 l2 l3 l4 l5
    have HR8 := Lib.hid (alloc_old HR7.out (.cells #[.int .i64 21, .string ⟨#[120]⟩] 35))
    obtain ⟨y0, y1⟩ := cells2 HR8.out
    obtain ⟨f0, f1⟩ := frees2 HR8.out
    go_wp2_with fail
    clear y0 y1 f0 f1
    have hst := set_same (set_same HR8.out 0 (.int .i64 21)) 1 (.string ⟨#[120]⟩)
    simp only [List.setIfInBounds_toArray, List.set_cons_zero, List.set_cons_succ] at hst
    have hup := (((HU6.out.trans_ext HU7.out).alloc (.cells #[.int .i64 21, .string ⟨#[120]⟩] 35)).setCell (p := ⟨w.heap.size + 1, 0, none⟩) (Or.inr (by simp)) (.int .i64 21)).setCell (p := ⟨w.heap.size + 1, 1, none⟩) (Or.inr (by simp)) (.string ⟨#[120]⟩)
    obtain ⟨q0, q1⟩ := cells2 hst
    exact bodyPost_ret (v := .agg #[.int .i64 21, .string ⟨#[120]⟩]) (by simp [results, Tryd.results22, go_sem, q0, q1]) rfl ⟨rfl, hup⟩
end Go.Proofs.YtbnebkkpmcjmbaaDoor


namespace Go.Proofs.YtbnebkkpmcjmbaaDoor
open Go.RowKit Go.PL Go.Maps
set_option maxRecDepth 100000 in
set_option maxHeartbeats 1600000 in
theorem hasc_calls (s : List UInt8) (w : World) (he : Env w) (hmax : s.length ≤ 281474976710656) : Calls Tryd.prog 63 #[.string ⟨s.toArray⟩] w fun e w' => e = .returned (.bool (!identF s)) ∧ Upto [] w w' := by
  have H := Lib.hid (isIdent_calls s w he hmax)
  generalize identF s = b at *
  go_enter Tryd.func63, Tryd.ntmps63
  go_wp2_with fail
  refine H.out.mono ?_
  rintro e w1 ⟨rfl, hu1⟩
  have HU1 := Lib.hid hu1
  clear hu1
  cases b
  · go_wp2_with fail
    go_ret
    exact ⟨rfl, HU1.out⟩
  · go_wp2_with fail
    go_ret
    exact ⟨rfl, HU1.out⟩
set_option maxRecDepth 100000 in
set_option maxHeartbeats 3200000 in
theorem indexf_calls (xs : List (List UInt8)) (a : Option Addr) (c : Nat) (w : World) (he : Env w) (hl : xs.length ≤ 10000000) (hx : ∀ x ∈ xs, x.length ≤ 10000000) (hc : ∀ i x, xs[i]? = some x → ∃ g o, a = some ⟨g, o, none⟩ ∧ w.cell? ⟨g, o + i, none⟩ = some (.string ⟨x.toArray⟩)) :
    Calls Tryd.prog 74 #[.slice a xs.length c, .func (.func 63) #[] #[]] w fun e w' => (∃ k : Int, e = .returned (.int .i64 k) ∧ (0 ≤ k ↔ xs.all identF = false)) ∧ Upto [] w w' := by
  have HE : Hid (∀ u, Upto [] w u → Env u) := Lib.hid (fun u hu => he.ext hu)
  have HC := Lib.hid hc
  have HX := Lib.hid hx
  generalize hB : xs.all identF = B at *
  have HB := Lib.hid hB
  clear hB
  generalize hL : xs.length = L at *
  have HL := Lib.hid hL
  have hL0 : (0 : Int) ≤ L := by omega
  have hL1 : (L : Int) ≤ 10000000 := by omega
  clear he hc hx hL
  go_enter Tryd.func74, Tryd.ntmps74
  go_wp2_with fail
  go_loopw [8] (fun i wr => ∃ j : Nat, j ≤ L ∧ i = .int .i64 j ∧ Hid (∀ q x, q < j → xs[q]? = some x → identF x = true) ∧ Hid (Upto [] w wr)) (fun i _ => L - (intOf i).toNat)
  case atStart => exact ⟨0, by omega, rfl, Lib.hid (fun q x hq => by omega), Lib.hid (Upto.refl _ _)⟩
  case round =>
    obtain ⟨j, hj, rfl, HA, HU⟩ := hrel
    have hj0 : (0 : Int) ≤ j := by omega
    rcases Nat.lt_or_ge j L with hlt | hge
    · have hltI : (j : Int) < L := by omega
      obtain ⟨x, hx⟩ : ∃ x, xs[j]? = some x := ⟨_, List.getElem?_eq_getElem (by have := HL.out; omega)⟩
      have hmem := List.mem_of_getElem? hx
      obtain ⟨g, o, rfl, c0⟩ := HC.out j x hx
      replace c0 := up_cell HU.out c0
      have HK := Lib.hid (hasc_calls x wr (HE.out wr HU.out) (by have := HX.out x hmem; omega))
      have hbb : identF x = true ∨ identF x = false := by cases identF x <;> simp
      rcases hbb with hb | hb
      · rw [hb] at HK
        have HA2 : Hid (∀ q x, q < j + 1 → xs[q]? = some x → identF x = true) := Lib.hid (fun q y hq hy => by
          by_cases hqj : q = j
          · subst hqj
            rw [hx] at hy
            cases hy
            exact hb
          · exact HA.out q y (by omega) hy)
        clear hx hmem hb
        go_wp2_with fail
        refine HK.out.mono ?_
        rintro e w5 ⟨rfl, hu5⟩
        have HU5 := Lib.hid (HU.out.trans_ext hu5)
        clear hu5
        go_wp2_with fail
        go_roundw
        case rel => exact ⟨j + 1, by omega, by go_num, HA2, HU5⟩
        case measure => simp [intOf]; omega
      · rw [hb] at HK
        have HF : Hid (B = false) := Lib.hid (by
          rw [← HB.out, Bool.eq_false_iff]
          intro h
          have := List.all_eq_true.1 h x hmem
          rw [hb] at this
          cases this)
        clear hx hmem hb
        go_wp2_with fail
        refine HK.out.mono ?_
        rintro e w5 ⟨rfl, hu5⟩
        have HU5 := Lib.hid (HU.out.trans_ext hu5)
        clear hu5
        go_wp2_with fail
        go_ret
        exact ⟨⟨(j : Int), rfl, fun _ => HF.out, fun _ => hj0⟩, HU5.out⟩
    · have hgeI : ¬ (j : Int) < L := by omega
      have HF : Hid (B = true) := Lib.hid (by
        rw [← HB.out, List.all_eq_true]
        intro x hx
        obtain ⟨q, hq, rfl⟩ := List.mem_iff_getElem.1 hx
        exact HA.out q _ (by have := HL.out; omega) (List.getElem?_eq_getElem hq))
      go_wp2_with fail
      go_ret
      exact ⟨⟨-1, rfl, fun h => absurd h (by decide), fun h => by rw [HF.out] at h; cases h⟩, HU.out⟩
set_option maxRecDepth 100000 in
set_option maxHeartbeats 1600000 in
theorem containsf_calls (xs : List (List UInt8)) (a : Option Addr) (c : Nat) (w : World) (he : Env w) (hl : xs.length ≤ 10000000) (hx : ∀ x ∈ xs, x.length ≤ 10000000) (hc : ∀ i x, xs[i]? = some x → ∃ g o, a = some ⟨g, o, none⟩ ∧ w.cell? ⟨g, o + i, none⟩ = some (.string ⟨x.toArray⟩)) :
    Calls Tryd.prog 62 #[.slice a xs.length c, .func (.func 63) #[] #[]] w fun e w' => e = .returned (.bool (!xs.all identF)) ∧ Upto [] w w' := by
  have H := Lib.hid (indexf_calls xs a c w he hl hx hc)
  clear hc hx hl he
  generalize hL : xs.length = L at *
  generalize xs.all identF = b at *
  clear hL
  go_enter Tryd.func62, Tryd.ntmps62
  go_wp2_with fail
  refine H.out.mono ?_
  rintro e w1 ⟨⟨k, rfl, hk⟩, hu1⟩
  have HU1 := Lib.hid hu1
  clear hu1
  cases b
  · have h0 : (0 : Int) ≤ k := hk.2 rfl
    clear hk
    go_wp2_with fail
    go_ret
    exact ⟨rfl, HU1.out⟩
  · have h0 : ¬ (0 : Int) ≤ k := fun h => by have := hk.1 h; cases this
    clear hk
    go_wp2_with fail
    go_ret
    refine ⟨?_, HU1.out⟩
    show Ending.returned (.bool (decide (0 ≤ k))) = _
    rw [decide_eq_false (by omega)]
    rfl
end Go.Proofs.YtbnebkkpmcjmbaaDoor


namespace Go.Proofs.YtbnebkkpmcjmbaaDoor
open Go.PL

/-- the numbers of names, least and most, and of operands, of an operation -/
def hasF (op : Int) : Nat × Nat × Nat :=
  if op < 2 then (0, 0, 0) else if op < 7 then (2, 2, 0) else if op < 10 then (1, 1, 0) else if op = 10 then (1, 17, 0) else if op = 11 then (0, 0, 1) else if op < 16 then (0, 0, 2) else (1, 1, 1)
def kindBad (op : Int) : Bool := decide (op < 0) || decide (17 < op)
def shapeBad (op : Int) (names len : Nat) : Bool := decide (names < (hasF op).1) || decide ((hasF op).2.1 < names) || decide (len ≠ (hasF op).2.2)
def zeroBad (op so n m : Int) : Bool := (decide (op ≠ 7) && decide (op ≠ 8) && decide (n ≠ 0)) || (decide (op ≠ 8) && decide (m ≠ 0)) || (decide (op < 16) && decide (so ≠ 0))
def rangeBad (op so n m : Int) : Bool := (decide (op = 7) && (decide (n < 0) || decide (7 < n))) || (decide (op = 8) && (decide (m < 1) || decide (64 < m) || decide (n < 0) || decide (m ≤ n))) || decide (so < 0) || decide (3 < so)
mutual
/-- the first error of a node and its operands; nm: whether a text is a name -/
def formF (nm : List UInt8 → Bool) : Nd → Nat
  | .mk op names so n m l => if kindBad op then 11 else if shapeBad op names.length l.length then 3 else if (names.all nm) = false then 3 else if zeroBad op so n m then 3 else if rangeBad op so n m then 2 else formsF nm l
def formsF (nm : List UInt8 → Bool) : List Nd → Nat
  | [] => 0
  | x :: xs => if formF nm x ≠ 0 then formF nm x else formsF nm xs
end
def checkF (nm : List UInt8 → Bool) (n : Nd) : Nat := if formF nm n ≠ 0 then formF nm n else greatF n
end Go.Proofs.YtbnebkkpmcjmbaaDoor


namespace Go.Proofs.YtbnebkkpmcjmbaaDoor
open Go.RowKit Go.PL Go.Maps

def sortW (s : Int) : List UInt8 := if s = 0 then [118, 101, 114, 116, 101, 120] else if s = 1 then [101, 100, 103, 101] else if s = 2 then [115, 101, 116] else if s = 3 then [101, 100, 103, 101, 115] else []
end Go.Proofs.YtbnebkkpmcjmbaaDoor


namespace Go.Proofs.YtbnebkkpmcjmbaaDoor
open Go.PL

/-- the first token of a formula's full text is not the word that begins a declaration -/
def headOk (b : Bool) (L : List (Bool × Tok)) : Prop := ∃ t r, L = (b, t) :: r ∧ (t.text ≠ [102, 105, 110, 100] ∨ t.kind = 1)
theorem headOk.mk {b : Bool} {t : Tok} {r : List (Bool × Tok)} (h : t.text ≠ [102, 105, 110, 100] ∨ t.kind = 1) : headOk b ((b, t) :: r) := ⟨t, r, rfl, h⟩
end Go.Proofs.YtbnebkkpmcjmbaaDoor


namespace Go.Proofs.YtbnebkkpmcjmbaaDoor
open Go.PL

/-- the first error of the free variables; seen: the names ahead -/
def varsE (nm : List UInt8 → Bool) : List (List UInt8 × Int) → List (List UInt8) → Nat
  | [], _ => 0
  | v :: r, seen => if nm v.1 = false then 3 else if (decide (v.2 < 0) || decide (3 < v.2)) = true then 2 else if seen.contains v.1 = true then 7 else varsE nm r (seen ++ [v.1])
/-- the first error of a question -/
def rightF (nm : List UInt8 → Bool) (q : Qn) : Nat :=
  if 8 < q.free.length then 8 else if varsE nm q.free [] ≠ 0 then varsE nm q.free [] else checkF nm q.body

end Go.Proofs.YtbnebkkpmcjmbaaDoor


namespace Go.Proofs.YtbnebkkpmcjmbaaDoor
open Go.RowKit Go.PL Go.Maps
set_option maxRecDepth 100000 in
set_option maxHeartbeats 1600000 in
theorem sname_calls (s : Int) (w : World) (hs : SEnv w) : Calls Tryd.prog 38 #[.int .i64 s] w fun e w' => e = .returned (.string ⟨(sortW s).toArray⟩) ∧ Upto [] w w' := by
  have HU := Lib.hid (Upto.refl [] w)
  by_cases h0 : s < 0
  · have e : sortW s = [] := by unfold sortW; rw [if_neg (by omega), if_neg (by omega), if_neg (by omega), if_neg (by omega)]
    rw [e]
    clear e hs
    go_enter Tryd.func38, Tryd.ntmps38
    go_wp2_with fail
    go_ret
    exact ⟨rfl, HU.out⟩
  by_cases h1 : (4 : Int) ≤ s
  · have e : sortW s = [] := by unfold sortW; rw [if_neg (by omega), if_neg (by omega), if_neg (by omega), if_neg (by omega)]
    rw [e]
    clear e hs
    go_enter Tryd.func38, Tryd.ntmps38
    go_wp2_with fail
    go_ret
    exact ⟨rfl, HU.out⟩
  have hc : s = 0 ∨ s = 1 ∨ s = 2 ∨ s = 3 := by omega
  have c0 := hs.c0
  have c1 := hs.c1
  have c2 := hs.c2
  have c3 := hs.c3
  clear hs h0 h1
  rcases hc with rfl | rfl | rfl | rfl
  · go_enter Tryd.func38, Tryd.ntmps38
    go_wp2_with fail
    go_ret
    exact ⟨rfl, HU.out⟩
  · go_enter Tryd.func38, Tryd.ntmps38
    go_wp2_with fail
    go_ret
    exact ⟨rfl, HU.out⟩
  · go_enter Tryd.func38, Tryd.ntmps38
    go_wp2_with fail
    go_ret
    exact ⟨rfl, HU.out⟩
  · go_enter Tryd.func38, Tryd.ntmps38
    go_wp2_with fail
    go_ret
    exact ⟨rfl, HU.out⟩
/-- a list of variables, element by element -/
theorem vars_get {w : World} {P : Nat → Prop} {v : Value} {f : List (List UInt8 × Int)} (h : VarsV w P v f) : ∃ a c, v = .slice a f.length c ∧ ∀ i x, f[i]? = some x → ∃ g o, a = some ⟨g, o, none⟩ ∧ w.cell? ⟨g, o + i * 2, none⟩ = some (.string ⟨x.1.toArray⟩) ∧ w.cell? ⟨g, o + i * 2 + 1, none⟩ = some (.int .i64 x.2) := by
  obtain ⟨a, c, rfl, hg⟩ := SlP.get h
  refine ⟨a, c, rfl, fun i x hi => ?_⟩
  obtain ⟨g, o, rfl, h1⟩ := hg _ _ (vars_at hi).1
  obtain ⟨g2, o2, e, h2⟩ := hg _ _ (vars_at hi).2
  simp at e
  obtain ⟨rfl, rfl⟩ := e
  exact ⟨g, o, rfl, h1, h2⟩
theorem vars_slice {w : World} {P : Nat → Prop} {a : Option Addr} {n c : Nat} {f : List (List UInt8 × Int)} (h : VarsV w P (.slice a n c) f) : ∀ i x, f[i]? = some x → ∃ g o, a = some ⟨g, o, none⟩ ∧ w.cell? ⟨g, o + i * 2, none⟩ = some (.string ⟨x.1.toArray⟩) ∧ w.cell? ⟨g, o + i * 2 + 1, none⟩ = some (.int .i64 x.2) := by
  obtain ⟨a', c', e, hg⟩ := vars_get h
  cases e
  exact hg
theorem right_vars {nm : List UInt8 → Bool} {q : Qn} {k : Nat} (h8 : ¬ 8 < q.free.length) (h0 : k ≠ 0) (h : varsE nm q.free [] = k) : rightF nm q = k := by
  unfold rightF
  rw [if_neg h8, h, if_pos h0]
theorem right_body {nm : List UInt8 → Bool} {q : Qn} (h8 : ¬ 8 < q.free.length) (h : varsE nm q.free [] = 0) : rightF nm q = checkF nm q.body := by
  unfold rightF
  rw [if_neg h8, h]
  rfl
end Go.Proofs.YtbnebkkpmcjmbaaDoor


namespace Go.Proofs.YtbnebkkpmcjmbaaDoor
open Go.RowKit Go.PL Go.Maps

theorem QnV.open {w : World} {P : Nat → Prop} {q : Qn} {v : Value} (h : QnV w P q v) : ∃ (f1 : Option Addr) (f3 : Nat) (op : Int) (a1 : Option Addr) (n1 c1 : Nat) (so n m : Int) (a2 : Option Addr) (n2 c2 : Nat), v = .agg #[.slice f1 q.free.length f3, .int .i64 op, .slice a1 n1 c1, .int .i64 so, .int .i64 n, .int .i64 m, .slice a2 n2 c2] ∧ VarsV w P (.slice f1 q.free.length f3) q.free ∧ NdV w P q.body (.agg #[.int .i64 op, .slice a1 n1 c1, .int .i64 so, .int .i64 n, .int .i64 m, .slice a2 n2 c2]) := by
  obtain ⟨vf, a0, a1, a2, a3, a4, a5, rfl, h1, h2⟩ := h
  obtain ⟨fa, fc, rfl⟩ := h1.len
  obtain ⟨op, x1, x2, x3, so, n, m, y1, y2, y3, hs⟩ := h2.six
  simp only [Value.agg.injEq, Array.mk.injEq, List.cons.injEq, and_true] at hs
  obtain ⟨rfl, rfl, rfl, rfl, rfl, rfl⟩ := hs
  exact ⟨fa, fc, op, x1, x2, x3, so, n, m, y1, y2, y3, rfl, h1, h2⟩

end Go.Proofs.YtbnebkkpmcjmbaaDoor


namespace Go.Proofs.YtbnebkkpmcjmbaaDoor
open Go.RowKit Go.PL Go.Maps
theorem mod15 (many : Int) : 0 ≤ wrap64 ((IntKind.u64.wrap many).tmod 15) ∧ wrap64 ((IntKind.u64.wrap many).tmod 15) ≤ 14 := by
  have h0 : 0 ≤ IntKind.u64.wrap many := by
    simp only [IntKind.wrap, IntKind.bits, IntKind.signed]
    simp
    omega
  rw [Int.tmod_eq_emod_of_nonneg h0]
  unfold wrap64
  omega
set_option maxRecDepth 100000 in
set_option maxHeartbeats 6400000 in
theorem scopeFresh_walk (s : List UInt8) (tk : List (List UInt8)) (many : Int) (v : Value) (w : World) (P : Nat → Prop) (h : SlP w P v tk.length (tk.map sV)) (hl : tk.length ≤ 9223372036854775807) (hs : s.length ≤ 9223372036854775807) (hx : ∀ x ∈ tk, x.length ≤ 9223372036854775807) (_hm : -9223372036854775808 ≤ many ∧ many ≤ 9223372036854775807) (he : Env w)
    (hkn : ∀ u, Upto [] w u → Calls Tryd.prog 4 #[] u fun e w' => e = .returned (.bool true) ∧ Upto [] u w') : Calls Tryd.prog 3 #[.string ⟨s.toArray⟩, v, .int .i64 many] w fun e w' => e = .returned (.bool true) ∧ Upto [] w w' := by
  obtain ⟨a, c, rfl⟩ := h.len
  have HKN := Lib.hid (hkn w (Upto.refl _ _))
  have HC : Hid (∀ j, j < tk.length → ∃ g o, a = some ⟨g, o, none⟩ ∧ ∀ u, Upto [] w u → u.cell? ⟨g, o + j, none⟩ = some (.string ⟨(tk.getD j []).toArray⟩)) := Lib.hid (fun j hj => by
    rcases h with ⟨h0, -⟩ | ⟨g, o, c', e, -, hc⟩
    · omega
    · simp only [Value.slice.injEq] at e
      refine ⟨g, o, e.1, fun u hu => ?_⟩
      have h1 := hc j (sV tk[j]) (by simp [hj])
      rw [(hu.cell (World.block_lt_of_cell? w _ h1) (by simp)).trans h1]
      simp [sV, List.getD, hj])
  have HX : Hid (∀ j, (tk.getD j []).length ≤ 9223372036854775807) := Lib.hid (fun j => by
    rcases Nat.lt_or_ge j tk.length with h1 | h1
    · have : tk.getD j [] = tk[j] := by simp [List.getD, h1]
      rw [this]
      exact hx _ (List.getElem_mem h1)
    · have : tk.getD j [] = [] := by simp [List.getD, h1]
      rw [this]
      simp)
  have HFP := Lib.hid (fun (x : List UInt8) (ls : List (List UInt8)) (l : Value) (u : World) (ht : TxI w ls l u) (hn : ls.length ≤ 80) (hx : x.length ≤ 281474976710656) => freshP_calls x ls l u _ ht.slp hn hx (he.ext ht.up))
  have HFR := Lib.hid (fun (x : List UInt8) (ls : List (List UInt8)) (l : Value) (u : World) (ht : TxI w ls l u) (hn : ls.length ≤ 80) (hx : x.length ≤ 281474976710656) => freshR_calls x ls l u _ ht.slp hn hx)
  have HNM := Lib.hid (fun (x : List UInt8) (u : World) (hx : x.length ≤ 281474976710656) => isName_calls x u hx)
  obtain ⟨i0, hi0, hz0, hz1, hz2⟩ := info9'
  have HI0 := Lib.hid hi0
  have HZ0 := Lib.hid hz0
  have HZ1 := Lib.hid hz1
  have HZ2 := Lib.hid hz2
  have HEX := Lib.hid (ext_min s)
  have HTL : Hid ((s.take 30).length ≤ 30) := Lib.hid (by rw [List.length_take]; omega)
  have hL0 : (0 : Int) ≤ tk.length := by omega
  have hL1 : (tk.length : Int) ≤ 9223372036854775807 := by omega
  have hS1 : (s.length : Int) ≤ 9223372036854775807 := by omega
  have HMB : Hid (0 ≤ wrap64 ((IntKind.u64.wrap many).tmod 15) ∧ wrap64 ((IntKind.u64.wrap many).tmod 15) ≤ 14) := Lib.hid (mod15 many)
  obtain ⟨MM, hMM⟩ : ∃ M : Nat, M = 20 := ⟨_, rfl⟩
  have HMM := Lib.hid hMM
  clear h hx hkn hi0 hz0 hz1 hz2 he hMM
  generalize hln : tk.length = n at *
  go_enter Tryd.func3, Tryd.ntmps3
  go_wp2_with fail
  refine HKN.out.mono ?_
  rintro e w1 ⟨rfl, hu1⟩
  have HU1 := Lib.hid hu1
  clear hu1
  go_wp2_with fail
  simp only [HEX.out]
  generalize s.take 30 = s0 at *
  have hs0 : (s0.length : Int) ≤ 30 := by have := HTL.out; omega
  have HT0 := Lib.hid (TxI.nil w w1 HU1.out)
  go_loopw [7, 8] (fun vl vi wr => ∃ (j : Nat) (ls : List (List UInt8)) (va : Option Addr) (vc : Nat), vi = .int .i64 j ∧ vl = .slice va j vc ∧ j ≤ n ∧ j ≤ 20 ∧ Hid (TxI w ls (.slice va j vc) wr ∧ ls.length = j)) (fun _ vi _ => n - (intOf vi).toNat)
  case atStart => exact ⟨0, [], none, 0, rfl, rfl, by omega, by omega, Lib.hid ⟨HT0.out, rfl⟩⟩
  case round =>
    obtain ⟨j, ls, va, vc, rfl, rfl, hj, hj20, HI⟩ := hrel
    have hj0 : (0 : Int) ≤ j := by omega
    by_cases hc : j < n ∧ j < 20
    · obtain ⟨g, o, rfl, hcell⟩ := HC.out j hc.1
      have hltI : (j : Int) < n := by omega
      have h20I : (j : Int) < 20 := by omega
      have hyl := HX.out j
      have HEY := Lib.hid (ext_min (tk.getD j []))
      have HYT : Hid (((tk.getD j []).take 30).length ≤ 30) := Lib.hid (by rw [List.length_take]; omega)
      generalize hy : tk.getD j [] = y at *
      have HY := Lib.hid hy
      have hyI : (y.length : Int) ≤ 9223372036854775807 := by omega
      have e0 : ∀ u : Ext wr, u.w.cell? ⟨g, o + j, none⟩ = some (.string ⟨y.toArray⟩) := fun u => hcell u.w (HI.out.1.up.trans_ext u.up)
      clear hy hyl hcell hc
      go_wp2_with fail
      refine wp_region_seg_at [9, 10, 12] [] [0, 1, 2, 3, 4, 5, 6, 7, 8, 9, 10, 11, 12] [13, 14] 13 (by kernel_rfl) (by kernel_rfl) (by kernel_rfl) ?_
      iterate 9 (refine seg_plain rfl rfl rfl rfl rfl ?_; intro K' hK'; go_big_quiet_op; go_big_quiet_on)
      refine seg_opq (Y := Unit) (fun _ => .int .i64 (y.length : Int)) (fun _ _ => True) (fun _ => []) rfl rfl rfl rfl (fun _ _ _ h _ => h) (fun _ => List.nodup_nil) (fun w' post hu hd hp => (congrArg (opqUpon Tryd.prog post) (show _ = Result.ok (Next.value (.int .i64 (y.length : Int))) w' from by go_simp)).mpr (hp () w' (Upto.refl [] w') trivial (fun b hb => by cases hb))) ?_
      intro _
      simp only [Act.put, List.setIfInBounds_toArray, List.set_cons_zero, List.set_cons_succ]
      refine seg_opq (Y := Unit) (fun _ => .int .i64 (min (y.length : Int) 30)) (fun _ _ => True) (fun _ => []) rfl rfl rfl rfl (fun _ _ _ h _ => h) (fun _ => List.nodup_nil) (fun w' post hu hd hp => (congrArg (opqUpon Tryd.prog post) (show _ = Result.ok (Next.value (.int .i64 (min (y.length : Int) 30))) w' from by go_simp)).mpr (hp () w' (Upto.refl [] w') trivial (fun b hb => by cases hb))) ?_
      intro _
      simp only [Act.put, List.setIfInBounds_toArray, List.set_cons_zero, List.set_cons_succ]
      (refine seg_plain rfl rfl rfl rfl rfl ?_; intro K' hK'; go_big_quiet_op; go_big_quiet_on)
      simp only [HEY.out]
      generalize y.take 30 = y0 at *
      refine seg_opq (Y := Nat) (fun b => .slice (some ⟨b, 0, none⟩) 1 1) (fun b u => u.heap[b]? = some (.cells #[.string ⟨y0.toArray⟩] 9 (0, 0))) (fun _ => []) rfl rfl rfl rfl (fun _ _ _ h hu => hu.at h (by simp)) (fun _ => List.nodup_nil) (fun w' post hu hd hp => (congrArg (opqUpon Tryd.prog post) (show _ = Result.ok (Next.value (.slice (some ⟨w'.heap.size, 0, none⟩) 1 1)) (w'.alloc (.cells #[.string ⟨y0.toArray⟩] 9)) from by go_simp)).mpr (hp w'.heap.size _ ((Upto.refl [] w').alloc _) (new_at _ _) (fun b hb => by cases hb))) ?_
      intro b8
      simp only [Act.put, List.setIfInBounds_toArray, List.set_cons_zero, List.set_cons_succ]
      intro w10 hg
      have HU10 := Lib.hid hg.up
      have HB8 : Hid (w10.heap[b8]? = some (.cells #[.string ⟨y0.toArray⟩] 9 (0, 0))) := Lib.hid hg.hold.1
      simp only [List.drop_succ_cons, List.drop_zero]
      have HT := Lib.hid (HI.out.1.ext HU10.out)
      have HLL := Lib.hid HI.out.2
      have hrow := HT.out.row
      rw [HLL.out] at hrow
      have hsrc := cells_at (l := [sV y0]) HB8.out
      clear hg e0
      go_wp2_with (at_builtin; refine wpList_app _ rfl (.tmp 29) (.tmp 41) 22 rfl 9 i0 (.string ⟨#[]⟩) 1 16 Tryd.underlying22 HI0.out HZ0.out HZ1.out HZ2.out rfl (by decide) (.slice va j vc) j _ rfl hrow ⟨b8, 0, none⟩ 1 1 [sV y0] rfl rfl hsrc (by simp [Value.oneCell', sV]) (by unfold maxLen; omega) (by omega) ?_; intro vb vd w4 ho4 hu4 hw4; have HM5 := Lib.hid (HT.out.app HLL.out ho4 hu4 hw4); clear hrow hsrc ho4 hu4 hw4)
      rw [show (j : Int) + 1 = ((j + 1 : Nat) : Int) from rfl]
      exact ⟨⟨j + 1, ls ++ [y0], vb, vd, rfl, rfl, by omega, by omega, Lib.hid ⟨HM5.out, by rw [List.length_append, HLL.out]; rfl⟩⟩, meas_up (by omega) rfl⟩
    · have hcs : Hid (((j : Int) < n ∧ ¬ (j : Int) < 20) ∨ ¬ (j : Int) < n) := Lib.hid (by omega)
      clear hc
      rcases hcs.out with ⟨hA, hB⟩ | hA
      all_goals
        clear hcs
        go_wp2_with fail
        go_loopw [7, 9] (fun vl vi wr => ∃ (k : Nat) (ls : List (List UInt8)) (va : Option Addr) (vc : Nat), vi = .int .i64 k ∧ vl = .slice va (j + k) vc ∧ k ≤ 14 ∧ Hid (TxI w ls (.slice va (j + k) vc) wr ∧ ls.length = j + k)) (fun _ vi _ => MM - (intOf vi).toNat)
        case atStart => exact ⟨0, ls, va, vc, rfl, rfl, by omega, HI⟩
        case round =>
          obtain ⟨k, ls2, va2, vc2, rfl, rfl, hk, HK⟩ := hrel
          have hk0 : (0 : Int) ≤ k := by omega
          have HLL := Lib.hid (show ls2.length ≤ 80 by have := HK.out.2; omega)
          by_cases hkm : (k : Int) < wrap64 ((IntKind.u64.wrap many).tmod 15)
          · have hk13 : Hid ((k : Int) ≤ 13) := Lib.hid (by have := HMB.out; omega)
            have HFK := Lib.hid (HFR.out s0 ls2 _ wr HK.out.1 HLL.out (by have := HTL.out; omega))
            go_wp2_with fail
            refine HFK.out.mono ?_
            rintro e w2 ⟨rfl, hu2⟩
            generalize freshF s0 ls2 = f at *
            have HT := Lib.hid ((HK.out.1.ext hu2).ext ((Upto.refl [] _).alloc (.cells #[.string ⟨f.toArray⟩] 9)))
            have hrow := HT.out.row
            rw [HK.out.2] at hrow
            have hsrc := cells_at (l := [sV f]) (new_at w2 (.cells #[.string ⟨f.toArray⟩] 9))
            have hjk : j + k ≤ 34 := by omega
            clear hu2 HFK
            go_wp2_with (at_builtin; refine wpList_app _ rfl (.tmp 51) (.tmp 55) 22 rfl 9 i0 (.string ⟨#[]⟩) 1 16 Tryd.underlying22 HI0.out HZ0.out HZ1.out HZ2.out rfl (by decide) (.slice va2 (j + k) vc2) (j + k) _ rfl hrow ⟨w2.heap.size, 0, none⟩ 1 1 [sV f] rfl rfl hsrc (by simp [Value.oneCell', sV]) (by unfold maxLen; omega) (by omega) ?_; intro vb vd w4 ho4 hu4 hw4; have HM5 := Lib.hid (HT.out.app HK.out.2 ho4 hu4 hw4); clear hrow hsrc ho4 hu4 hw4)
            rw [show (k : Int) + 1 = ((k + 1 : Nat) : Int) from rfl]
            exact ⟨⟨k + 1, ls2 ++ [f], vb, vd, rfl, rfl, by have := hk13.out; omega, Lib.hid ⟨HM5.out, by rw [List.length_append, HK.out.2]; rfl⟩⟩, meas_up (by have := HMM.out; omega) rfl⟩
          · have HFK := Lib.hid (HFP.out s0 ls2 _ wr HK.out.1 HLL.out (by have := HTL.out; omega))
            have HFJ := Lib.hid (fun u (hu : Upto [] wr u) => HFR.out s0 ls2 _ u (HK.out.1.ext hu) HLL.out (by have := HTL.out; omega))
            have HNN := Lib.hid (fun u => HNM.out s0 u (by have := HTL.out; omega))
            have HFN := Lib.hid (fun hn : nameF s0 = false => freshF_no (tk := ls2) hn)
            have HFT := Lib.hid (fun hn : nameF s0 = true => freshF_not (tk := ls2) hn HLL.out)
            have HFS := Lib.hid (freshF_short (s := s0) (tk := ls2) HLL.out)
            generalize freshF s0 ls2 = f at *
            have hfl : (f.length : Int) ≤ 16 := by have := HFS.out; omega
            go_wp2_with fail
            refine HFK.out.mono ?_
            rintro e w2 ⟨rfl, hu2⟩
            have HU2 := Lib.hid hu2
            clear hu2
            go_wp2_with fail
            refine (HFJ.out w2 HU2.out).mono ?_
            rintro e w3 ⟨rfl, hu3⟩
            have HU3 := Lib.hid (HU2.out.trans_ext hu3)
            clear hu3
            go_wp2_with fail
            refine (HNN.out w3).mono ?_
            rintro e w4 ⟨rfl, hu4⟩
            have HU4 := Lib.hid (HU3.out.trans_ext hu4)
            clear hu4
            cases hn : nameF s0 with
            | false =>
              have hf := HFN.out hn
              subst hf
              go_wp2_with fail
              go_ret
              exact ⟨rfl, HK.out.1.up.trans_ext HU4.out⟩
            | true =>
              have HF := Lib.hid (HFT.out hn)
              have HFI := Lib.hid (HNM.out f)
              have HCE : Hid (∀ i, i < j + k → ∃ g o, va2 = some ⟨g, o, none⟩ ∧ ∀ u, Upto [] w4 u → u.cell? ⟨g, o + i, none⟩ = some (.string ⟨(ls2.getD i []).toArray⟩)) := Lib.hid (fun i hi => by
                have hsl := (HK.out.1.ext HU4.out).slp
                rw [HK.out.2] at hsl
                rcases hsl with ⟨h0, -⟩ | ⟨g, o, c', e, -, hc⟩
                · omega
                · simp only [Value.slice.injEq] at e
                  refine ⟨g, o, e.1, fun u hu => ?_⟩
                  have hil : i < ls2.length := by have := HK.out.2; omega
                  have h1 := hc i (sV ls2[i]) (by simp [hil])
                  rw [(hu.cell (World.block_lt_of_cell? w4 _ h1) (by simp)).trans h1]
                  simp [sV, List.getD, hil])
              have HNE : Hid (∀ i, i < j + k → (ls2.getD i [] == f) = false) := Lib.hid (fun i hi => by
                have hil : i < ls2.length := by have := HK.out.2; omega
                rw [beq_eq_false_iff_ne]
                intro e
                have h1 : ls2[i] = f := by simpa [List.getD, hil] using e
                have h2 : ls2.contains f = true := by
                  simp only [List.contains_iff_mem]
                  rw [← h1]
                  exact List.getElem_mem hil
                rw [HF.out.1] at h2
                cases h2)
              have HEND := Lib.hid (HK.out.1.up.trans_ext HU4.out)
              have hjk : ((j + k : Nat) : Int) ≤ 34 := by omega
              have hjk0 : (0 : Int) ≤ ((j + k : Nat) : Int) := by omega
              clear hn HFT HFS HFN HFK HFJ HNN
              go_wp2_with fail
              generalize hjj : j + k = N at *
              go_loopw [11] (fun vi wr => ∃ i : Nat, i ≤ N ∧ vi = .int .i64 i ∧ Hid (Upto [] w4 wr)) (fun vi _ => N - (intOf vi).toNat)
              case atStart => exact ⟨0, by omega, rfl, Lib.hid (Upto.refl _ _)⟩
              case round =>
                obtain ⟨i, hi, rfl, HW⟩ := hrel
                have hi0 : (0 : Int) ≤ i := by omega
                rcases Nat.lt_or_ge i N with hlt | hge
                · obtain ⟨g, o, rfl, hcell⟩ := HCE.out i hlt
                  have hc := hcell wr HW.out
                  have hne := HNE.out i hlt
                  have hltI : (i : Int) < N := by omega
                  generalize ls2.getD i [] = y at *
                  clear hcell
                  go_wp2_with fail
                  rw [show (i : Int) + 1 = ((i + 1 : Nat) : Int) from rfl]
                  exact ⟨⟨i + 1, by omega, rfl, HW⟩, meas_up (by omega) rfl⟩
                · obtain rfl : i = N := by omega
                  have hgeI : ¬ ((i : Int) < i) := by omega
                  go_wp2_with fail
                  refine (HFI.out wr (by omega)).mono ?_
                  rintro e w5 ⟨rfl, hu5⟩
                  rw [HF.out.2]
                  have HU5 := Lib.hid hu5
                  clear hu5
                  go_wp2_with fail
                  go_ret
                  exact ⟨rfl, (HEND.out.trans_ext HW.out).trans_ext HU5.out⟩
end Go.Proofs.YtbnebkkpmcjmbaaDoor

