/- SemiringFolds: the walk. -/
import Derived.Test.YtifellalnojomaaDoorFoldsC
namespace Go.Proofs.YtifellalnojomaaDoor
open Go.RowKit Go.PL Go.Maps

theorem pow16 (x q : Nat) (h : x < 65536) : x ^ q < 4294967296 ^ (2 * (q + 1)) := by
  have h2 := prodN_lt (List.replicate q x) (fun y hy => by rw [List.eq_of_mem_replicate hy]; exact h)
  have h3 : prodN (List.replicate q x) = x ^ q := by
    clear h2
    induction q with
    | zero => rfl
    | succ q ih => rw [List.replicate_succ, Nat.pow_succ, ← ih, Nat.mul_comm]; rfl
  rwa [h3, List.length_replicate] at h2
def CellsAt (w : World) (n : Nat) (a : Option Addr) (P : Nat → Nat → Nat → Prop) : Prop := n = 0 ∨ ∃ g o, a = some ⟨g, o, none⟩ ∧ ∀ k, k < n → P g o k

set_option maxRecDepth 100000 in
set_option maxHeartbeats 12800000 in
theorem folds_walk (ks : List Nat) (hks : ∀ x ∈ ks, x < 65536) (ps : List (Bool × Int)) (va pa : Option Addr) (vc pc : Nat) (z : Int) (w : World) (hz : -9223372036854775808 ≤ z ∧ z ≤ 9223372036854775807) (hbk : ks.length ≤ maxLen) (hbp : ps.length ≤ maxLen)
    (hk : ks = [] ∨ ∃ g o, va = some ⟨g, o, none⟩ ∧ ∀ k (x : Nat), ks[k]? = some x → w.cell? ⟨g, o + k, none⟩ = some (.int .u16 x))
    (hp : ps = [] ∨ ∃ g o, pa = some ⟨g, o, none⟩ ∧ ∀ k (x : Bool × Int), ps[k]? = some x → w.cell? ⟨g, o + k * 2, none⟩ = some (.bool x.1) ∧ w.cell? ⟨g, o + k * 2 + 1, none⟩ = some (.int .i64 x.2)) :
    Calls Tryd.prog 9 #[.slice va ks.length vc, .slice pa ps.length pc, .int .i64 z] w fun e w' => e = .returned (.bool true) ∧ Upto [] w w' := by
  have HK := Lib.hid known_calls
  obtain ⟨i0, hi0, hz0, hz1, hz2⟩ := info_parts (show (Tryd.prog.info? 45).map (fun i => (i.zero, i.size, i.bytes)) = some (some (.agg #[.slice none 0 0]), 1, 24) by kernel_rfl)
  have HI := Lib.hid hi0
  have HZ0 := Lib.hid hz0
  have HZ1 := Lib.hid hz1
  have HZ2 := Lib.hid hz2
  clear hi0 hz0 hz1 hz2
  have F1 := Lib.hid (fromW_calls 1 (by omega))
  unfold maxLen at hbk hbp
  have HN : ∃ n, ks.length = n := ⟨_, rfl⟩
  obtain ⟨n, hn⟩ := HN
  have HM : ∃ m, ps.length = m := ⟨_, rfl⟩
  obtain ⟨m, hm⟩ := HM
  rw [hn] at hbk ⊢
  rw [hm] at hbp ⊢
  have HNL := Lib.hid hn
  have HML := Lib.hid hm
  clear hn hm
  by_cases hall : n ≤ 12 ∧ m ≤ 12 ∧ z ≤ 12
  · obtain ⟨hn12, hm12, hz12⟩ := hall
    have c1 : ¬ (n : Int) > 12 := by omega
    have c2 : ¬ (m : Int) > 12 := by omega
    have c3 : ¬ z > 12 := by omega
    go_enter Tryd.func9, Tryd.ntmps9
    go_wp2_with fail
    refine (F1.out _).mono ?_
    rintro e w1 ⟨g1, rfl, n1, hu1⟩
    clear c1 c2 c3 F1
    have b8 := new_at w1 (.cells #[.slice (some ⟨g1, 0, none⟩) (W32 1).length 2] 45)
    have hu0 := hu1.alloc (.cells #[.slice (some ⟨g1, 0, none⟩) (W32 1).length 2] 45)
    have n1 := n1.ext ((Upto.refl [] w1).alloc (.cells #[.slice (some ⟨g1, 0, none⟩) (W32 1).length 2] 45))
    have hlw : w.heap.size ≤ w1.heap.size := hu1.size
    clear hu1
    go_wp2_with fail
    generalize w1.alloc (.cells #[.slice (some ⟨g1, 0, none⟩) (W32 1).length 2] 45) = W0 at *
    generalize w1.heap.size = B8 at *
    have hst0 : FoldSt B8 W0 ks 0 0 0 (.slice none 0 0) (.slice none 0 0) W0 := ⟨Upto.refl _ _, lt_of_heap b8, ⟨_, b8, g1, 2, rfl, n1⟩, ⟨none, 0, [], rfl, ⟨by simp, Or.inl ⟨rfl, rfl⟩⟩, .nil, (fun g hg => by cases hg), fun _ => rfl⟩, none, 0, [], rfl, Or.inl ⟨rfl, _, _, rfl⟩, rfl, .nil, fun g o e => by cases e⟩
    clear b8 n1
    go_loopw [7, 9, 10, 11] (fun t7 t9 t10 i wr => ∃ k : Nat, k ≤ n ∧ i = .int .i64 k ∧ t7 = .int .u64 ((ks.take k).sum : Nat) ∧ FoldSt B8 W0 ks k k k t9 t10 wr) (fun _ _ _ i _ => n - (intOf i).toNat)
    case atStart => exact ⟨0, by omega, rfl, rfl, hst0⟩
    case round =>
      obtain ⟨k, hkn, rfl, rfl, hst⟩ := hrel
      clear hst0
      rcases Nat.lt_or_ge k n with hlt | hge
      · obtain ⟨xa, xc, L, rfl, -⟩ := hst.xs
        obtain ⟨ya, yc, M, rfl, -⟩ := hst.ys
        have hkl : k < ks.length := by rw [HNL.out]; exact hlt
        obtain ⟨xk, hxk, hx16⟩ : ∃ xk, ks[k]? = some xk ∧ xk < 65536 := ⟨ks[k], List.getElem?_eq_getElem hkl, hks _ (List.getElem_mem hkl)⟩
        have htk : ks.take (k + 1) = ks.take k ++ [xk] := by rw [take_snoc ks k hkl]; rw [List.getElem?_eq_getElem hkl] at hxk; cases hxk; rfl
        rcases hk with rfl | ⟨g, o, rfl, hc⟩
        · simp at hkl
        have hc0 := hc k xk hxk
        have hgB : g < w.heap.size := World.block_lt_of_cell? w _ hc0
        replace hc0 := (hst.up.cell (p := ⟨g, o + k, none⟩) (by have := hu0.size; show g < _; omega) (by simp; omega)).trans ((hu0.cell (p := ⟨g, o + k, none⟩) hgB (by simp)).trans hc0)
        have hs1 := sum_le (ks.take (k + 1)) 65535 (fun x hx => by have := hks x (List.mem_of_mem_take hx); omega)
        have HT := Lib.hid htk
        have HS7 : Hid (((ks.take (k + 1)).sum : Nat) = (ks.take k).sum + xk) := Lib.hid (by rw [htk]; simp)
        have HP8 : Hid (prodN (ks.take (k + 1)) = prodN (ks.take k) * xk) := Lib.hid (by rw [htk, prodN_append]; simp [prodN])
        have hsb : (ks.take k).sum + xk ≤ 1000000 := by have := HS7.out; rw [List.length_take] at hs1; omega
        have hpb : prodN (ks.take k) < 4294967296 ^ (2 * (12 + 1)) := Nat.lt_of_lt_of_le (prodN_lt (ks.take k) (fun x hx => hks x (List.mem_of_mem_take hx))) (Nat.pow_le_pow_right (by omega) (by rw [List.length_take]; omega))
        have hpl := repN_len (w := w) (v := undef) (i := 13) (by omega) hpb
        have hxl := repN_len (w := w) (v := undef) (i := 1) (n := xk) (by omega) (by omega)
        have FX := Lib.hid (fromW_calls xk (by omega))
        have HX := Lib.hid hxk
        clear hxk htk hkl hs1 hc hpb
        generalize hsk : (ks.take k).sum = sk at *
        generalize hpk : prodN (ks.take k) = pk at *
        have HSK := Lib.hid hsk
        have HPK := Lib.hid hpk
        clear hsk hpk
        obtain ⟨v8, hb8, gp, cp, rfl, hnp⟩ := hst.pr
        rw [HPK.out] at hb8 hnp
        have i1 : (k : Int) < n := by omega
        have i2 : (0 : Int) ≤ k := by omega
        have i3 : (k : Int) ≤ 12 := by omega
        have i4 : (0 : Int) ≤ xk := by omega
        have i5 : (xk : Int) ≤ 65535 := by omega
        have i6 : (sk : Int) + xk ≤ 1000000 := by omega
        have i7 : (0 : Int) ≤ sk := by omega
        go_wp2_with fail
        have e0 : ∀ u : Ext wr, u.w.cell? ⟨B8, 0, none⟩ = some (.slice (some ⟨gp, 0, none⟩) (W32 pk).length cp) := fun u => u.cell (cell_of hb8 0)
        have e1 : ∀ u : Ext wr, u.w.cell? ⟨g, o + k, none⟩ = some (.int .u16 xk) := fun u => u.cell hc0
        refine wp_region_seg_at [6, 7] [] [0, 1, 2, 3, 4, 5, 6, 7] [8] 8 (by kernel_rfl) (by kernel_rfl) (by kernel_rfl) ?_
        refine seg_plain rfl rfl rfl rfl rfl ?_
        intro K' hK'
        go_big_quiet_op
        go_big_quiet_on
        refine seg_plain rfl rfl rfl rfl rfl ?_
        intro K' hK'
        go_big_quiet_op
        go_big_quiet_on
        refine seg_plain rfl rfl rfl rfl rfl ?_
        intro K' hK'
        go_big_quiet_op
        go_big_quiet_on
        refine seg_plain rfl rfl rfl rfl rfl ?_
        intro K' hK'
        go_big_quiet_op
        go_big_quiet_on
        refine seg_plain rfl rfl rfl rfl rfl ?_
        intro K' hK'
        go_big_quiet_op
        go_big_quiet_on
        refine seg_plain rfl rfl rfl rfl rfl ?_
        intro K' hK'
        go_big_quiet_op
        go_big_quiet_on
        refine seg_callO (Y := Nat × Nat) (fun tt => .agg #[.slice (some ⟨tt.1, 0, none⟩) (W32 xk).length tt.2]) (fun tt u => NumS u (some ⟨tt.1, 0, none⟩) tt.2 xk) (fun _ => []) rfl rfl rfl rfl (fun _ _ _ h hu => h.ext hu) (fun _ => List.nodup_nil) (fun w => by go_simp) (fun w hu hd => (FX.out w).mono fun e w' ⟨g, h1, h2, h3⟩ => ⟨(g, 2), h1, h3, h2, fun b hb => by cases hb⟩) ?_
        rintro ⟨gx, cx⟩
        simp only [Act.put, List.setIfInBounds_toArray, List.set_cons_zero, List.set_cons_succ]
        refine seg_callO (Y := Nat × Nat) (fun tt => .agg #[.slice (some ⟨tt.1, 0, none⟩) (W32 (pk * xk)).length tt.2]) (fun tt u => NumS u (some ⟨tt.1, 0, none⟩) tt.2 (pk * xk)) (fun _ => []) rfl rfl rfl rfl (fun _ _ _ h hu => h.ext hu) (fun _ => List.nodup_nil) (fun w => by go_simp) (fun w hu hd => (mul_calls pk xk _ _ _ _ w (hnp.ext hu) (hd.1 (by kernel_rfl)) hpl hxl).mono fun e w' ⟨g, vc, h1, h2, h3⟩ => ⟨(g, vc), h1, h3, h2, fun b hb => by cases hb⟩) ?_
        rintro ⟨gq, cq⟩
        simp only [Act.put, List.setIfInBounds_toArray, List.set_cons_zero, List.set_cons_succ]
        intro w9 hg
        have hv := hg.up
        have hq := hg.hold.1
        simp only at hq
        clear hg e0 e1 hnp hpl
        simp only [List.drop_succ_cons, List.drop_zero]
        replace hst := hst.ext hv
        have hb9 := hv.at hb8 (by simp)
        replace hc0 := (hv.cell (p := ⟨g, o + k, none⟩) (World.block_lt_of_cell? wr _ hc0) (by simp)).trans hc0
        have s0 := cell_of hb9 0
        have s1 := free_of hb9 0
        simp only [List.getElem?_toArray, List.getElem?_cons_zero, List.getElem?_cons_succ] at s0
        have hgne : g ≠ B8 := by omega
        have hgne2 : B8 ≠ g := by omega
        have hstV := hst.prod (i := k + 1) (v' := .slice (some ⟨gq, 0, none⟩) (W32 (pk * xk)).length cq) (by rw [HP8.out]; exact ⟨gq, cq, rfl, hq⟩)
        have HST := Lib.hid hstV
        clear hstV hst hb8 hb9 hq hv
        go_wp2_with fail
        refine (FX.out _).mono ?_
        rintro e wA ⟨ga, rfl, na, hua⟩
        have hstA := (HST.out.ext hua).ext ((Upto.refl [] wA).alloc (.cells #[.slice (some ⟨ga, 0, none⟩) (W32 xk).length 2] 45))
        have naA := na.ext ((Upto.refl [] wA).alloc (.cells #[.slice (some ⟨ga, 0, none⟩) (W32 xk).length 2] 45))
        have hcA := (hua.cell (p := ⟨g, o + k, none⟩) (by show g < _; have := HST.out.up.size; have := hu0.size; omega) (by simp)).trans (((Upto.refl [B8] w9).setCell (p := ⟨B8, 0, none⟩) (Or.inl (by simp)) (.slice (some ⟨gq, 0, none⟩) (W32 (pk * xk)).length cq)).cell (p := ⟨g, o + k, none⟩) (World.block_lt_of_cell? w9 _ hc0) (by simp; omega))
        replace hcA := hcA.trans hc0
        obtain ⟨_, _, L9, he9, hro9, hL9, hown9, _⟩ := hstA.xs
        cases he9
        have HSA := Lib.hid hstA
        have hlA : g < wA.heap.size := World.block_lt_of_cell? wA _ hcA
        have hgX : ∀ q, (Value.slice xa k xc).ownBlock = some q → g ≠ q := by
          intro q hq
          have := hown9 q hq
          have := hu0.size
          omega
        have HGX := Lib.hid hgX
        clear hgX hstA na hua s0 s1 hc0 hown9 HST
        go_wp2_with (at_builtin; refine wpList_app _ rfl (.tmp 56) (.tmp 63) 88 rfl 45 i0 (.agg #[.slice none 0 0]) 1 24 Tryd.underlying88 HI.out HZ0.out HZ1.out HZ2.out rfl (by decide) (.slice xa k xc) k _ rfl hro9 ⟨wA.heap.size, 0, none⟩ 1 1 [.slice (some ⟨ga, 0, none⟩) (W32 xk).length 2] rfl rfl one_cell (by simp [Value.oneCell']) (by unfold maxLen; omega) (by omega) ?_; intro qa qc wB hoB huB hwB; have hcB := (huB.cell (p := ⟨g, o + k, none⟩) (by simp; omega) (fun hm => HGX.out g (by simpa using hm) rfl)).trans (((Upto.refl [] wA).alloc (.cells #[.slice (some ⟨ga, 0, none⟩) (W32 xk).length 2] 45)).cell (p := ⟨g, o + k, none⟩) hlA (by simp)); rw [hcA] at hcB; clear hcA)
        have hstB := HSA.out.app9 hro9 hL9 HT.out ⟨ga, 2, rfl, naA⟩ hoB huB hwB
        clear HSA hro9 hL9 hoB huB hwB naA HGX hlA
        refine (FX.out _).mono ?_
        rintro e wC ⟨gb, rfl, nb, hub⟩
        have hstC := hstB.ext hub
        obtain ⟨_, _, MC, heC, hMC, hMl, hMe, _⟩ := hstC.ys
        cases heC
        have ho0 : (wC.alloc (.cells #[.slice (some ⟨gb, 0, none⟩) (W32 xk).length 2] 45)).ownsRow 0 45 1 (.slice (some ⟨wC.heap.size, 0, none⟩) 1 1) 1 [.slice (some ⟨gb, 0, none⟩) (W32 xk).length 2] := ⟨rfl, Or.inr ⟨_, 1, #[.slice (some ⟨gb, 0, none⟩) (W32 xk).length 2], rfl, Nat.zero_le _, new_at _ _, Nat.le_refl _, by unfold maxLen; omega, rfl, rfl⟩⟩
        have hMC1 := hMC.ext ((Upto.refl [] wC).alloc (.cells #[.slice (some ⟨gb, 0, none⟩) (W32 xk).length 2] 45))
        have h1c : ∀ u ∈ MC, u.oneCell' = true := elems_one hMe
        have HSC := Lib.hid hstC
        have HME := Lib.hid hMe
        clear hstB hstC hub hMe hMC hcB
        go_wp2_with (at_builtin; refine wpList_apps _ rfl (.tmp 71) (.tmp 72) 88 rfl 45 i0 (.agg #[.slice none 0 0]) 24 Tryd.underlying88 HI.out HZ0.out HZ1.out HZ2.out rfl (.slice (some ⟨wC.heap.size, 0, none⟩) 1 1) 1 [.slice (some ⟨gb, 0, none⟩) (W32 xk).length 2] rfl ho0 _ MC rfl hMC1 h1c (by unfold maxLen; omega) (by omega) ?_; intro ra rc wD hoD huD hwD)
        have hoD2 := hoD
        rw [hMl] at hoD2
        have huCD : Upto [] wC wD := ((Upto.refl [] wC).alloc (.cells #[.slice (some ⟨gb, 0, none⟩) (W32 xk).length 2] 45)).trans huD (fun b hb => Or.inr (by simp [Value.ownBlock] at hb; omega))
        have hstD := HSC.out.app10 huCD HME.out HT.out (v := .slice (some ⟨gb, 0, none⟩) (W32 xk).length 2) ⟨gb, 2, rfl, nb.ext huCD⟩ (n := 1 + k) (by omega) (SlC.of_row hoD2) (fun g o e => by
          subst e
          obtain ⟨cur, hh⟩ := ownsRow_block hoD (g := g) rfl
          refine ⟨?_, lt_of_heap hh⟩
          rcases hwD g rfl with h | h
          · simp [Value.ownBlock] at h
            omega
          · simp at h
            omega)
        clear HSC HME hoD hoD2 huD hwD ho0 hMC1 h1c huCD nb
        go_roundw
        case rel => exact ⟨k + 1, by omega, by go_num, by rw [HS7.out]; go_num, hstD⟩
        case measure => simp [intOf]; omega
      · obtain rfl : k = n := by omega
        have hT : ks.take k = ks := by rw [← HNL.out, List.take_length]
        obtain ⟨v8, hb8, gp, cp, rfl, hnp⟩ := hst.pr
        obtain ⟨xa, xc, L, rfl, hro, hL, -, -⟩ := hst.xs
        obtain ⟨ya, yc, M, rfl, hM, -, hMe, -⟩ := hst.ys
        have hU0 := hst.up
        rw [hT] at hb8 hnp hL hMe
        have hsx := SlC.of_row hro
        have hsb := sum_le ks 65535 (fun x hx => by have := hks x hx; omega)
        have hsb2 : ks.sum ≤ 1000000 := by rw [HNL.out] at hsb; omega
        have hpb : prodN ks < 4294967296 ^ (2 * (12 + 1)) := Nat.lt_of_lt_of_le (prodN_lt ks hks) (Nat.pow_le_pow_right (by omega) (by rw [HNL.out]; omega))
        have hpl := repN_len (w := w) (v := undef) (i := 13) (by omega) hpb
        have hsl := repN_len (w := w) (v := undef) (i := 1) (n := ks.sum) (by omega) (by omega)
        have FSq := Lib.hid (fromW_calls ks.sum (by omega))
        have hkr : ∀ x ∈ ks.reverse, x < 65536 := fun x hx => hks x (by simpa using hx)
        have A1 := Lib.hid (fun u (hu : Upto [] wr u) => nsum_list2 xa xc k L ks u hn12 (hsx.ext hu) (hL.imp fun _ _ h => h.ext hu) HNL.out hks)
        have A2 := Lib.hid (fun u (hu : Upto [] wr u) => nprod_list2 xa xc k L ks u hn12 (hsx.ext hu) (hL.imp fun _ _ h => h.ext hu) HNL.out hks)
        have A3 := Lib.hid (fun u (hu : Upto [] wr u) => nsum_list2 ya yc k M ks.reverse u hn12 (hM.ext hu) (hMe.imp fun _ _ h => h.ext hu) (by rw [List.length_reverse]; exact HNL.out) hkr)
        have A4 := Lib.hid (fun u (hu : Upto [] wr u) => nprod_list2 ya yc k M ks.reverse u hn12 (hM.ext hu) (hMe.imp fun _ _ h => h.ext hu) (by rw [List.length_reverse]; exact HNL.out) hkr)
        rw [sum_reverse] at A3
        rw [prodN_reverse] at A4
        have hge2 : ¬ (k : Int) < k := by omega
        rw [hT]
        have HT := Lib.hid hT
        generalize hsk : ks.sum = sk at *
        generalize hpk : prodN ks = pk at *
        have HSK := Lib.hid hsk
        have HPK := Lib.hid hpk
        clear hsk hpk hT hst hpb hsb
        have b12 := new_at wr (.cells #[] 42)
        have hw12 : Upto [] wr (wr.alloc (.cells #[] 42)) := (Upto.refl [] wr).alloc _
        go_wp2_with fail
        generalize wr.alloc (.cells #[] 42) = W at *
        generalize wr.heap.size = B12 at *
        replace hb8 := hw12.at hb8 (by simp)
        replace hnp := hnp.ext hw12
        have e0 : ∀ u : Ext W, u.w.cell? ⟨B8, 0, none⟩ = some (.slice (some ⟨gp, 0, none⟩) (W32 pk).length cp) := fun u => u.cell (cell_of hb8 0)
        refine wp_region_seg_all [3, 5, 6, 12, 14, 21, 23, 24, 31, 33] [] [0, 1, 2, 3, 4, 5, 6, 7, 8, 9, 10, 11, 12, 13, 14, 15, 16, 17, 18, 19, 20, 21, 22, 23, 24, 25, 26, 27, 28, 29, 30, 31, 32, 33, 34, 35] (by kernel_rfl) (by kernel_rfl) ?_
        refine seg_plain rfl rfl rfl rfl rfl ?_
        intro K' hK'
        go_big_quiet_op
        go_big_quiet_on
        refine seg_plain rfl rfl rfl rfl rfl ?_
        intro K' hK'
        go_big_quiet_op
        go_big_quiet_on
        refine seg_plain rfl rfl rfl rfl rfl ?_
        intro K' hK'
        go_big_quiet_op
        go_big_quiet_on
        refine seg_callO (Y := Option Addr × Nat) (fun tt => .agg #[.slice tt.1 (W32 sk).length tt.2]) (fun tt u => NumS u tt.1 tt.2 sk) (fun _ => []) rfl rfl rfl rfl (fun _ _ _ h hu => h.ext hu) (fun _ => List.nodup_nil) (fun w => by go_simp) (fun w hu hd => (A1.out w (hw12.trans_ext hu)).mono fun e w' ⟨g, c, h1, h2, h3⟩ => ⟨(g, c), h1, h2, h3, fun b hb => by cases hb⟩) ?_
        rintro ⟨ga, ca⟩
        simp only [Act.put, List.setIfInBounds_toArray, List.set_cons_zero, List.set_cons_succ]
        refine seg_plain rfl rfl rfl rfl rfl ?_
        intro K' hK'
        go_big_quiet_op
        go_big_quiet_on
        refine seg_callO (Y := Nat × Nat) (fun tt => .agg #[.slice (some ⟨tt.1, 0, none⟩) (W32 sk).length tt.2]) (fun tt u => NumS u (some ⟨tt.1, 0, none⟩) tt.2 sk) (fun _ => []) rfl rfl rfl rfl (fun _ _ _ h hu => h.ext hu) (fun _ => List.nodup_nil) (fun w => by go_simp) (fun w hu hd => (FSq.out w).mono fun e w' ⟨g, h1, h2, h3⟩ => ⟨(g, 2), h1, h3, h2, fun b hb => by cases hb⟩) ?_
        rintro ⟨gb, cb⟩
        simp only [Act.put, List.setIfInBounds_toArray, List.set_cons_zero, List.set_cons_succ]
        refine seg_call (v := .bool true) rfl rfl rfl rfl (fun w => by go_simp) (fun w hu hd => (nequal_calls sk sk _ _ _ _ w (hd.2.1 (by kernel_rfl)) (hd.1 (by kernel_rfl)) hsl hsl).mono fun e w' ⟨h1, h2⟩ => ⟨by rw [h1]; simp, h2⟩) ?_
        simp only [Act.put, List.setIfInBounds_toArray, List.set_cons_zero, List.set_cons_succ]
        refine seg_plain rfl rfl rfl rfl rfl ?_
        intro K' hK'
        go_big_quiet_op
        go_big_quiet_on
        refine seg_plain rfl rfl rfl rfl rfl ?_
        intro K' hK'
        go_big_quiet_op
        go_big_quiet_on
        refine seg_plain rfl rfl rfl rfl rfl ?_
        intro K' hK'
        go_big_quiet_op
        go_big_quiet_on
        refine seg_plain rfl rfl rfl rfl rfl ?_
        intro K' hK'
        go_big_quiet_op
        go_big_quiet_on
        refine seg_plain rfl rfl rfl rfl rfl ?_
        intro K' hK'
        go_big_quiet_op
        go_big_quiet_on
        refine seg_callO (Y := Option Addr × Nat) (fun tt => .agg #[.slice tt.1 (W32 pk).length tt.2]) (fun tt u => NumS u tt.1 tt.2 pk) (fun _ => []) rfl rfl rfl rfl (fun _ _ _ h hu => h.ext hu) (fun _ => List.nodup_nil) (fun w => by go_simp) (fun w hu hd => (A2.out w (hw12.trans_ext hu)).mono fun e w' ⟨g, c, h1, h2, h3⟩ => ⟨(g, c), h1, h2, h3, fun b hb => by cases hb⟩) ?_
        rintro ⟨ga, ca⟩
        simp only [Act.put, List.setIfInBounds_toArray, List.set_cons_zero, List.set_cons_succ]
        refine seg_plain rfl rfl rfl rfl rfl ?_
        intro K' hK'
        go_big_quiet_op
        go_big_quiet_on
        refine seg_call (v := .bool true) rfl rfl rfl rfl (fun w => by go_simp) (fun w hu hd => (nequal_calls pk pk _ _ _ _ w (hd.1 (by kernel_rfl)) (hnp.ext hu) hpl hpl).mono fun e w' ⟨h1, h2⟩ => ⟨by rw [h1]; simp, h2⟩) ?_
        simp only [Act.put, List.setIfInBounds_toArray, List.set_cons_zero, List.set_cons_succ]
        refine seg_plain rfl rfl rfl rfl rfl ?_
        intro K' hK'
        go_big_quiet_op
        go_big_quiet_on
        refine seg_plain rfl rfl rfl rfl rfl ?_
        intro K' hK'
        go_big_quiet_op
        go_big_quiet_on
        refine seg_plain rfl rfl rfl rfl rfl ?_
        intro K' hK'
        go_big_quiet_op
        go_big_quiet_on
        refine seg_plain rfl rfl rfl rfl rfl ?_
        intro K' hK'
        go_big_quiet_op
        go_big_quiet_on
        refine seg_plain rfl rfl rfl rfl rfl ?_
        intro K' hK'
        go_big_quiet_op
        go_big_quiet_on
        refine seg_plain rfl rfl rfl rfl rfl ?_
        intro K' hK'
        go_big_quiet_op
        go_big_quiet_on
        refine seg_callO (Y := Option Addr × Nat) (fun tt => .agg #[.slice tt.1 (W32 sk).length tt.2]) (fun tt u => NumS u tt.1 tt.2 sk) (fun _ => []) rfl rfl rfl rfl (fun _ _ _ h hu => h.ext hu) (fun _ => List.nodup_nil) (fun w => by go_simp) (fun w hu hd => (A3.out w (hw12.trans_ext hu)).mono fun e w' ⟨g, c, h1, h2, h3⟩ => ⟨(g, c), h1, h2, h3, fun b hb => by cases hb⟩) ?_
        rintro ⟨ga, ca⟩
        simp only [Act.put, List.setIfInBounds_toArray, List.set_cons_zero, List.set_cons_succ]
        refine seg_plain rfl rfl rfl rfl rfl ?_
        intro K' hK'
        go_big_quiet_op
        go_big_quiet_on
        refine seg_callO (Y := Nat × Nat) (fun tt => .agg #[.slice (some ⟨tt.1, 0, none⟩) (W32 sk).length tt.2]) (fun tt u => NumS u (some ⟨tt.1, 0, none⟩) tt.2 sk) (fun _ => []) rfl rfl rfl rfl (fun _ _ _ h hu => h.ext hu) (fun _ => List.nodup_nil) (fun w => by go_simp) (fun w hu hd => (FSq.out w).mono fun e w' ⟨g, h1, h2, h3⟩ => ⟨(g, 2), h1, h3, h2, fun b hb => by cases hb⟩) ?_
        rintro ⟨gb, cb⟩
        simp only [Act.put, List.setIfInBounds_toArray, List.set_cons_zero, List.set_cons_succ]
        refine seg_call (v := .bool true) rfl rfl rfl rfl (fun w => by go_simp) (fun w hu hd => (nequal_calls sk sk _ _ _ _ w (hd.2.1 (by kernel_rfl)) (hd.1 (by kernel_rfl)) hsl hsl).mono fun e w' ⟨h1, h2⟩ => ⟨by rw [h1]; simp, h2⟩) ?_
        simp only [Act.put, List.setIfInBounds_toArray, List.set_cons_zero, List.set_cons_succ]
        refine seg_plain rfl rfl rfl rfl rfl ?_
        intro K' hK'
        go_big_quiet_op
        go_big_quiet_on
        refine seg_plain rfl rfl rfl rfl rfl ?_
        intro K' hK'
        go_big_quiet_op
        go_big_quiet_on
        refine seg_plain rfl rfl rfl rfl rfl ?_
        intro K' hK'
        go_big_quiet_op
        go_big_quiet_on
        refine seg_plain rfl rfl rfl rfl rfl ?_
        intro K' hK'
        go_big_quiet_op
        go_big_quiet_on
        refine seg_plain rfl rfl rfl rfl rfl ?_
        intro K' hK'
        go_big_quiet_op
        go_big_quiet_on
        refine seg_plain rfl rfl rfl rfl rfl ?_
        intro K' hK'
        go_big_quiet_op
        go_big_quiet_on
        refine seg_callO (Y := Option Addr × Nat) (fun tt => .agg #[.slice tt.1 (W32 pk).length tt.2]) (fun tt u => NumS u tt.1 tt.2 pk) (fun _ => []) rfl rfl rfl rfl (fun _ _ _ h hu => h.ext hu) (fun _ => List.nodup_nil) (fun w => by go_simp) (fun w hu hd => (A4.out w (hw12.trans_ext hu)).mono fun e w' ⟨g, c, h1, h2, h3⟩ => ⟨(g, c), h1, h2, h3, fun b hb => by cases hb⟩) ?_
        rintro ⟨ga, ca⟩
        simp only [Act.put, List.setIfInBounds_toArray, List.set_cons_zero, List.set_cons_succ]
        refine seg_plain rfl rfl rfl rfl rfl ?_
        intro K' hK'
        go_big_quiet_op
        go_big_quiet_on
        refine seg_call (v := .bool true) rfl rfl rfl rfl (fun w => by go_simp) (fun w hu hd => (nequal_calls pk pk _ _ _ _ w (hd.1 (by kernel_rfl)) (hnp.ext hu) hpl hpl).mono fun e w' ⟨h1, h2⟩ => ⟨by rw [h1]; simp, h2⟩) ?_
        simp only [Act.put, List.setIfInBounds_toArray, List.set_cons_zero, List.set_cons_succ]
        refine seg_plain rfl rfl rfl rfl rfl ?_
        intro K' hK'
        go_big_quiet_op
        go_big_quiet_on
        refine seg_plain rfl rfl rfl rfl rfl ?_
        intro K' hK'
        go_big_quiet_op
        go_big_quiet_on
        intro w13 hg
        have hv13 := hg.up
        clear hg e0 A1 A2 A3 A4 FSq hb8 hnp hM hMe hpl hsl hkr hge2
        have b13 := alloc_old (new_at w13 (.cells #[.bool false, .int .i64 0] 27)) (.cells #[.bool true, .int .i64 0] 27)
        have b14 := new_at1 w13 (.cells #[.bool false, .int .i64 0] 27) (.cells #[.bool true, .int .i64 0] 27)
        have hUw : Upto [] w wr := hu0.trans hU0 (fun b hb => Or.inr (by rw [List.mem_singleton.1 hb]; exact hlw))
        have hU1 := ((((hUw.trans_ext hw12).trans_ext hv13).alloc (.cells #[.bool false, .int .i64 0] 27)).alloc (.cells #[.bool true, .int .i64 0] 27))
        have hwr1 := (((hw12.trans_ext hv13).alloc (.cells #[.bool false, .int .i64 0] 27)).alloc (.cells #[.bool true, .int .i64 0] 27))
        replace b12 := alloc_old (alloc_old (hv13.at b12 (by simp)) (.cells #[.bool false, .int .i64 0] 27)) (.cells #[.bool true, .int .i64 0] 27)
        have hUB : w.heap.size ≤ w13.heap.size := ((hUw.trans_ext hw12).trans_ext hv13).size
        have hWB : wr.heap.size ≤ w13.heap.size := (hw12.trans_ext hv13).size
        have hsz13 : (w13.alloc (.cells #[.bool false, .int .i64 0] 27)).heap.size = w13.heap.size + 1 := by simp
        go_wp2_with fail
        generalize hW1 : (w13.alloc (.cells #[.bool false, .int .i64 0] 27)).alloc (.cells #[.bool true, .int .i64 0] 27) = W1 at *
        generalize hB13 : w13.heap.size = B13 at *
        clear hW1 hB13 hsz13
        have hst0 : CostSt B13 (B13 + 1) W1 ps 0 0 (.slice none 0 0) W1 := ⟨Upto.refl _ _, lt_of_heap b13, lt_of_heap b14, by omega, ⟨(false, 0), b13, rfl, by simp⟩, ⟨(true, 0), b14, rfl, by simp⟩, ⟨none, 0, rfl, ⟨by simp [cells2], Or.inl ⟨rfl, rfl⟩⟩, fun g hg => by cases hg⟩, by simp⟩
        clear b13 b14 hv13 hw12 hU0 hu0 hlw
        obtain ⟨j0, hj0, jz0, jz1, jz2⟩ := info_parts (show (Tryd.prog.info? 32).map (fun i => (i.zero, i.size, i.bytes)) = some (some (.agg #[.bool false, .int .i64 0]), 2, 16) by kernel_rfl)
        have JI := Lib.hid hj0
        have JZ0 := Lib.hid jz0
        have JZ1 := Lib.hid jz1
        have JZ2 := Lib.hid jz2
        clear hj0 jz0 jz1 jz2
        go_loopw [15, 16] (fun t15 i wr => ∃ j : Nat, j ≤ m ∧ i = .int .i64 j ∧ CostSt B13 (B13 + 1) W1 ps j j t15 wr) (fun _ i _ => m - (intOf i).toNat)
        case atStart => exact ⟨0, by omega, rfl, hst0⟩
        case round =>
          obtain ⟨j, hjm, rfl, hst⟩ := hrel
          clear hst0
          rcases Nat.lt_or_ge j m with hlt | hge
          · obtain ⟨ya2, yc2, rfl, -⟩ := hst.ys
            have hjl : j < ps.length := by rw [HML.out]; exact hlt
            obtain ⟨x, hxj⟩ : ∃ x, ps[j]? = some x := ⟨ps[j], List.getElem?_eq_getElem hjl⟩
            have htk : ps.take (j + 1) = ps.take j ++ [x] := by rw [List.take_succ_eq_append_getElem hjl]; rw [List.getElem?_eq_getElem hjl] at hxj; cases hxj; rfl
            rcases hp with rfl | ⟨gp2, op2, rfl, hcp⟩
            · simp at hjl
            obtain ⟨q, rq⟩ := x
            obtain ⟨hc1, hc2⟩ := hcp j _ hxj
            simp only at hc1 hc2
            have lg1 := World.block_lt_of_cell? w _ hc1
            have hne13 : gp2 ≠ B13 ∧ gp2 ≠ B13 + 1 := by simp only at lg1; omega
            replace hc1 := (hst.up.cell (p := ⟨gp2, op2 + j * 2, none⟩) (by have := hU1.size; show gp2 < _; simp only at lg1; omega) (by simp; omega)).trans ((hU1.cell (p := ⟨gp2, op2 + j * 2, none⟩) lg1 (by simp)).trans hc1)
            replace hc2 := (hst.up.cell (p := ⟨gp2, op2 + j * 2 + 1, none⟩) (by have := hU1.size; show gp2 < _; simp only at lg1; omega) (by simp; omega)).trans ((hU1.cell (p := ⟨gp2, op2 + j * 2 + 1, none⟩) lg1 (by simp)).trans hc2)
            have HT := Lib.hid htk
            have HR := Lib.hid (right_calls (q, rq))
            have HO : Hid (∀ w, Calls Tryd.prog 18 #[.agg #[.bool q, .int .i64 rq]] w fun e w' => e = .returned (.agg #[.bool q, .int .i64 rq]) ∧ Upto [] w w') := fun w => (own_calls q rq w).mono fun e w' ⟨h1, h2⟩ => ⟨h1, by rw [h2]; exact ((Upto.refl [] w).alloc _).alloc _⟩
            simp only [cv] at HR
            generalize hr : rightF (q, rq) = rr at HR
            have HRR := Lib.hid hr
            clear hr hcp hxj htk hjl
            have i1 : (j : Int) < m := by omega
            have i2 : (0 : Int) ≤ j := by omega
            have i3 : (j : Int) ≤ 12 := by omega
            cases rr
            · go_wp2_with fail
              refine (HR.out _).mono ?_
              rintro e wa ⟨rfl, hva⟩
              go_wp2_with fail
              refine (HK.out _).mono ?_
              rintro e wb ⟨rfl, hvb⟩
              go_wp2
              go_ret
              refine ⟨rfl, Upto.trans_ext (Upto.trans_ext (hU1.trans hst.up ?_) hva) hvb⟩
              intro b hb
              have := hUB
              simp at hb
              omega
            · go_wp2_with fail
              refine (HR.out _).mono ?_
              rintro e wa ⟨rfl, hva⟩
              replace hst := hst.ext hva
              replace hc1 := (hva.cell (p := ⟨gp2, op2 + j * 2, none⟩) (World.block_lt_of_cell? _ _ hc1) (by simp)).trans hc1
              replace hc2 := (hva.cell (p := ⟨gp2, op2 + j * 2 + 1, none⟩) (World.block_lt_of_cell? _ _ hc2) (by simp)).trans hc2
              obtain ⟨⟨a1, a2⟩, h13, hC13⟩ := hst.c13
              obtain ⟨⟨d1, d2⟩, h14, hC14⟩ := hst.c14
              simp only at h13 h14
              have HA := Lib.hid (fun w => addR_calls false (a1, a2) (q, rq) w)
              have HM := Lib.hid (fun w => mulR_calls (d1, d2) (q, rq) w)
              simp only [cv] at HA HM
              have hrx : Cost 1 (q, rq) (costO (q, rq)) := Cost.right HRR.out
              have hA2 := hC13.min hrx
              have hM2 := hC14.mul (by omega) hrx
              rw [← msumF_snoc, ← HT.out] at hA2
              rw [← mprodF_snoc, ← HT.out] at hM2
              generalize addR false (a1, a2) (q, rq) = ra at *
              generalize andF (d1, d2) (q, rq) = rm at *
              obtain ⟨ra1, ra2⟩ := ra
              obtain ⟨rm1, rm2⟩ := rm
              simp only at HA HM
              go_wp2_with fail
              have e0 : ∀ u : Ext wa, u.w.cell? ⟨B13, 0, none⟩ = some (.bool a1) := fun u => u.cell (cell_of h13 0)
              have e1 : ∀ u : Ext wa, u.w.cell? ⟨B13, 1, none⟩ = some (.int .i64 a2) := fun u => u.cell (cell_of h13 1)
              have e2 : ∀ u : Ext wa, u.w.cell? ⟨B13 + 1, 0, none⟩ = some (.bool d1) := fun u => u.cell (cell_of h14 0)
              have e3 : ∀ u : Ext wa, u.w.cell? ⟨B13 + 1, 1, none⟩ = some (.int .i64 d2) := fun u => u.cell (cell_of h14 1)
              have e4 : ∀ u : Ext wa, u.w.cell? ⟨gp2, op2 + j * 2, none⟩ = some (.bool q) := fun u => u.cell hc1
              have e5 : ∀ u : Ext wa, u.w.cell? ⟨gp2, op2 + j * 2 + 1, none⟩ = some (.int .i64 rq) := fun u => u.cell hc2
              refine wp_region_seg_at [5, 11] [] [0, 1, 2, 3, 4, 5, 6, 7, 8, 9, 10, 11] [12, 13] 12 (by kernel_rfl) (by kernel_rfl) (by kernel_rfl) ?_
              refine seg_plain rfl rfl rfl rfl rfl ?_
              intro K' hK'
              go_big_quiet_op
              go_big_quiet_on
              refine seg_plain rfl rfl rfl rfl rfl ?_
              intro K' hK'
              go_big_quiet_op
              go_big_quiet_on
              refine seg_plain rfl rfl rfl rfl rfl ?_
              intro K' hK'
              go_big_quiet_op
              go_big_quiet_on
              refine seg_plain rfl rfl rfl rfl rfl ?_
              intro K' hK'
              go_big_quiet_op
              go_big_quiet_on
              refine seg_plain rfl rfl rfl rfl rfl ?_
              intro K' hK'
              go_big_quiet_op
              go_big_quiet_on
              refine seg_call rfl rfl rfl rfl (fun w => by go_simp) (fun w hu hd => HA.out w) ?_
              simp only [Act.put, List.setIfInBounds_toArray, List.set_cons_zero, List.set_cons_succ]
              refine seg_plain rfl rfl rfl rfl rfl ?_
              intro K' hK'
              go_big_quiet_op
              go_big_quiet_on
              refine seg_plain rfl rfl rfl rfl rfl ?_
              intro K' hK'
              go_big_quiet_op
              go_big_quiet_on
              refine seg_plain rfl rfl rfl rfl rfl ?_
              intro K' hK'
              go_big_quiet_op
              go_big_quiet_on
              refine seg_plain rfl rfl rfl rfl rfl ?_
              intro K' hK'
              go_big_quiet_op
              go_big_quiet_on
              refine seg_plain rfl rfl rfl rfl rfl ?_
              intro K' hK'
              go_big_quiet_op
              go_big_quiet_on
              refine seg_call rfl rfl rfl rfl (fun w => by go_simp) (fun w hu hd => HM.out w) ?_
              simp only [Act.put, List.setIfInBounds_toArray, List.set_cons_zero, List.set_cons_succ]
              intro w9 hg
              have hv := hg.up
              clear hg e0 e1 e2 e3 e4 e5
              simp only [List.drop_succ_cons, List.drop_zero]
              replace hst := hst.ext hv
              replace h13 := hv.at h13 (by simp)
              replace h14 := hv.at h14 (by simp)
              have s0 := cell_of h13 0
              have s2 := cell_of h14 0
              have t10 := free_of h13 0
              have t12 := free_of h14 0
              have s1 := cell_of h13 1
              have s3 := cell_of h14 1
              have t11 := free_of h13 1
              have t13 := free_of h14 1
              simp only [List.getElem?_toArray, List.getElem?_cons_zero, List.getElem?_cons_succ] at s0 s1 s2 s3
              replace hc1 := (hv.cell (p := ⟨gp2, op2 + j * 2, none⟩) (World.block_lt_of_cell? _ _ hc1) (by simp)).trans hc1
              replace hc2 := (hv.cell (p := ⟨gp2, op2 + j * 2 + 1, none⟩) (World.block_lt_of_cell? _ _ hc2) (by simp)).trans hc2
              obtain ⟨n13, n14⟩ := hne13
              have n13b := Ne.symm n13
              have n14b := Ne.symm n14
              have nbb : B13 ≠ B13 + 1 := by omega
              have nbc : B13 + 1 ≠ B13 := by omega
              have HST := Lib.hid (hst.vars (a := (ra1, ra2)) (b := (rm1, rm2)) (i' := j + 1) hA2 hM2)
              clear hst h13 h14 hA2 hM2 hrx hC13 hC14 HA HM hva hv HR
              go_wp2_with fail
              refine (HO.out _).mono ?_
              rintro e wX ⟨rfl, hux⟩
              have hstX := (HST.out.ext hux).ext ((Upto.refl [] wX).alloc (.cells #[.bool q, .int .i64 rq] 32))
              obtain ⟨_, _, heX, hroX, -⟩ := hstX.ys
              cases heX
              have HSX := Lib.hid hstX
              clear hstX HST hux s0 s1 s2 s3 t10 t11 t12 t13 hc1 hc2 HO n13 n14 n13b n14b nbb nbc
              go_wp2_with (at_builtin; refine wpList_app _ rfl (.tmp 138) (.tmp 144) 91 rfl 32 j0 (.agg #[.bool false, .int .i64 0]) 2 16 Tryd.underlying91 JI.out JZ0.out JZ1.out JZ2.out rfl (by decide) (.slice ya2 j yc2) j _ rfl hroX ⟨wX.heap.size, 0, none⟩ 1 1 [.bool q, .int .i64 rq] rfl rfl two_cell (by simp [Value.oneCell']) (by unfold maxLen; omega) (by omega) ?_; intro qa qc wY hoY huY hwY)
              have hstY := HSX.out.app HT.out HRR.out hoY huY hwY
              clear HSX hroX hoY huY hwY
              go_roundw
              case rel => exact ⟨j + 1, by omega, by go_num, hstY⟩
              case measure => simp [intOf]; omega
          · obtain rfl : j = m := by omega
            have hTj : ps.take j = ps := by rw [← HML.out, List.take_length]
            obtain ⟨⟨a1, a2⟩, h13, hC13⟩ := hst.c13
            obtain ⟨⟨d1, d2⟩, h14, hC14⟩ := hst.c14
            obtain ⟨yb, yd, rfl, hroY, -⟩ := hst.ys
            have hrt := hst.rt
            simp only at h13 h14
            rw [hTj] at hC13 hC14 hroY hrt
            have hcy := row2_cells hroY
            have hUE : Upto [] w wr := hU1.trans hst.up (by intro b hb; simp at hb; omega)
            have hUr : Upto [B13, B13 + 1] W1 wr := hst.up
            have hge3 : ¬ (j : Int) < j := by omega
            clear hst JI JZ0 JZ1 JZ2 hroY hTj
            have B1 := Lib.hid (fun u (hu : Upto [] wr u) => msum_list yb yd j ps u hm12 HML.out hrt (hcy.imp id fun ⟨g, o, e, h⟩ => ⟨g, o, e, fun k x hx => ⟨(hu.cell (World.block_lt_of_cell? _ _ (h k x hx).1) (by simp)).trans (h k x hx).1, (hu.cell (World.block_lt_of_cell? _ _ (h k x hx).2) (by simp)).trans (h k x hx).2⟩⟩))
            have B2 := Lib.hid (fun u (hu : Upto [] wr u) => mprod_list yb yd j ps u hm12 HML.out hrt (hcy.imp id fun ⟨g, o, e, h⟩ => ⟨g, o, e, fun k x hx => ⟨(hu.cell (World.block_lt_of_cell? _ _ (h k x hx).1) (by simp)).trans (h k x hx).1, (hu.cell (World.block_lt_of_cell? _ _ (h k x hx).2) (by simp)).trans (h k x hx).2⟩⟩))
            have hw2 : Upto [] wr (wr.alloc (.cells #[] 29)) := (Upto.refl [] wr).alloc _
            replace h13 := hw2.at h13 (by simp)
            replace h14 := hw2.at h14 (by simp)
            clear hcy hrt
            go_wp2_with fail
            generalize wr.alloc (.cells #[] 29) = W2 at *
            have e0 : ∀ u : Ext W2, u.w.cell? ⟨B13, 0, none⟩ = some (.bool a1) := fun u => u.cell (cell_of h13 0)
            have e1 : ∀ u : Ext W2, u.w.cell? ⟨B13, 1, none⟩ = some (.int .i64 a2) := fun u => u.cell (cell_of h13 1)
            have e2 : ∀ u : Ext W2, u.w.cell? ⟨B13 + 1, 0, none⟩ = some (.bool d1) := fun u => u.cell (cell_of h14 0)
            have e3 : ∀ u : Ext W2, u.w.cell? ⟨B13 + 1, 1, none⟩ = some (.int .i64 d2) := fun u => u.cell (cell_of h14 1)
            refine wp_region_seg_all [3, 4, 6, 12, 13, 15] [] [0, 1, 2, 3, 4, 5, 6, 7, 8, 9, 10, 11, 12, 13, 14, 15, 16, 17] (by kernel_rfl) (by kernel_rfl) ?_
            refine seg_plain rfl rfl rfl rfl rfl ?_
            intro K' hK'
            go_big_quiet_op
            go_big_quiet_on
            refine seg_plain rfl rfl rfl rfl rfl ?_
            intro K' hK'
            go_big_quiet_op
            go_big_quiet_on
            refine seg_plain rfl rfl rfl rfl rfl ?_
            intro K' hK'
            go_big_quiet_op
            go_big_quiet_on
            refine seg_callO (Y := Bool × Int) (fun tt => .agg #[.bool tt.1, .int .i64 tt.2]) (fun tt u => costO (tt.1, tt.2) = msumF ps) (fun _ => []) rfl rfl rfl rfl (fun _ _ _ h hu => h) (fun _ => List.nodup_nil) (fun w => by go_simp) (fun w hu hd => (B1.out w (hw2.trans_ext hu)).mono fun e w' ⟨l, m, h1, h2, h3⟩ => ⟨(l, m), h1, h2, repC_cost h3, fun b hb => by cases hb⟩) ?_
            rintro ⟨ls, ms⟩
            simp only [Act.put, List.setIfInBounds_toArray, List.set_cons_zero, List.set_cons_succ]
            refine seg_call rfl rfl rfl rfl (fun w => by go_simp) (fun w hu hd => back_calls (ls, ms) w) ?_
            simp only [cv]
            simp only [Act.put, List.setIfInBounds_toArray, List.set_cons_zero, List.set_cons_succ]
            refine seg_plain rfl rfl rfl rfl rfl ?_
            intro K' hK'
            go_big_quiet_op
            go_big_quiet_on
            refine seg_call (v := .bool true) rfl rfl rfl rfl (fun w => by go_simp) (fun w hu hd => (sameR_calls (ls, ms) (a1, a2) w).mono fun e w' ⟨k1, k2⟩ => ⟨by rw [k1, same_eq ((hd.1 (by kernel_rfl)).trans hC13.1)], k2⟩) ?_
            simp only [Act.put, List.setIfInBounds_toArray, List.set_cons_zero, List.set_cons_succ]
            refine seg_plain rfl rfl rfl rfl rfl ?_
            intro K' hK'
            go_big_quiet_op
            go_big_quiet_on
            refine seg_plain rfl rfl rfl rfl rfl ?_
            intro K' hK'
            go_big_quiet_op
            go_big_quiet_on
            refine seg_plain rfl rfl rfl rfl rfl ?_
            intro K' hK'
            go_big_quiet_op
            go_big_quiet_on
            refine seg_plain rfl rfl rfl rfl rfl ?_
            intro K' hK'
            go_big_quiet_op
            go_big_quiet_on
            refine seg_plain rfl rfl rfl rfl rfl ?_
            intro K' hK'
            go_big_quiet_op
            go_big_quiet_on
            refine seg_callO (Y := Bool × Int) (fun tt => .agg #[.bool tt.1, .int .i64 tt.2]) (fun tt u => costO (tt.1, tt.2) = mprodF ps) (fun _ => []) rfl rfl rfl rfl (fun _ _ _ h hu => h) (fun _ => List.nodup_nil) (fun w => by go_simp) (fun w hu hd => (B2.out w (hw2.trans_ext hu)).mono fun e w' ⟨l, m, h1, h2, h3⟩ => ⟨(l, m), h1, h2, repC_cost h3, fun b hb => by cases hb⟩) ?_
            rintro ⟨lp, mp⟩
            simp only [Act.put, List.setIfInBounds_toArray, List.set_cons_zero, List.set_cons_succ]
            refine seg_call rfl rfl rfl rfl (fun w => by go_simp) (fun w hu hd => back_calls (lp, mp) w) ?_
            simp only [cv]
            simp only [Act.put, List.setIfInBounds_toArray, List.set_cons_zero, List.set_cons_succ]
            refine seg_plain rfl rfl rfl rfl rfl ?_
            intro K' hK'
            go_big_quiet_op
            go_big_quiet_on
            refine seg_call (v := .bool true) rfl rfl rfl rfl (fun w => by go_simp) (fun w hu hd => (sameR_calls (lp, mp) (d1, d2) w).mono fun e w' ⟨k1, k2⟩ => ⟨by rw [k1, same_eq ((hd.1 (by kernel_rfl)).trans hC14.1)], k2⟩) ?_
            simp only [Act.put, List.setIfInBounds_toArray, List.set_cons_zero, List.set_cons_succ]
            refine seg_plain rfl rfl rfl rfl rfl ?_
            intro K' hK'
            go_big_quiet_op
            go_big_quiet_on
            refine seg_plain rfl rfl rfl rfl rfl ?_
            intro K' hK'
            go_big_quiet_op
            go_big_quiet_on
            intro w25 hg
            have hv := hg.up
            clear hg e0 e1 e2 e3 B1 B2 h13 h14 hC13 hC14 hge3
            replace hUE := (hUE.trans_ext hw2).trans_ext hv
            have hwU : Upto [B13, B13 + 1] W1 w25 := (hUr.trans_ext hw2).trans_ext hv
            clear hw2 hv hUr
            obtain ⟨c, hc⟩ : ∃ c, (max 0 z).toNat = c := ⟨_, rfl⟩
            have hcc : (z < 0 ∧ c = 0) ∨ (z = 0 ∧ c = 0) ∨ (0 < z ∧ z = (c : Int)) := by omega
            have hc12 : c ≤ 12 := by omega
            have HCC := Lib.hid hcc
            have HCZ := Lib.hid hc
            clear hcc hc
            go_upto_region 27 with fail
            go_cut [18] (fun v wx => v = .int .i64 c ∧ w25 = wx)
            case first =>
              rcases HCC.out with ⟨h, rfl⟩ | ⟨rfl, rfl⟩ | ⟨h, rfl⟩
              all_goals
                go_wp2_with fail
                go_meet
                exact ⟨rfl, rfl⟩
            case rest =>
              obtain ⟨rfl, rfl⟩ := hcut
              rcases Nat.eq_zero_or_pos k with hk0 | hkp
              · have hki : ¬ (k : Int) > 0 := by omega
                go_wp2_with fail
                refine (HK.out _).mono ?_
                rintro e w' ⟨rfl, hu'⟩
                go_wp2
                go_ret
                exact ⟨rfl, hUE.trans_ext hu'⟩
              · have hki : (k : Int) > 0 := by omega
                have hkl : 0 < ks.length := by rw [HNL.out]; exact hkp
                obtain ⟨x0, hx0, hx16⟩ : ∃ x0, ks[0]? = some x0 ∧ x0 < 65536 := ⟨ks[0], List.getElem?_eq_getElem hkl, hks _ (List.getElem_mem hkl)⟩
                obtain ⟨v0, hv0, g0, c0, rfl, hn0⟩ := hL.get 0 x0 hx0
                rcases hk with rfl | ⟨g, o, rfl, hc⟩
                · simp at hkl
                have hc0 := hc 0 x0 hx0
                replace hc0 : w25.cell? ⟨g, o, none⟩ = some (.int .u16 x0) := (hUE.cell (p := ⟨g, o, none⟩) (World.block_lt_of_cell? w _ hc0) (by simp)).trans hc0
                rcases hsx with ⟨rfl, -⟩ | ⟨gx, ox, cx, hxe, hcx⟩
                · simp at hv0
                have hcx0 := hcx 0 _ hv0
                injection hxe with ea eb ec
                subst ea
                subst ec
                have hU25 : Upto [] _ w25 := hwr1.trans hwU (by intro b hb; simp at hb; omega)
                replace hcx0 := (hU25.cell (p := ⟨gx, ox, none⟩) (World.block_lt_of_cell? _ _ hcx0) (by simp)).trans hcx0
                replace hn0 := hn0.ext hU25
                have hgx : gx < w25.heap.size := World.block_lt_of_cell? _ _ hcx0
                have hgg : g < w25.heap.size := World.block_lt_of_cell? _ _ hc0
                have hpw : ∀ q, q ≤ 12 → x0 ^ q < 4294967296 ^ (2 * (12 + 1)) := fun q hq => Nat.lt_of_lt_of_le (pow16 x0 q hx16) (Nat.pow_le_pow_right (by omega) (by omega))
                have hxl := repN_len (w := w) (v := undef) (i := 1) (n := x0) (by omega) (by omega)
                have HPW := Lib.hid hpw
                have HX := Lib.hid hx16
                clear hpw hx16 hx0 hc hcx hkl hwr1 hU25 hL hks hp
                have hi4 : (0 : Int) ≤ x0 := by omega
                have hi5 : (x0 : Int) ≤ 65535 := by have := HX.out; omega
                go_wp2_with fail
                refine (fromW_calls 1 (by omega) _).mono ?_
                rintro e w26 ⟨g1, rfl, n1, hu1⟩
                have b19 := new_at w26 (.cells #[.slice (some ⟨g1, 0, none⟩) (W32 1).length 2] 45)
                have hw3 := hu1.alloc (.cells #[.slice (some ⟨g1, 0, none⟩) (W32 1).length 2] 45)
                have n3 := n1.ext ((Upto.refl [] w26).alloc (.cells #[.slice (some ⟨g1, 0, none⟩) (W32 1).length 2] 45))
                have hb19 := hu1.size
                clear n1 hu1
                go_wp2_with fail
                generalize w26.alloc (.cells #[.slice (some ⟨g1, 0, none⟩) (W32 1).length 2] 45) = W3 at *
                generalize w26.heap.size = B19 at *
                go_loopw [20] (fun i wr => ∃ q : Nat, q ≤ c ∧ i = .int .i64 q ∧ Upto [B19] W3 wr ∧ ∃ v, wr.heap[B19]? = some (.cells #[v] 45) ∧ Elem wr v (x0 ^ q)) (fun i _ => c - (intOf i).toNat)
                case atStart => exact ⟨0, by omega, rfl, Upto.refl _ _, _, b19, g1, 2, by rw [Nat.pow_zero], by rw [Nat.pow_zero]; exact n3⟩
                case round =>
                  obtain ⟨q, hqc, rfl, hU3, v9, hb9, gp2, cp2, rfl, hnp2⟩ := hrel
                  have hpl := repN_len (w := w) (v := undef) (i := 13) (by omega) (HPW.out q (by omega))
                  have hU : Upto [] w25 _ := hw3.trans hU3 (by intro b hb; simp at hb; omega)
                  generalize hpq : x0 ^ q = pq at *
                  have HPQ := Lib.hid hpq
                  clear hpq b19 n3
                  have hcg := (hU.cell (p := ⟨g, o, none⟩) hgg (by simp)).trans hc0
                  have hcxx := (hU.cell (p := ⟨gx, ox, none⟩) hgx (by simp)).trans hcx0
                  have hnx := hn0.ext hU
                  have e0 : ∀ u : Ext wr, u.w.cell? ⟨B19, 0, none⟩ = some (.slice (some ⟨gp2, 0, none⟩) (W32 pq).length cp2) := fun u => u.cell (cell_of hb9 0)
                  have e1 : ∀ u : Ext wr, u.w.cell? ⟨gx, ox, none⟩ = some (.slice (some ⟨g0, 0, none⟩) (W32 x0).length c0) := fun u => u.cell hcxx
                  rcases Nat.lt_or_ge q c with hlt | hge
                  · have hqi : (q : Int) < c := by omega
                    have hq0 : (0 : Int) ≤ q := by omega
                    have hq12 : (q : Int) ≤ 12 := by omega
                    go_wp2_with fail
                    refine wp_region_seg_at [4] [] [0, 1, 2, 3, 4] [5] 5 (by kernel_rfl) (by kernel_rfl) (by kernel_rfl) ?_
                    refine seg_plain rfl rfl rfl rfl rfl ?_
                    intro K' hK'
                    go_big_quiet_op
                    go_big_quiet_on
                    refine seg_plain rfl rfl rfl rfl rfl ?_
                    intro K' hK'
                    go_big_quiet_op
                    go_big_quiet_on
                    refine seg_plain rfl rfl rfl rfl rfl ?_
                    intro K' hK'
                    go_big_quiet_op
                    go_big_quiet_on
                    refine seg_plain rfl rfl rfl rfl rfl ?_
                    intro K' hK'
                    go_big_quiet_op
                    go_big_quiet_on
                    refine seg_callO (Y := Nat × Nat) (fun tt => .agg #[.slice (some ⟨tt.1, 0, none⟩) (W32 (pq * x0)).length tt.2]) (fun tt u => NumS u (some ⟨tt.1, 0, none⟩) tt.2 (pq * x0)) (fun _ => []) rfl rfl rfl rfl (fun _ _ _ h hu => h.ext hu) (fun _ => List.nodup_nil) (fun w => by go_simp) (fun w hu hd => (mul_calls pq x0 _ _ _ _ w (hnp2.ext hu) (hnx.ext hu) hpl hxl).mono fun e w' ⟨g, vc, h1, h2, h3⟩ => ⟨(g, vc), h1, h3, h2, fun b hb => by cases hb⟩) ?_
                    rintro ⟨gq, cq⟩
                    simp only [Act.put, List.setIfInBounds_toArray, List.set_cons_zero, List.set_cons_succ]
                    intro w9 hg
                    have hv := hg.up
                    have hq := hg.hold.1
                    simp only at hq
                    clear hg e0 e1 hnp2 hpl hnx hcxx hcg
                    simp only [List.drop_succ_cons, List.drop_zero]
                    have hb10 := hv.at hb9 (by simp)
                    have s0 := cell_of hb10 0
                    have s1 := free_of hb10 0
                    simp only [List.getElem?_toArray, List.getElem?_cons_zero, List.getElem?_cons_succ] at s0
                    have hE : Elem w9 (.slice (some ⟨gq, 0, none⟩) (W32 (pq * x0)).length cq) (x0 ^ (q + 1)) := by rw [Nat.pow_succ, HPQ.out]; exact ⟨gq, cq, rfl, hq⟩
                    have HE := Lib.hid hE
                    clear hE hq
                    go_wp2_with fail
                    go_roundw
                    case rel => exact ⟨q + 1, by omega, by go_num, (hU3.trans_ext hv).setCell (p := ⟨B19, 0, none⟩) (Or.inl (by simp)) _, _, by simpa using set_same hb10 0 _, HE.out.set ((Upto.refl [B19] w9).setCell (p := ⟨B19, 0, none⟩) (Or.inl (by simp)) _) s0 (by intro m; simp [uv])⟩
                    case measure => simp [intOf]; omega
                  · obtain rfl : q = c := by omega
                    have hqi : ¬ (q : Int) < q := by omega
                    have hqx : 0 ≤ (q : Int) * x0 ∧ (q : Int) * x0 ≤ 786420 := by
                      have h1 : q * x0 ≤ 12 * 65535 := Nat.mul_le_mul hc12 (by have := HX.out; omega)
                      have h2 : ((q * x0 : Nat) : Int) = (q : Int) * x0 := Int.natCast_mul _ _
                      omega
                    obtain ⟨hqx1, hqx2⟩ := hqx
                    have hq0 : (0 : Int) ≤ q := by omega
                    have hq12 : (q : Int) ≤ 12 := by omega
                    have FM : Hid (∀ w : World, Calls Tryd.prog 33 #[.int .u64 ((q : Int) * x0)] w fun e w' => ∃ b, e = .returned (.agg #[.slice (some ⟨b, 0, none⟩) (W32 (q * x0)).length 2]) ∧ NumS w' (some ⟨b, 0, none⟩) 2 (q * x0) ∧ Upto [] w w') := Lib.hid (by
                      intro w
                      have h := fromW_calls (q * x0) (by have h2 : ((q * x0 : Nat) : Int) = (q : Int) * x0 := Int.natCast_mul _ _; omega) w
                      rwa [Int.natCast_mul] at h)
                    have hml := repN_len (w := w) (v := undef) (i := 1) (n := q * x0) (by omega) (by have h2 : ((q * x0 : Nat) : Int) = (q : Int) * x0 := Int.natCast_mul _ _; omega)
                    have hx1 := elem_rep ⟨g0, c0, rfl, hnx⟩ HX.out
                    have HM1 := Lib.hid (fun u (hu : Upto [] wr u) => nmult_calls (some ⟨g0, 0, none⟩) (W32 x0).length c0 z x0 u (by omega) (ringN.stable _ _ _ _ _ hx1 hu))
                    have HM2 := Lib.hid (fun u (hu : Upto [] wr u) => npow_calls (some ⟨g0, 0, none⟩) (W32 x0).length c0 z x0 u (by omega) (ringN.stable _ _ _ _ _ hx1 hu))
                    rw [HCZ.out] at HM1 HM2
                    rw [HPQ.out] at HM2
                    have e2 : ∀ u : Ext wr, u.w.cell? ⟨g, o, none⟩ = some (.int .u16 x0) := fun u => u.cell hcg
                    go_wp2_with fail
                    refine wp_region_seg_all [6, 14, 15, 24, 26] [] [0, 1, 2, 3, 4, 5, 6, 7, 8, 9, 10, 11, 12, 13, 14, 15, 16, 17, 18, 19, 20, 21, 22, 23, 24, 25, 26, 27, 28] (by kernel_rfl) (by kernel_rfl) ?_
                    refine seg_plain rfl rfl rfl rfl rfl ?_
                    intro K' hK'
                    go_big_quiet_op
                    go_big_quiet_on
                    refine seg_plain rfl rfl rfl rfl rfl ?_
                    intro K' hK'
                    go_big_quiet_op
                    go_big_quiet_on
                    refine seg_plain rfl rfl rfl rfl rfl ?_
                    intro K' hK'
                    go_big_quiet_op
                    go_big_quiet_on
                    refine seg_plain rfl rfl rfl rfl rfl ?_
                    intro K' hK'
                    go_big_quiet_op
                    go_big_quiet_on
                    refine seg_plain rfl rfl rfl rfl rfl ?_
                    intro K' hK'
                    go_big_quiet_op
                    go_big_quiet_on
                    refine seg_plain rfl rfl rfl rfl rfl ?_
                    intro K' hK'
                    go_big_quiet_op
                    go_big_quiet_on
                    refine seg_callO (Y := Option Addr × Nat) (fun tt => .agg #[.slice tt.1 (W32 (q * x0)).length tt.2]) (fun tt u => NumS u tt.1 tt.2 (q * x0)) (fun _ => []) rfl rfl rfl rfl (fun _ _ _ h hu => h.ext hu) (fun _ => List.nodup_nil) (fun w => by go_simp) (fun w hu hd => (HM1.out w hu).mono fun e w' ⟨g, n', c, h1, h2, h3⟩ => by obtain ⟨g2, c2, h4, h5, h6⟩ := h3; exact ⟨(g2, c2), by rw [h1, h4], h2, h5, fun b hb => by cases hb⟩) ?_
                    rintro ⟨ga, ca⟩
                    simp only [Act.put, List.setIfInBounds_toArray, List.set_cons_zero, List.set_cons_succ]
                    refine seg_plain rfl rfl rfl rfl rfl ?_
                    intro K' hK'
                    go_big_quiet_op
                    go_big_quiet_on
                    refine seg_plain rfl rfl rfl rfl rfl ?_
                    intro K' hK'
                    go_big_quiet_op
                    go_big_quiet_on
                    refine seg_plain rfl rfl rfl rfl rfl ?_
                    intro K' hK'
                    go_big_quiet_op
                    go_big_quiet_on
                    refine seg_plain rfl rfl rfl rfl rfl ?_
                    intro K' hK'
                    go_big_quiet_op
                    go_big_quiet_on
                    refine seg_plain rfl rfl rfl rfl rfl ?_
                    intro K' hK'
                    go_big_quiet_op
                    go_big_quiet_on
                    refine seg_plain rfl rfl rfl rfl rfl ?_
                    intro K' hK'
                    go_big_quiet_op
                    go_big_quiet_on
                    refine seg_plain rfl rfl rfl rfl rfl ?_
                    intro K' hK'
                    go_big_quiet_op
                    go_big_quiet_on
                    refine seg_callO (Y := Nat × Nat) (fun tt => .agg #[.slice (some ⟨tt.1, 0, none⟩) (W32 (q * x0)).length tt.2]) (fun tt u => NumS u (some ⟨tt.1, 0, none⟩) tt.2 (q * x0)) (fun _ => []) rfl rfl rfl rfl (fun _ _ _ h hu => h.ext hu) (fun _ => List.nodup_nil) (fun w => by go_simp) (fun w hu hd => (FM.out w).mono fun e w' ⟨g, h1, h2, h3⟩ => ⟨(g, 2), h1, h3, h2, fun b hb => by cases hb⟩) ?_
                    rintro ⟨gb, cb⟩
                    simp only [Act.put, List.setIfInBounds_toArray, List.set_cons_zero, List.set_cons_succ]
                    refine seg_call (v := .bool true) rfl rfl rfl rfl (fun w => by go_simp) (fun w hu hd => (nequal_calls (q * x0) (q * x0) _ _ _ _ w (hd.2.1 (by kernel_rfl)) (hd.1 (by kernel_rfl)) hml hml).mono fun e w' ⟨h1, h2⟩ => ⟨by rw [h1]; simp, h2⟩) ?_
                    simp only [Act.put, List.setIfInBounds_toArray, List.set_cons_zero, List.set_cons_succ]
                    refine seg_plain rfl rfl rfl rfl rfl ?_
                    intro K' hK'
                    go_big_quiet_op
                    go_big_quiet_on
                    refine seg_plain rfl rfl rfl rfl rfl ?_
                    intro K' hK'
                    go_big_quiet_op
                    go_big_quiet_on
                    refine seg_plain rfl rfl rfl rfl rfl ?_
                    intro K' hK'
                    go_big_quiet_op
                    go_big_quiet_on
                    refine seg_plain rfl rfl rfl rfl rfl ?_
                    intro K' hK'
                    go_big_quiet_op
                    go_big_quiet_on
                    refine seg_plain rfl rfl rfl rfl rfl ?_
                    intro K' hK'
                    go_big_quiet_op
                    go_big_quiet_on
                    refine seg_plain rfl rfl rfl rfl rfl ?_
                    intro K' hK'
                    go_big_quiet_op
                    go_big_quiet_on
                    refine seg_plain rfl rfl rfl rfl rfl ?_
                    intro K' hK'
                    go_big_quiet_op
                    go_big_quiet_on
                    refine seg_plain rfl rfl rfl rfl rfl ?_
                    intro K' hK'
                    go_big_quiet_op
                    go_big_quiet_on
                    refine seg_callO (Y := Option Addr × Nat) (fun tt => .agg #[.slice tt.1 (W32 pq).length tt.2]) (fun tt u => NumS u tt.1 tt.2 pq) (fun _ => []) rfl rfl rfl rfl (fun _ _ _ h hu => h.ext hu) (fun _ => List.nodup_nil) (fun w => by go_simp) (fun w hu hd => (HM2.out w hu).mono fun e w' ⟨g, n', c, h1, h2, h3⟩ => by obtain ⟨g2, c2, h4, h5, h6⟩ := h3; exact ⟨(g2, c2), by rw [h1, h4], h2, h5, fun b hb => by cases hb⟩) ?_
                    rintro ⟨ga, ca⟩
                    simp only [Act.put, List.setIfInBounds_toArray, List.set_cons_zero, List.set_cons_succ]
                    refine seg_plain rfl rfl rfl rfl rfl ?_
                    intro K' hK'
                    go_big_quiet_op
                    go_big_quiet_on
                    refine seg_call (v := .bool true) rfl rfl rfl rfl (fun w => by go_simp) (fun w hu hd => (nequal_calls pq pq _ _ _ _ w (hd.1 (by kernel_rfl)) (hnp2.ext hu) hpl hpl).mono fun e w' ⟨h1, h2⟩ => ⟨by rw [h1]; simp, h2⟩) ?_
                    simp only [Act.put, List.setIfInBounds_toArray, List.set_cons_zero, List.set_cons_succ]
                    refine seg_plain rfl rfl rfl rfl rfl ?_
                    intro K' hK'
                    go_big_quiet_op
                    go_big_quiet_on
                    refine seg_plain rfl rfl rfl rfl rfl ?_
                    intro K' hK'
                    go_big_quiet_op
                    go_big_quiet_on
                    intro w33 hg
                    have hv33 := hg.up
                    clear hg e0 e1 e2
                    go_wp2_with fail
                    refine (HK.out _).mono ?_
                    rintro e w' ⟨rfl, hu'⟩
                    go_wp2
                    go_ret
                    exact ⟨rfl, ((hUE.trans_ext hU).trans_ext hv33).trans_ext hu'⟩
  · go_enter Tryd.func9, Tryd.ntmps9
    rcases Classical.em (n ≤ 12) with q1 | q1
    · rcases Classical.em (m ≤ 12) with q2 | q2
      · have c1 : ¬ (n : Int) > 12 := by omega
        have c2 : ¬ (m : Int) > 12 := by omega
        have c3 : z > 12 := by omega
        clear F1 hks hk hp hall
        go_wp2_with fail
        refine (HK.out w).mono ?_
        rintro e w' ⟨rfl, hu'⟩
        go_wp2
        go_ret
        exact ⟨rfl, hu'⟩
      · have c1 : ¬ (n : Int) > 12 := by omega
        have c2 : (m : Int) > 12 := by omega
        clear F1 hks hk hp hall
        go_wp2_with fail
        refine (HK.out w).mono ?_
        rintro e w' ⟨rfl, hu'⟩
        go_wp2
        go_ret
        exact ⟨rfl, hu'⟩
    · have c1 : (n : Int) > 12 := by omega
      clear F1 hks hk hp hall
      go_wp2_with fail
      refine (HK.out w).mono ?_
      rintro e w' ⟨rfl, hu'⟩
      go_wp2
      go_ret
      exact ⟨rfl, hu'⟩
end Go.Proofs.YtifellalnojomaaDoor
