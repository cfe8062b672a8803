/- Texts merged, in build order: Uf. -/
import Derived.Test.YtbnebkkpmcjmbaaGreatDoorMRng
namespace Go.Proofs.YtbnebkkpmcjmbaaGreatDoor
open Go.RowKit Go.PL Go.Maps
set_option maxRecDepth 100000 in
set_option maxHeartbeats 12800000 in
theorem scopeRenameInverse_walk (nd : Nd) (v : Value) (fr : List UInt8) (w : World) (hq : ArgN w nd v) (hfr : fr.length ≤ 281474976710656) (hE : Env w ∧ SEnv w ∧ FEnv w) (hpw : PowT w) : Calls Tryz.prog 4 #[v, .string ⟨fr.toArray⟩] w fun e w' => e = .returned (.bool true) ∧ Upto [] w w' := by
  obtain ⟨h, hsz, hin⟩ := hq
  obtain ⟨op, a1, n1, c1, so, nn, mm, a2, n2, c2, rfl⟩ := h.six
  obtain ⟨W, hW⟩ : ∃ W, W = w.alloc (.cells #[.int .i64 op, .slice a1 n1 c1, .int .i64 so, .int .i64 nn, .int .i64 mm, .slice a2 n2 c2] 25) := ⟨_, rfl⟩
  have HU1 : Hid (Upto [] w W) := Lib.hid (by rw [hW]; exact (Upto.refl [] w).alloc _)
  have HB1 : Hid (W.heap[w.heap.size]? = some (.cells #[.int .i64 op, .slice a1 n1 c1, .int .i64 so, .int .i64 nn, .int .i64 mm, .slice a2 n2 c2] 25 (0, 0))) := Lib.hid (by rw [hW]; exact new_at w _)
  have HEN := Lib.hid (And.intro hE.1 (And.intro hE.2.2 hpw))
  have HKN := Lib.hid (fun u (hu : Upto [] w u) => known12_calls u ⟨hE.1.ext hu, hE.2.1.upto hu (by simp), hE.2.2.ext hu⟩)
  have HSH := Lib.hid (fun u (hu : Upto [] w u) => short_calls nd _ u _ (h.ext hu) (by omega))
  have HCK := Lib.hid (fun u (hu : Upto [] w u) => checkR_calls nd _ u _ (h.ext hu) (by omega) (inN.mono (by omega) _ hin))
  have HOF := Lib.hid (fun u (hu : Upto [] w u) => of_calls 10000000 nd (by omega) (by omega) (inN.big (M := 1048576) (by omega) _ hin) _ _ u (h.ext hu))
  have HND := Lib.hid (fun u (hu : Upto [] w u) => h.ext hu)
  have HI1 := Lib.hid (fun u (_ : Upto [] w u) => isName_calls fr u hfr)
  have HIN : Hid (inN 10000000 nd ∧ hugeN nd) := Lib.hid ⟨inN.mono (by omega) _ hin, huge_of nd (by omega) (inN.big (M := 1048576) (by omega) _ hin)⟩
  have HSS : Hid ((decide (sizeF nd ≤ 60) && decide (depthF nd ≤ 20)) = true → sizeF nd ≤ 60) := Lib.hid (fun hb => by simp at hb; exact hb.1)
  generalize hS : (decide (sizeF nd ≤ 60) && decide (depthF nd ≤ 20)) = S at *
  obtain ⟨C, hC⟩ : ∃ C, C = checkF nameF nd := ⟨_, rfl⟩
  have HCE := Lib.hid hC
  rw [← hC] at HCK
  obtain ⟨x0, x1, x2, x3, x4, x5⟩ := cells6 HB1.out
  clear h hsz hin hE hpw hS hC
  go_enter Tryz.func4, Tryz.ntmps4
  go_wp2_with fail
  simp only [← hW]
  clear hW
  try go_wp2_with fail
  refine (HKN.out _ HU1.out).mono ?_
  rintro e w2 ⟨rfl, hu2⟩
  have HU2 := Lib.hid (HU1.out.trans_ext hu2)
  have HB2 := Lib.hid (hu2.at HB1.out (by simp))
  clear hu2 x0 x1 x2 x3 x4 x5
  obtain ⟨x0, x1, x2, x3, x4, x5⟩ := cells6 HB2.out
  go_wp2_with fail
  refine (HSH.out _ HU2.out).mono ?_
  rintro e w3 ⟨rfl, hu3⟩
  have HU3 := Lib.hid (HU2.out.trans_ext hu3)
  have HB3 := Lib.hid (hu3.at HB2.out (by simp))
  clear hu3 x0 x1 x2 x3 x4 x5
  obtain ⟨x0, x1, x2, x3, x4, x5⟩ := cells6 HB3.out
  cases S with
  | false =>
    go_wp2_with fail
    go_ret
    exact ⟨rfl, HU3.out⟩
  | true =>
    have HS60 := Lib.hid (HSS.out rfl)
    go_wp2_with fail
    refine (HCK.out _ HU3.out).mono ?_
    rintro e w4 ⟨rfl, hu4⟩
    have HU4 := Lib.hid (HU3.out.trans_ext hu4)
    have HB4 := Lib.hid (hu4.at HB3.out (by simp))
    clear hu4 x0 x1 x2 x3 x4 x5
    obtain ⟨x0, x1, x2, x3, x4, x5⟩ := cells6 HB4.out
    by_cases hc0 : ¬ C = 0
    · have hci : ¬ (C : Int) = 0 := by omega
      have hb1 : ((C : Int) == 0) = false := by simpa using hc0
      have hb2 : ((C : Int) != 0) = true := by simpa using hc0
      clear hc0
      go_wp2_with fail
      go_ret
      exact ⟨rfl, HU4.out⟩
    have hc1 := Decidable.not_not.1 hc0
    clear hc0
    subst hc1
    have HCZ : Hid (checkF nameF nd = 0) := Lib.hid HCE.out.symm
    have HSM := Lib.hid (small_of HS60.out HCZ.out)
    go_wp2_with fail
    refine (HI1.out _ HU4.out).mono ?_
    rintro e w5 ⟨rfl, hu5⟩
    have HU5 := Lib.hid (HU4.out.trans_ext hu5)
    have HB5 := Lib.hid (hu5.at HB4.out (by simp))
    clear hu5 x0 x1 x2 x3 x4 x5
    obtain ⟨x0, x1, x2, x3, x4, x5⟩ := cells6 HB5.out
    cases hnm : nameF fr with
    | false =>
      go_wp2_with fail
      go_ret
      exact ⟨rfl, HU5.out⟩
    | true =>
    have HNF := Lib.hid hnm
    clear hnm
    go_wp2_with fail
    refine (HOF.out _ HU5.out).mono ?_
    rintro e w6 ⟨v6, rfl, hn6, hu6⟩
    obtain ⟨xo, xa1, xn1, xc1, xs, xn, xm, xa2, xn2, xc2, rfl⟩ := hn6.six
    have HN6 := Lib.hid hn6
    have HU6 := Lib.hid (HU5.out.trans_ext hu6)
    have HB6 := Lib.hid (hu6.at HB5.out (by simp))
    obtain ⟨W7, hW7⟩ : ∃ W7, W7 = w6.alloc (.cells #[.int .i64 xo, .slice xa1 xn1 xc1, .int .i64 xs, .int .i64 xn, .int .i64 xm, .slice xa2 xn2 xc2] 30) := ⟨_, rfl⟩
    have HV7 : Hid (Upto [] w6 W7) := Lib.hid (by rw [hW7]; exact (Upto.refl [] w6).alloc _)
    have HB7 : Hid (W7.heap[w.heap.size]? = some (.cells #[.int .i64 op, .slice a1 n1 c1, .int .i64 so, .int .i64 nn, .int .i64 mm, .slice a2 n2 c2] 25 (0, 0))) := Lib.hid (HV7.out.at HB6.out (by simp))
    have HX7 : Hid (W7.heap[w6.heap.size]? = some (.cells #[.int .i64 xo, .slice xa1 xn1 xc1, .int .i64 xs, .int .i64 xn, .int .i64 xm, .slice xa2 xn2 xc2] 30 (0, 0))) := Lib.hid (by rw [hW7]; exact new_at w6 _)
    have HU7 := Lib.hid (HU6.out.trans_ext HV7.out)
    clear hn6 hu6 x0 x1 x2 x3 x4 x5
    go_wp2_with fail
    simp only [← hW7]
    clear hW7
    obtain ⟨TO, hTO, hT1, hT2, hT3, hT4⟩ := new_name (fr := fr) HS60.out HSM.out.2.2
    have HTO := Lib.hid hTO
    have HT := Lib.hid (And.intro hT1 (And.intro hT2 (And.intro hT3 hT4)))
    clear hTO hT1 hT2 hT3 hT4
    obtain ⟨i0, hi0, hz0, hz1, hz2⟩ := info9'
    have HI0 := Lib.hid hi0
    have HZ0 := Lib.hid hz0
    have HZ1' := Lib.hid hz1
    have HZ2' := Lib.hid hz2
    clear hi0 hz0 hz1 hz2
    obtain ⟨L1, hL1⟩ : ∃ L1, L1 = freeR nd := ⟨_, rfl⟩
    obtain ⟨L2, hL2⟩ : ∃ L2, L2 = boundR nd := ⟨_, rfl⟩
    have HLL : Hid (L1 = freeR nd ∧ L2 = boundR nd) := Lib.hid ⟨hL1, hL2⟩
    have hlen1 : L1.length ≤ 1020 := by rw [hL1]; have h1 := freeR_len nd; have h2 := HSM.out.2.2; omega
    have hlen2 : (L2.map sV).length ≤ 60 := by rw [List.length_map, hL2]; have h1 := boundR_len nd; have h2 := HS60.out; omega
    have hlen3 : L2.length ≤ 60 := by simpa using hlen2
    have HFR : Hid (∀ u, Upto [] W7 u → Calls Tryz.prog 19 #[.agg #[.int .i64 xo, .slice xa1 xn1 xc1, .int .i64 xs, .int .i64 xn, .int .i64 xm, .slice xa2 xn2 xc2]] u fun e w' => ∃ v, e = .returned v ∧ TxI u L1 v w') := Lib.hid (fun u hu => by
      have := FreeT_calls nd _ u _ (HN6.out.ext (HV7.out.trans_ext hu)) (by have := HS60.out; omega) HSM.out.2.1 (by have := HSM.out.2.2; omega)
      rwa [free_same, ← hL1] at this)
    have HBO : Hid (∀ u, Upto [] W7 u → Calls Tryz.prog 20 #[.agg #[.int .i64 xo, .slice xa1 xn1 xc1, .int .i64 xs, .int .i64 xn, .int .i64 xm, .slice xa2 xn2 xc2]] u (FqPost u L2)) := Lib.hid (fun u hu => by
      have := Bound_calls nd _ u _ (HN6.out.ext (HV7.out.trans_ext hu)) (by have := HS60.out; omega) HSM.out.2.1
      rwa [bound_same, ← hL2] at this)
    have HFS : Hid (∀ (v : Value) (u : World), Upto [] W7 u → SlP u (fun _ => True) v (L1 ++ L2 ++ [fr]).length ((L1 ++ L2 ++ [fr]).map sV) → Calls Tryz.prog 18 #[.string ⟨#[113]⟩, v] u fun e w' => e = .returned (.string ⟨TO.toArray⟩) ∧ Upto [] u w') := Lib.hid (fun v u hu hs => by
      have h2 := HU7.out.trans_ext hu
      have := freshPG_calls [113] (L1 ++ L2 ++ [fr]) v u _ hs (by simp only [List.length_append, List.length_cons, List.length_nil]; omega) (by simp) (HEN.out.1.ext h2) (HEN.out.2.2.ext h2)
      have e9 : freshG [113] (L1 ++ L2 ++ [fr]) = TO := by rw [hL1, hL2]; exact HTO.out.symm
      rw [e9] at this
      exact this)
    clear hL1 hL2
    have hone : ∀ u ∈ L2.map sV, u.oneCell' = true := fun u hu => by
      obtain ⟨y, -, rfl⟩ := List.mem_map.1 hu
      rfl
    apply shareQ (F := fun u => Hid (Upto [] W7 u))
    case use =>
      intro Q9 hshare
      have HSHV := Lib.hid hshare
      clear hshare
      have k0 : ∀ u : Ext W7, u.w.cell? ⟨w6.heap.size, 0, none⟩ = some (.int .i64 xo) := fun u => u.cell (cell_of HX7.out 0)
      have k1 : ∀ u : Ext W7, u.w.cell? ⟨w6.heap.size, 1, none⟩ = some (.slice xa1 xn1 xc1) := fun u => u.cell (cell_of HX7.out 1)
      have k2 : ∀ u : Ext W7, u.w.cell? ⟨w6.heap.size, 2, none⟩ = some (.int .i64 xs) := fun u => u.cell (cell_of HX7.out 2)
      have k3 : ∀ u : Ext W7, u.w.cell? ⟨w6.heap.size, 3, none⟩ = some (.int .i64 xn) := fun u => u.cell (cell_of HX7.out 3)
      have k4 : ∀ u : Ext W7, u.w.cell? ⟨w6.heap.size, 4, none⟩ = some (.int .i64 xm) := fun u => u.cell (cell_of HX7.out 4)
      have k5 : ∀ u : Ext W7, u.w.cell? ⟨w6.heap.size, 5, none⟩ = some (.slice xa2 xn2 xc2) := fun u => u.cell (cell_of HX7.out 5)
      refine wp_region_noPanic ?_
      refine wp_region_seg2_at [1, 3] [6] [5] [0, 1, 2, 3] 6 4 [7, 8, 9] 7 _ _ (fun _ _ _ _ _ h => h) (by kernel_rfl) (by kernel_rfl) (by kernel_rfl) rfl rfl ?_
      refine pre_plain rfl rfl rfl ?_
      intro K' hK'
      go_big_quiet_op
      go_big_quiet_on
      (refine seg_plain rfl rfl rfl rfl rfl ?_; intro K' hK'; go_big_quiet_op; go_big_quiet_on)
      refine seg_callO (Y := Option Addr × Nat) (fun tt => .slice tt.1 L1.length tt.2) (fun tt u => TxI W7 L1 (.slice tt.1 L1.length tt.2) u) (fun tt => (Value.slice tt.1 L1.length tt.2).ownBlock.toList) rfl rfl rfl rfl (fun _ _ _ h hu => h.ext hu) (fun tt => own_nodup _) (fun w => by go_simp) (fun w hu hd => (HFR.out w hu).mono fun e w' ⟨vo, h1, h2⟩ => by
        obtain ⟨va, vc, rfl, -⟩ := ownsRow_len h2.row
        exact ⟨(va, vc), h1, h2.up, ⟨h2.row, fun g hg => Nat.le_trans hu.size (h2.own g hg), hu.trans_ext h2.up⟩, fun b hb => ⟨h2.own b (Option.mem_toList.1 hb), own_lt h2.row b hb⟩⟩) ?_
      rintro ⟨fa, fc⟩
      simp only [Act.put, List.setIfInBounds_toArray, List.set_cons_zero, List.set_cons_succ]
      (refine seg_plain rfl rfl rfl rfl rfl ?_; intro K' hK'; go_big_quiet_op; go_big_quiet_on)
      refine seg_callO (Y := Option Addr × Nat) (fun tt => .slice tt.1 L2.length tt.2) (fun tt u => SlP u (fun _ => True) (.slice tt.1 L2.length tt.2) L2.length (L2.map sV)) (fun _ => []) rfl rfl rfl rfl (fun _ _ _ h hu => h.ext hu) (fun _ => List.nodup_nil) (fun w => by go_simp) (fun w hu hd => (HBO.out w hu).mono fun e w' ⟨vo, h1, h2⟩ => by
        obtain ⟨va, vc, rfl⟩ := h2.slp.len
        exact ⟨(va, vc), h1, h2.up, h2.slp.mono (fun _ _ _ => trivial), fun b hb => by cases hb⟩) ?_
      rintro ⟨ba, bc⟩
      simp only [Act.put, List.setIfInBounds_toArray, List.set_cons_zero, List.set_cons_succ]
      refine ⟨?_, ?_⟩
      · intro w10 hg
        have HT10 : Hid (TxI W7 L1 (.slice fa L1.length fc) w10) := Lib.hid hg.hold.2.1
        have HBD : Hid (SlC w10 (.slice ba L2.length bc) (L2.map sV)) := Lib.hid (SlP.slc (P := fun _ => True) (by rw [List.length_map]; exact hg.hold.1))
        simp only [List.drop_succ_cons, List.drop_zero]
        have hrow := HT10.out.row
        clear hg k0 k1 k2 k3 k4 k5
        go_wp2_with (at_builtin; first
          | (refine wpList_apps _ rfl (.tmp 31) (.tmp 33) 22 rfl 9 i0 (.string ⟨#[]⟩) 16 Tryz.underlying22 HI0.out HZ0.out HZ1'.out HZ2'.out rfl (.slice fa L1.length fc) L1.length _ rfl hrow (.slice ba L2.length bc) (L2.map sV) rfl HBD.out hone (by simp only [maxLen]; omega) (by omega) ?_; intro vb vd w11 ho hu hw; simp only [List.length_map] at ho hw ⊢; have HM := Lib.hid (HT10.out.apps (ys := L2) rfl rfl ho hu hw); clear hrow ho hu hw; have HT11 : Hid (TxI W7 (L1 ++ L2) (.slice vb (L1.length + L2.length) vd) (w11.alloc (.cells #[.string ⟨fr.toArray⟩] 9))) := Lib.hid (HM.out.ext ((Upto.refl [] _).alloc _)); have hrow2 := HT11.out.row; rw [show (L1 ++ L2).length = L1.length + L2.length from List.length_append] at hrow2; have hsrc2 := cells_at (l := [sV fr]) (new_at w11 (.cells #[.string ⟨fr.toArray⟩] 9)))
          | (refine wpList_app _ rfl (.tmp 34) (.tmp 36) 22 rfl 9 i0 (.string ⟨#[]⟩) 1 16 Tryz.underlying22 HI0.out HZ0.out HZ1'.out HZ2'.out rfl (by decide) (.slice vb (L1.length + L2.length) vd) (L1.length + L2.length) _ rfl hrow2 ⟨w11.heap.size, 0, none⟩ 1 1 [sV fr] rfl rfl hsrc2 (by simp [Value.oneCell', sV]) (by simp only [maxLen]; omega) (by omega) ?_; intro vb2 vd2 w12 ho hu hw; have HN := Lib.hid (HT11.out.apps (ys := [fr]) (by simp) rfl ho hu hw); clear hrow2 hsrc2 ho hu hw))
        have HFP := Lib.hid (HFS.out (.slice vb2 (L1.length + L2.length + 1) vd2) w12 HN.out.up (by have := HN.out.slp; simpa using this))
        refine HFP.out.mono ?_
        rintro e w13 ⟨rfl, hu13⟩
        have HSH13 : Hid (Upto [] W7 w13) := Lib.hid (HN.out.up.trans_ext hu13)
        clear hu13 HFP HM HT11 HN HT10
        go_wp2_with fail
        refine NoPanic.normal ?_
        generalize Value.slice fa L1.length fc = X1
        generalize Value.slice ba L2.length bc = X2
        generalize Value.slice vb (L1.length + L2.length) vd = X3
        generalize Value.slice (some ⟨w11.heap.size, 0, none⟩) 1 1 = X4
        generalize Value.slice vb2 (L1.length + L2.length + 1) vd2 = X5
        exact HSHV.out X1 X2 X3 X4 X5 w13 HSH13
      · refine seg_made (.cells #[.string ⟨fr.toArray⟩] 9) (fun b => .slice (some ⟨b, 0, none⟩) 1 1) rfl rfl rfl (fun w => by go_simp) ?_
        intro b8
        simp only [Act.put, List.setIfInBounds_toArray, List.set_cons_zero, List.set_cons_succ]
        intro w10 hg
        have HB8 : Hid (w10.heap[b8]? = some (.cells #[.string ⟨fr.toArray⟩] 9 (0, 0))) := Lib.hid hg.hold.1
        have HT10 : Hid (TxI W7 L1 (.slice fa L1.length fc) w10) := Lib.hid hg.hold.2.2.1
        have HBD : Hid (SlC w10 (.slice ba L2.length bc) (L2.map sV)) := Lib.hid (SlP.slc (P := fun _ => True) (by rw [List.length_map]; exact hg.hold.2.1))
        simp only [List.drop_succ_cons, List.drop_zero]
        have hrow := HT10.out.row
        have HNE : Hid (b8 ∉ (Value.slice fa L1.length fc).ownBlock.toList) := Lib.hid (by
          have hnd := hg.nodup
          simp only [ownAll, List.flatMap_cons, List.flatMap_nil, List.append_nil, List.nil_append] at hnd
          exact (List.nodup_cons.1 hnd).1)
        clear hg k0 k1 k2 k3 k4 k5
        go_wp2_with (at_builtin; first
          | (refine wpList_apps _ rfl (.tmp 31) (.tmp 33) 22 rfl 9 i0 (.string ⟨#[]⟩) 16 Tryz.underlying22 HI0.out HZ0.out HZ1'.out HZ2'.out rfl (.slice fa L1.length fc) L1.length _ rfl hrow (.slice ba L2.length bc) (L2.map sV) rfl HBD.out hone (by simp only [maxLen]; omega) (by omega) ?_; intro vb vd w11 ho hu hw; simp only [List.length_map] at ho hw ⊢; have HM := Lib.hid (HT10.out.apps (ys := L2) rfl rfl ho hu hw); have hsrc2 := cells_at (l := [sV fr]) (hu.at HB8.out HNE.out); clear hrow ho hu hw; have hrow2 := HM.out.row; rw [show (L1 ++ L2).length = L1.length + L2.length from List.length_append] at hrow2)
          | (refine wpList_app _ rfl (.tmp 34) (.tmp 36) 22 rfl 9 i0 (.string ⟨#[]⟩) 1 16 Tryz.underlying22 HI0.out HZ0.out HZ1'.out HZ2'.out rfl (by decide) (.slice vb (L1.length + L2.length) vd) (L1.length + L2.length) _ rfl hrow2 ⟨b8, 0, none⟩ 1 1 [sV fr] rfl rfl hsrc2 (by simp [Value.oneCell', sV]) (by simp only [maxLen]; omega) (by omega) ?_; intro vb2 vd2 w12 ho hu hw; have HN := Lib.hid (HM.out.apps (ys := [fr]) (by simp) rfl ho hu hw); clear hrow2 hsrc2 ho hu hw))
        have HFP := Lib.hid (HFS.out (.slice vb2 (L1.length + L2.length + 1) vd2) w12 HN.out.up (by have := HN.out.slp; simpa using this))
        refine HFP.out.mono ?_
        rintro e w13 ⟨rfl, hu13⟩
        have HSH13 : Hid (Upto [] W7 w13) := Lib.hid (HN.out.up.trans_ext hu13)
        clear hu13 HFP HM HN HT10
        go_wp2_with fail
        refine NoPanic.normal ?_
        generalize Value.slice fa L1.length fc = X1
        generalize Value.slice ba L2.length bc = X2
        generalize Value.slice vb (L1.length + L2.length) vd = X3
        generalize Value.slice (some ⟨b8, 0, none⟩) 1 1 = X4
        generalize Value.slice vb2 (L1.length + L2.length + 1) vd2 = X5
        exact HSHV.out X1 X2 X3 X4 X5 w13 HSH13
    case tail =>
    rintro X1 X2 X3 X4 X5 w8 HV8
    have HU8 := Lib.hid (HU7.out.trans_ext HV8.out)
    have HB8 := Lib.hid (HV8.out.at HB7.out (by simp))
    have HX8 := Lib.hid (HV8.out.at HX7.out (by simp))
    have HRN : Hid (∀ u, Upto [] w8 u → Calls Tryz.prog 11 #[.agg #[.int .i64 xo, .slice xa1 xn1 xc1, .int .i64 xs, .int .i64 xn, .int .i64 xm, .slice xa2 xn2 xc2], .string ⟨fr.toArray⟩, .string ⟨TO.toArray⟩] u (RnP u (renF (depthF nd) fr TO nd))) := Lib.hid (fun u hu => by
      have h2 := HU8.out.trans_ext hu
      have := rename11n_calls nd fr TO _ _ u (HEN.out.1.ext h2) (HEN.out.2.1.ext h2) (HEN.out.2.2.ext h2) (HN6.out.ext ((HV7.out.trans_ext HV8.out).trans_ext hu)) HS60.out HIN.out.1 HCZ.out HNF.out HT.out.1
      rw [if_neg HT.out.2.2.2] at this
      exact this)
    have HYS := Lib.hid (ren_small (fr := fr) HS60.out HCZ.out HT.out.1)
    have HYB : Hid (renF (depthF nd) TO fr (renF (depthF nd) fr TO nd) = nd) := Lib.hid (ren_back (depthF nd) fr TO nd HSM.out.1 HT.out.2.2.2 HT.out.2.1 HT.out.2.2.1)
    have HYF : Hid (freeR (renF (depthF nd) fr TO nd) = L1.map (rnName fr TO)) := Lib.hid (by rw [HLL.out.1]; exact free_new HSM.out.1 HT.out.2.2.2 HT.out.1 HSM.out.2.2 HS60.out HT.out.2.1)
    generalize renF (depthF nd) fr TO nd = Y at *
    have HRB : Hid (∀ (v : Value) (P : Nat → Prop) (u : World), Upto [] w8 u → NdV u P Y v → Calls Tryz.prog 11 #[v, .string ⟨TO.toArray⟩, .string ⟨fr.toArray⟩] u (RnP u nd)) := Lib.hid (fun v P u hu hn => by
      have h2 := HU8.out.trans_ext hu
      have := rename11n_calls Y TO fr v P u (HEN.out.1.ext h2) (HEN.out.2.1.ext h2) (HEN.out.2.2.ext h2) hn HYS.out.1 HYS.out.2.2.1 HYS.out.2.1 HT.out.1 HNF.out
      rw [if_neg (fun e => HT.out.2.2.2 e.symm), HYS.out.2.2.2, HYB.out] at this
      exact this)
    obtain ⟨x0, x1, x2, x3, x4, x5⟩ := cells6 HX8.out
    go_wp2_with fail
    refine (HRN.out _ (Upto.refl _ _)).mono ?_
    rintro e w9 ⟨v9, rfl, ho9, hu9⟩
    obtain ⟨yo, ya1, yn1, yc1, ys, yn, ym, ya2, yn2, yc2, rfl⟩ := (ho9.ndv _ _ _ _).six
    have HO9 := Lib.hid ho9
    have HV9 := Lib.hid hu9
    have HU9 := Lib.hid (HU8.out.trans_ext hu9)
    have HB9 := Lib.hid (hu9.at HB8.out (by simp))
    obtain ⟨W10, hW10⟩ : ∃ W10, W10 = w9.alloc (.cells #[.int .i64 yo, .slice ya1 yn1 yc1, .int .i64 ys, .int .i64 yn, .int .i64 ym, .slice ya2 yn2 yc2] 30) := ⟨_, rfl⟩
    have HV10 : Hid (Upto [] w9 W10) := Lib.hid (by rw [hW10]; exact (Upto.refl [] w9).alloc _)
    have HB10 := Lib.hid (HV10.out.at HB9.out (by simp))
    have HY10 : Hid (W10.heap[w9.heap.size]? = some (.cells #[.int .i64 yo, .slice ya1 yn1 yc1, .int .i64 ys, .int .i64 yn, .int .i64 ym, .slice ya2 yn2 yc2] 30 (0, 0))) := Lib.hid (by rw [hW10]; exact new_at w9 _)
    have HU10 := Lib.hid (HU9.out.trans_ext HV10.out)
    clear ho9 hu9 x0 x1 x2 x3 x4 x5
    go_wp2_with fail
    simp only [← hW10]
    clear hW10
    obtain ⟨x0, x1, x2, x3, x4, x5⟩ := cells6 HY10.out
    go_wp2_with fail
    refine (HRB.out _ _ _ (HV9.out.trans_ext HV10.out) ((HO9.out.ndv _ _ _ _).ext HV10.out)).mono ?_
    rintro e w11 ⟨v11, rfl, ho11, hu11⟩
    obtain ⟨zo, za1, zn1, zc1, zs, zn, zm, za2, zn2, zc2, rfl⟩ := (ho11.ndv _ _ _ _).six
    have HN11 := Lib.hid (ho11.ndv _ _ _ _)
    have HB11 := Lib.hid (hu11.at HB10.out (by simp))
    have HY11 := Lib.hid (hu11.at HY10.out (by simp))
    obtain ⟨W12, hW12⟩ : ∃ W12, W12 = w11.alloc (.cells #[.int .i64 zo, .slice za1 zn1 zc1, .int .i64 zs, .int .i64 zn, .int .i64 zm, .slice za2 zn2 zc2] 30) := ⟨_, rfl⟩
    have HV12 : Hid (Upto [] w11 W12) := Lib.hid (by rw [hW12]; exact (Upto.refl [] w11).alloc _)
    have HB12 : Hid (W12.heap[w.heap.size]? = some (.cells #[.int .i64 op, .slice a1 n1 c1, .int .i64 so, .int .i64 nn, .int .i64 mm, .slice a2 n2 c2] 25 (0, 0))) := Lib.hid (HV12.out.at HB11.out (by simp))
    have HY12 := Lib.hid (HV12.out.at HY11.out (by simp))
    have HZ12 : Hid (W12.heap[w11.heap.size]? = some (.cells #[.int .i64 zo, .slice za1 zn1 zc1, .int .i64 zs, .int .i64 zn, .int .i64 zm, .slice za2 zn2 zc2] 30 (0, 0))) := Lib.hid (by rw [hW12]; exact new_at w11 _)
    have HV9B : Hid (Upto [] w9 W12) := Lib.hid ((HV10.out.trans_ext hu11).trans_ext HV12.out)
    have HU12 := Lib.hid (HU9.out.trans_ext HV9B.out)
    clear ho11 hu11 x0 x1 x2 x3 x4 x5
    go_wp2_with fail
    simp only [← hW12]
    clear hW12
    have HBK : Hid (∀ u, Upto [] W12 u → Calls Tryz.prog 16 #[.agg #[.int .i64 zo, .slice za1 zn1 zc1, .int .i64 zs, .int .i64 zn, .int .i64 zm, .slice za2 zn2 zc2]] u (BkPost u nd)) := Lib.hid (fun u hu => back_calls 60 nd HS60.out (by omega) (inN.big (M := 10000000) (by omega) _ HIN.out.1) _ _ u (HN11.out.ext (HV12.out.trans_ext hu)))
    have HSA : Hid (∀ (v : Value) u, Upto [] W12 u → (∃ P, NdV u P nd v) → Calls Tryz.prog 15 #[v, .agg #[.int .i64 op, .slice a1 n1 c1, .int .i64 so, .int .i64 nn, .int .i64 mm, .slice a2 n2 c2]] u fun e w' => e = .returned (.bool true) ∧ Upto [] u w') := Lib.hid (fun v u hu ⟨P, hn⟩ => by
      have := sameN_calls 60 nd HS60.out HIN.out.2 nd P _ v _ u hn (HND.out u (HU12.out.trans_ext hu))
      rw [(sameF_eq nd nd).2 rfl] at this
      exact this)
    have k0 : ∀ u : Ext W12, u.w.cell? ⟨w11.heap.size, 0, none⟩ = some (.int .i64 zo) := fun u => u.cell (cell_of HZ12.out 0)
    have k1 : ∀ u : Ext W12, u.w.cell? ⟨w11.heap.size, 1, none⟩ = some (.slice za1 zn1 zc1) := fun u => u.cell (cell_of HZ12.out 1)
    have k2 : ∀ u : Ext W12, u.w.cell? ⟨w11.heap.size, 2, none⟩ = some (.int .i64 zs) := fun u => u.cell (cell_of HZ12.out 2)
    have k3 : ∀ u : Ext W12, u.w.cell? ⟨w11.heap.size, 3, none⟩ = some (.int .i64 zn) := fun u => u.cell (cell_of HZ12.out 3)
    have k4 : ∀ u : Ext W12, u.w.cell? ⟨w11.heap.size, 4, none⟩ = some (.int .i64 zm) := fun u => u.cell (cell_of HZ12.out 4)
    have k5 : ∀ u : Ext W12, u.w.cell? ⟨w11.heap.size, 5, none⟩ = some (.slice za2 zn2 zc2) := fun u => u.cell (cell_of HZ12.out 5)
    have nb0 : ∀ u : Ext W12, u.w.cell? ⟨w.heap.size, 0, none⟩ = some (.int .i64 op) := fun u => u.cell (cell_of HB12.out 0)
    have nb1 : ∀ u : Ext W12, u.w.cell? ⟨w.heap.size, 1, none⟩ = some (.slice a1 n1 c1) := fun u => u.cell (cell_of HB12.out 1)
    have nb2 : ∀ u : Ext W12, u.w.cell? ⟨w.heap.size, 2, none⟩ = some (.int .i64 so) := fun u => u.cell (cell_of HB12.out 2)
    have nb3 : ∀ u : Ext W12, u.w.cell? ⟨w.heap.size, 3, none⟩ = some (.int .i64 nn) := fun u => u.cell (cell_of HB12.out 3)
    have nb4 : ∀ u : Ext W12, u.w.cell? ⟨w.heap.size, 4, none⟩ = some (.int .i64 mm) := fun u => u.cell (cell_of HB12.out 4)
    have nb5 : ∀ u : Ext W12, u.w.cell? ⟨w.heap.size, 5, none⟩ = some (.slice a2 n2 c2) := fun u => u.cell (cell_of HB12.out 5)
    refine wp_region_seg_at [8, 10] [] [0, 1, 2, 3, 4, 5, 6, 7, 8, 9, 10, 11] [12] 12 (by kernel_rfl) (by kernel_rfl) (by kernel_rfl) ?_
    iterate 8 (refine seg_plain rfl rfl rfl rfl rfl ?_; intro K' hK'; go_big_quiet_op; go_big_quiet_on)
    refine seg_callO (Y := Value) (fun v => v) (fun v u => ∃ P, NdV u P nd v) (fun _ => []) rfl rfl rfl rfl (fun _ _ _ ⟨P, h⟩ hu => ⟨P, h.ext hu⟩) (fun _ => List.nodup_nil) (fun w => by go_simp) (fun w hu hd => (HBK.out w hu).mono fun e w' ⟨v, h1, h2, h3⟩ => ⟨v, h1, h3, ⟨_, h2⟩, fun b hb => by cases hb⟩) ?_
    intro vk
    simp only [Act.put, List.setIfInBounds_toArray, List.set_cons_zero, List.set_cons_succ]
    (refine seg_plain rfl rfl rfl rfl rfl ?_; intro K' hK'; go_big_quiet_op; go_big_quiet_on)
    refine seg_call (v := .bool true) rfl rfl rfl rfl (fun w => by go_simp) (fun w hu hd => HSA.out vk w hu (hd.1 (by kernel_rfl))) ?_
    simp only [Act.put, List.setIfInBounds_toArray, List.set_cons_zero, List.set_cons_succ]
    (refine seg_plain rfl rfl rfl rfl rfl ?_; intro K' hK'; go_big_quiet_op; go_big_quiet_on)
    intro w13 hg
    have HV13 := Lib.hid (HV9B.out.trans_ext hg.up)
    have HU13 := Lib.hid (HU12.out.trans_ext hg.up)
    have HB13 := Lib.hid (hg.up.at HB12.out (by simp))
    have HY13 := Lib.hid (hg.up.at HY12.out (by simp))
    simp only [List.drop_succ_cons, List.drop_zero]
    clear hg k0 k1 k2 k3 k4 k5 nb0 nb1 nb2 nb3 nb4 nb5
    obtain ⟨x0, x1, x2, x3, x4, x5⟩ := cells6 HB13.out
    go_wp2_with fail
    refine (freeRefU_calls 60 nd HS60.out (by omega) HSM.out.2.1 (by have := HSM.out.2.2; omega) _ w13 _ (HND.out _ HU13.out)).mono ?_
    rintro e w14 ⟨v14, rfl, hr14⟩
    rw [← HLL.out.1] at hr14
    have HNM := Lib.hid (row_nmt hr14)
    obtain ⟨a, c, rfl⟩ := (row_nmt hr14).val
    have HV14 := Lib.hid (HV13.out.trans_ext hr14.up)
    have HU14 := Lib.hid (HU13.out.trans_ext hr14.up)
    have HY14 := Lib.hid (hr14.up.at HY13.out (by simp))
    obtain ⟨lo, hlo⟩ : ∃ lo, lo = w13.heap.size := ⟨_, rfl⟩
    obtain ⟨m, hm⟩ : ∃ m, m = w14.heap.size := ⟨_, rfl⟩
    rw [← hlo, ← hm] at HNM
    have HLO : Hid (w9.heap.size < lo ∧ w.heap.size ≤ lo ∧ lo ≤ m ∧ m = w14.heap.size) := Lib.hid ⟨by rw [hlo]; exact lt_of_heap HY13.out, by rw [hlo]; exact HU13.out.size, by rw [hlo, hm]; exact hr14.up.size, hm⟩
    have HLN : Hid (L1.length ≤ 1020) := Lib.hid hlen1
    generalize hN : L1.length = N at *
    have HN1 := Lib.hid hN
    have hNB := HLN.out
    have hNI : (N : Int) ≤ 1020 := by omega
    clear hr14 hlo hm x0 x1 x2 x3 x4 x5 hN hone hlen1 hlen2 hlen3
    go_wp2_with fail
    go_loopw [12] (fun v wr => ∃ j : Nat, j ≤ N ∧ v = .int .i64 j ∧ Hid (NI w14 (rnName fr TO) 0 L1 a c lo m j wr)) (fun v _ => N - (intOf v).toNat)
    case atStart => exact ⟨0, by omega, rfl, Lib.hid (NI.start (by rw [HN1.out]; exact HNM.out))⟩
    case round =>
      obtain ⟨j, hj, rfl, HI⟩ := hrel
      have hj0 : (0 : Int) ≤ j := by omega
      rcases Nat.lt_or_ge j N with hlt | hge
      · have hjl : (j : Int) < N := by omega
        obtain ⟨x, hx⟩ : ∃ x, L1[0 + j]? = some x := ⟨L1[0 + j]'(by rw [HN1.out]; omega), List.getElem?_eq_getElem _⟩
        have HX := Lib.hid hx
        obtain ⟨g9, o9, ha⟩ : ∃ g o, a = some ⟨g, o, none⟩ := by
          rcases HNM.out with ⟨h1, -⟩ | ⟨g, o, c', cs, t, h1, -⟩
          · have h2 := HN1.out
            rw [h1] at h2
            simp at h2
            omega
          · simp only [Value.slice.injEq] at h1
            exact ⟨g, o, h1.1⟩
        have HA := Lib.hid ha
        replace HI : Hid (NI w14 (rnName fr TO) 0 L1 (some ⟨g9, o9, none⟩) c lo m j wr) := Lib.hid (by rw [← ha]; exact HI.out)
        obtain ⟨q0, q1⟩ := HI.out.at hx
        rw [Nat.add_zero] at q0 q1
        clear hx
        unfold sV at q0
        subst ha
        by_cases hz : x = fr
        · have hzz : (x == fr) = true := by rw [hz]; exact beq_self_eq_true fr
          have HI2 := Lib.hid (HI.out.put (y := TO) HX.out (by unfold rnName; rw [if_pos hz]))
          clear hz
          go_wp2_with fail
          exact ⟨⟨j + 1, by omega, by simp, Lib.hid HI2.out⟩, by simp [intOf]; omega⟩
        · have hzz : (x == fr) = false := by rw [beq_eq_false_iff_ne]; exact hz
          have HI2 := Lib.hid (HI.out.stay HX.out (by unfold rnName; rw [if_neg hz]))
          clear hz
          go_wp2_with fail
          exact ⟨⟨j + 1, by omega, by simp, Lib.hid HI2.out⟩, by simp [intOf]; omega⟩
      · obtain rfl : j = N := by omega
        obtain ⟨w15, hw15⟩ : ∃ w15, w15 = wr := ⟨_, rfl⟩
        subst hw15
        have HNW : Hid (NmT w15 (L1.map (rnName fr TO)) (.slice a j c) lo m) := Lib.hid (by
          have h1 := HI.out.nm
          rw [HN1.out] at h1
          have h2 := mapAt_all (rnName fr TO) L1
          rw [HN1.out] at h2
          rw [h2] at h1
          exact h1)
        have HY15 := Lib.hid (HI.out.up.at HY14.out (by rw [mem_rg]; have := HLO.out; omega))
        have HU15 : Hid (Upto [] w w15) := Lib.hid (Upto.far HU14.out HI.out.up HLO.out.2.1)
        have HUR : Hid (Upto (Rg lo m) w9 w15) := Lib.hid ((HV14.out.mono (by simp)).trans_same HI.out.up)
        have HNY := Lib.hid ((HO9.out.same _ _ _ _ (SameIn.upto HUR.out (Nat.le_refl _) (fun b hb => by rw [mem_rg] at hb; have := HLO.out; omega))).ndv _ _ _ _)
        have HYM := Lib.hid (small_of HYS.out.1 HYS.out.2.1)
        obtain ⟨x0, x1, x2, x3, x4, x5⟩ := cells6 HY15.out
        go_wp2_with fail
        refine (Free_calls Y _ w15 _ HNY.out (by have := HYS.out.1; omega) HYM.out.2.1 (by have := HYM.out.2.2; omega)).mono ?_
        rintro e w16 ⟨v16, rfl, hr16⟩
        rw [free_same, HYF.out] at hr16
        obtain ⟨b16, c16, rfl⟩ := hr16.slp.len
        have HLM : Hid ((L1.map (rnName fr TO)).length = j) := Lib.hid (by rw [List.length_map]; exact HN1.out)
        have HSB : Hid (SlP w16 (fun _ => True) (.slice a j c) (L1.map (rnName fr TO)).length ((L1.map (rnName fr TO)).map sV)) := Lib.hid (HNW.out.slp.ext hr16.up)
        have HSC := Lib.hid hr16.slp
        have HU16 := Lib.hid (HU15.out.trans_ext hr16.up)
        have HCA := Lib.hid (same_calls (L1.map (rnName fr TO)) _ _ w16 _ _ HSC.out HSB.out (by rw [HLM.out]; omega))
        rw [HLM.out] at HCA ⊢
        clear hr16 x0 x1 x2 x3 x4 x5
        go_wp2_with fail
        refine HCA.out.mono ?_
        rintro e w17 ⟨rfl, hu17⟩
        have HU17 := Lib.hid (HU16.out.trans_ext hu17)
        clear hu17
        go_wp2_with fail
        go_ret
        exact ⟨rfl, HU17.out⟩
end Go.Proofs.YtbnebkkpmcjmbaaGreatDoor
