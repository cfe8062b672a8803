/- Texts merged, in build order: Tok, Lc0, Fm1, Fm2, Fm3, Fm4, Fm5, FmG, Nv, Fm6, Fm7, Fm8, Fm9, Fm10. -/
import Derived.Test.YtkhbpebpljdifaaGreatDoorMFoa
import Derived.Deep.RegionHeld3
namespace Go.Proofs.YtkhbpebpljdifaaGreatDoor
open Go.RowKit Go.PL Go.Maps
theorem info36 : (Tryz.prog.info? 83).map (fun i => (i.zero, i.size, i.bytes)) = some (some (.agg #[.int .i64 0, .string ⟨#[]⟩, .int .i64 0, .int .i64 0, .int .i64 0]), 5, 48) := by kernel_rfl
set_option maxRecDepth 100000 in
set_option maxHeartbeats 12800000 in
theorem tokenize_calls (s : List UInt8) (w : World) (he : Env w) (hmax : s.length ≤ 281474976710656) :
    Calls Tryz.prog 48 #[.string ⟨s.toArray⟩] w fun e w' => TokR s e w' ∧ Upto [] w w' := by
  have hsz : (ByteArray.mk s.toArray).size = s.length := rfl
  by_cases hbig : 65536 < s.length
  · have hbig' : (65536 : Int) < s.length := by omega
    clear he
    have b3 := new_at w (.cells #[.int .i64 0, .int .i64 0] 36)
    obtain ⟨q0, q1⟩ := cells2 b3
    go_enter Tryz.func48, Tryz.ntmps48
    go_wp2_with fail
    go_step3
    go_wp2_with fail
    rw [Exit.noGoto_ret]
    refine bodyPost_ret (v := .tuple #[.slice none 0 0, .agg #[.int .i64 0, .int .i64 0], .int .i64 2]) (by simp [results, Tryz.results48, go_sem, q0, q1]) rfl ⟨?_, (Upto.refl _ _).alloc _⟩
    exact Or.inr ⟨0, 0, 2, by rw [lexT, if_pos hbig], by decide, rfl⟩
  · have hbig' : ¬ (65536 : Int) < s.length := by omega
    have hlt : lexT s = lexS s 1 1 := by rw [lexT, if_neg hbig]
    have hlen : s.length ≤ 65536 := by omega
    have hu0 : Upto [] w (w.alloc (.cells #[.int .i64 0, .int .i64 0] 36)) := (Upto.refl [] w).alloc _
    have b3 := new_at w (.cells #[.int .i64 0, .int .i64 0] 36)
    have HK := Lib.hid (known_calls _ (he.ext hu0))
    have HLT := Lib.hid hlt
    clear hlt
    obtain ⟨i0, hi0, hz0, hz1, hz2⟩ := info_parts info36
    have HI := Lib.hid hi0
    have HZ0 := Lib.hid hz0
    have HZ1 := Lib.hid hz1
    have HZ2 := Lib.hid hz2
    clear hi0 hz0 hz1 hz2
    have HB := Lib.hid blank_calls
    have HX := Lib.hid Tryz.strings_IndexByte
    have HN := Lib.hid inner_calls
    have HC := Lib.hid (fun x h w => cut_calls 78 lxInner (run_enter Tryz.func78 (by kernel_rfl) rfl) inner_calls x h w)
    have HR := Lib.hid run_calls
    go_enter Tryz.func48, Tryz.ntmps48
    go_wp2_with fail
    go_step3
    go_wp2_with fail
    refine HK.out.mono ?_
    rintro e w1 ⟨m, rfl, hkeys, hu1⟩
    have hb3 := hu1.at b3 (by simp)
    have hs1 := hu1.size
    have hup1 := hu0.trans_ext hu1
    have hM : TkM w w.heap.size w1.heap.size m [] (.slice none 0 0) 1 1 (w1.alloc (.cells #[.int .i64 1, .int .i64 1] 36)) := by
      have hul : Upto [] w1 (w1.alloc (.cells #[.int .i64 1, .int .i64 1] 36)) := (Upto.refl [] w1).alloc _
      refine ⟨⟨rfl, Or.inl ⟨rfl, rfl⟩⟩, fun g hg => (by cases hg), hul.at hb3 (by simp), new_at _ _, hup1.trans_ext hul, hkeys.ext hul, (he.ext hup1).ext hul, Nat.le_refl _, hup1.size, ?_⟩
      simp only [World.size_alloc] at hs1
      omega
    have h0 := Lib.hid he
    clear HK b3 hb3 hkeys hu0 hu1 hup1 hs1 he hbig hbig'
    go_wp2_with fail
    go_step3
    go_wp2_with fail
    generalize w1.alloc (.cells #[.int .i64 1, .int .i64 1] 36) = W0 at *
    generalize w1.heap.size = B7 at *
    generalize hB3 : w.heap.size = B3 at *
    go_loopw [5, 8, 9] (fun l p i wr => ∃ (k ls L c : Nat) (acc : List Tok), k ≤ s.length ∧ ls ≤ k ∧ i = .int .i64 k ∧ p = .int .i64 ls ∧ TkM w B3 B7 m acc l L c wr ∧ Hid (acc.length ≤ k ∧ L ≤ k + 1) ∧ Hid (lexS s 1 1 = Go.PL.ahead acc (lexS (s.drop k) L (k - ls + 1)))) (fun _ _ i _ => s.length + 1 - (intOf i).toNat)
    case atStart => exact ⟨0, 0, 1, 1, [], by omega, by omega, rfl, rfl, hM, Lib.hid ⟨by simp, by omega⟩, Lib.hid (by rw [ahead_nil]; rfl)⟩
    case round =>
      obtain ⟨k, ls, L, c, acc, hk, hls, rfl, rfl, hM', HL, HE⟩ := hrel
      clear hM
      obtain ⟨va, vc, rfl, -⟩ := ownsRow_len hM'.row
      have hcol : (k : Int) - ls + 1 = ((k - ls + 1 : Nat) : Int) := by omega
      have hcs : Hid (∀ j, k + j - ls + 1 = (k - ls + 1) + j) := Lib.hid (by intro j; omega)
      have hccb : k - ls + 1 ≤ k + 1 := by omega
      generalize k - ls + 1 = cc at *
      have hMa := hM'.at h0.out cc
      have hb7 := hM'.b7
      obtain ⟨q0, q1⟩ := cells2 hb7
      obtain ⟨f0, f1⟩ := frees2 hb7
      obtain ⟨hacc, hLk⟩ := HL.out
      have hkb : (k : Int) ≤ 65536 := by omega
      have hk0 : (0 : Int) ≤ k := by omega
      have hls0 : (0 : Int) ≤ ls := by omega
      have hlsk : (ls : Int) ≤ k := by omega
      have hL0 : (0 : Int) ≤ L := by omega
      have hLb : (L : Int) ≤ 65537 := by omega
      have HA := Lib.hid hMa
      clear hM' hMa hb7 HL
      rcases Nat.lt_or_ge k s.length with hlt | hge
      · obtain ⟨b, hb⟩ : ∃ b, s[k]? = some b := ⟨s[k], List.getElem?_eq_getElem hlt⟩
        have hat := str_at hb
        have hd := Lib.hid (drop_at hb)
        clear hb
        have hlt' : ((k : Int) == s.length) = false := by rw [beq_eq_false_iff_ne]; omega
        have hlt2 : (k : Int) < s.length := by omega
        go_wp2_with fail
        generalize (wr.setCell ⟨B7, 0, none⟩ (.int .i64 L)).setCell ⟨B7, 1, none⟩ (.int .i64 cc) = wa at *
        clear q0 q1 f0 f1
        have hA := HA.out
        obtain ⟨a0, a1⟩ := cells2 hA.b7
        obtain ⟨fa0, fa1⟩ := frees2 hA.b7
        clear hA
        refine (HB.out _ _).mono ?_
        rintro e wb ⟨rfl, hwb⟩
        have hwb' := hwb.symm
        subst hwb'
        cases hbl : lxBlank b with
        | true =>
          have HBL := Lib.hid hbl
          by_cases h10 : b.toNat = 10
          · have t10 : ((b.toNat : Int) == 10) = true := by simp [h10]
            have HM2 : Hid (TkM w B3 B7 m acc (.slice va acc.length vc) (L + 1) cc (wa.setCell ⟨B7, 0, none⟩ (.int .i64 ((L : Int) + 1)))) := Lib.hid (HA.out.line h0.out (L + 1))
            have H10 := Lib.hid h10
            clear HA h10
            go_wp2_with fail
            go_roundw
            case rel => exact ⟨k + 1, k + 1, L + 1, cc, acc, by omega, by omega, by go_num, by go_num, HM2.out, Lib.hid ⟨by omega, by omega⟩, Lib.hid (by rw [HE.out, hd.out, lexS_line H10.out, Nat.sub_self])⟩
            case measure => simp [intOf]; omega
          · have t10 : ((b.toNat : Int) == 10) = false := by rw [beq_eq_false_iff_ne]; omega
            have H10 := Lib.hid h10
            clear h10
            go_wp2_with fail
            go_roundw
            case rel => exact ⟨k + 1, ls, L, cc, acc, by omega, by omega, by go_num, rfl, HA.out, Lib.hid ⟨by omega, by omega⟩, Lib.hid (by rw [HE.out, hd.out, lexS_blank HBL.out H10.out, hcs.out 1])⟩
            case measure => simp [intOf]; omega
        | false =>
          have HBL := Lib.hid hbl
          go_wp2_with fail
          refine (HX.out ⟨#[61, 40, 41, 44, 58, 59]⟩ b.toNat _).mono ?_
          rintro e wb ⟨rfl, hwb⟩
          have hwb' := hwb.symm
          subst hwb'
          rw [byte_back]
          have him := idx_mark b
          generalize Go.Lib.indexByte [61, 40, 41, 44, 58, 59] b = kk at *
          cases hmk : lxMark b with
          | true =>
            have HMK := Lib.hid hmk
            rw [hmk] at him
            have hkk : (0 : Int) ≤ kk := of_decide_eq_true him
            clear him
            go_wp2_with fail
            have hx3 : (ByteArray.mk s.toArray).extract k (k + 1) = ⟨[b].toArray⟩ := by rw [ext_to, hd.out]; rfl
            have e0 : ∀ u : Ext wa, u.w.cell? ⟨B7, 0, none⟩ = some (.int .i64 L) := fun u => u.cell a0
            have e1 : ∀ u : Ext wa, u.w.cell? ⟨B7, 1, none⟩ = some (.int .i64 cc) := fun u => u.cell a1
            refine wp_region_noPanic ?_
            refine wp_region_segP_at [] [] [0] [1, 2, 3, 4, 5, 6, 7] [8, 9, 10] 8 (fun _ _ _ _ _ h => h) (by kernel_rfl) (by kernel_rfl) (by kernel_rfl) ?_
            refine pre_plain rfl rfl rfl ?_
            intro K' hK'
            go_big_quiet_op
            go_big_quiet_on
            iterate 7 (refine seg_plain rfl rfl rfl rfl rfl ?_; intro K' hK'; go_big_quiet_op; go_big_quiet_on)
            intro w9 hg
            have hv := hg.up
            clear hg e0 e1
            simp only [List.drop_succ_cons, List.drop_zero]
            have hM9 := HA.out.ext hv
            have H9 := Lib.hid hM9
            have hrow := (hM9.ext ((Upto.refl [] w9).alloc (.cells #[.int .i64 4, .string ⟨[b].toArray⟩, .int .i64 0, .int .i64 L, .int .i64 cc] 83))).row
            have hsrc := cells_at (l := tkC ⟨4, [b], 0, L, cc⟩) (new_at w9 (.cells #[.int .i64 4, .string ⟨[b].toArray⟩, .int .i64 0, .int .i64 L, .int .i64 cc] 83))
            clear hM9 hv a0 a1
            go_wp2_with (at_builtin; refine wpList_app _ rfl (.tmp 60) (.tmp 68) 74 rfl 83 i0 (.agg #[.int .i64 0, .string ⟨#[]⟩, .int .i64 0, .int .i64 0, .int .i64 0]) 5 48 Tryz.underlying74 HI.out HZ0.out HZ1.out HZ2.out rfl (by decide) (.slice va acc.length vc) acc.length _ rfl hrow ⟨w9.heap.size, 0, none⟩ 1 1 (tkC ⟨4, [b], 0, L, cc⟩) rfl rfl hsrc tkC_one (by unfold maxLen; omega) (by omega) ?_; intro vb vd w4 ho4 hu4 hw4; have hM4 := H9.out.app (t := ⟨4, [b], 0, L, cc⟩) h0.out rfl ho4 hu4 hw4; clear hrow hsrc ho4 hu4 hw4)
            refine NoPanic.normal ?_
            have HM4 := Lib.hid hM4
            clear hM4
            go_wp2_with fail
            go_roundw
            case rel => exact ⟨k + 1, ls, L, cc, acc ++ [⟨4, [b], 0, L, cc⟩], by omega, by omega, by go_num, rfl, HM4.out, Lib.hid ⟨by simp; omega, by omega⟩, Lib.hid (by rw [HE.out, hd.out, lexS_mark HBL.out HMK.out, hcs.out 1, ahead_snoc])⟩
            case measure => simp [intOf]; omega
          | false =>
            have HMK := Lib.hid hmk
            rw [hmk] at him
            have hkk : kk < 0 := by have := of_decide_eq_false him; omega
            clear him
            go_wp2_with fail
            refine (HN.out _ _).mono ?_
            rintro e wb ⟨rfl, hwb⟩
            have hwb' := hwb.symm
            subst hwb'
            cases hin : lxInner b with
            | false =>
              have HIN := Lib.hid hin
              go_wp2_with fail
              have e0 : ∀ u : Ext wa, u.w.cell? ⟨B7, 0, none⟩ = some (.int .i64 L) := fun u => u.cell a0
              have e1 : ∀ u : Ext wa, u.w.cell? ⟨B7, 1, none⟩ = some (.int .i64 cc) := fun u => u.cell a1
              refine wp_region_seg_at [] [] [0, 1] [2, 3] 2 (by kernel_rfl) (by kernel_rfl) (by kernel_rfl) ?_
              iterate 2 (refine seg_plain rfl rfl rfl rfl rfl ?_; intro K' hK'; go_big_quiet_op; go_big_quiet_on)
              intro w9 hg
              have hv := hg.up
              clear hg e0 e1
              simp only [List.drop_succ_cons, List.drop_zero]
              have hM9 := HA.out.ext hv
              obtain ⟨d0, d1⟩ := cells2 hM9.b3
              obtain ⟨g0, g1⟩ := frees2 hM9.b3
              obtain ⟨-, z2⟩ := hM9.fin (.int .i64 L) (.int .i64 cc)
              clear hv hM9 a0 a1
              go_wp2_with fail
              rw [Exit.noGoto_ret]
              refine bodyPost_ret (v := .tuple #[.slice none 0 0, .agg #[.int .i64 L, .int .i64 cc], .int .i64 3]) (by simp [results, Tryz.results48, go_sem, d0, d1]) rfl ⟨Or.inr ⟨L, cc, 3, ?_, by decide, rfl⟩, z2⟩
              rw [HLT.out, HE.out, hd.out, lexS_bad HBL.out HMK.out HIN.out, ahead_error]
            | true =>
              have HIN := Lib.hid hin
              have hx1 := ext_from (s := s) k
              go_wp2_with fail
              have hdl : (s.drop k).length ≤ 4611686018427387904 := by rw [List.length_drop]; omega
              with_reducible refine (HC.out (s.drop k) hdl _).mono ?_
              rintro e wb ⟨rfl, hwb⟩
              have hwb' := hwb.symm
              subst hwb'
              obtain ⟨r, q, hrq, hrn, hri, hq, -⟩ := lex_split (s.drop k) ⟨b, s.drop (k + 1), hd.out, hin⟩
              obtain ⟨hr1, hr2⟩ := run_split hri hq
              rw [← hrq] at hr1 hr2
              obtain ⟨r', hr'⟩ : ∃ r', r = b :: r' := by
                cases r with
                | nil => exact absurd rfl hrn
                | cons y r' =>
                  have := hrq.symm.trans hd.out
                  rw [List.cons_append] at this
                  injection this with h1 h2
                  rw [h1]
                  exact ⟨r', rfl⟩
              have hlr : k + r.length + q.length = s.length := by
                have := congrArg List.length hrq
                simp only [List.length_drop, List.length_append] at this
                omega
              have hqd : s.drop (k + r.length) = q := by
                rw [← List.drop_drop, hrq, List.drop_left]
              clear hx1
              have hx2 : (ByteArray.mk s.toArray).extract k (k + r.length) = ⟨r.toArray⟩ := by
                rw [ext_to, hrq, List.take_left]
              have hrl : r.length ≠ 0 := by rw [hr']; simp
              have hkr : (k : Int) + r.length ≤ s.length := by omega
              have hr0 : (0 : Int) ≤ r.length := by omega
              have hrI : (ByteArray.mk r.toArray).size = r.length := rfl
              rw [hr1]
              have HS := Lib.hid (lexS_runs hrn hri hq)
              have HRR := Lib.hid hr'
              clear hr'
              have HQ := Lib.hid hqd
              have HRQ := Lib.hid hrq
              clear hrq hqd hr1 hr2 hri hq hrn hat hdl
              go_wp2_with fail
              have HRC := HR.out b r' m wa (by rw [← HRR.out]; omega) HA.out.env HA.out.keys
              rw [← HRR.out] at HRC
              refine HRC.mono ?_
              rintro e w2 ⟨⟨kk, v, n, x, rfl, hcase⟩, hu2⟩
              clear HRC
              unfold tkV
              have hM2 := HA.out.ext hu2
              have hM3 := hM2.ext ((Upto.refl [] w2).alloc (.cells #[.int .i64 kk, .string ⟨x.toArray⟩, .int .i64 v, .int .i64 0, .int .i64 0] 83))
              rcases hcase with ⟨rfl, rfl, hc⟩ | ⟨hn, hc⟩
              · simp only [show ((0 : Nat) : Int) = 0 from rfl]
                have a0 := cell_of hM3.b7 0
                have a1 := cell_of hM3.b7 1
                have hn5 := new_at w2 (.cells #[.int .i64 kk, .string ⟨x.toArray⟩, .int .i64 v, .int .i64 0, .int .i64 0] 83)
                have g3 := free_of hn5 3
                have g4 := free_of hn5 4
                simp only [List.getElem?_toArray, List.getElem?_cons_zero, List.getElem?_cons_succ] at a0 a1
                have H2 := Lib.hid hM2
                have hMX := hM2.ext ((Upto.refl [] w2).alloc (.cells #[.int .i64 kk, .string ⟨x.toArray⟩, .int .i64 v, .int .i64 L, .int .i64 cc] 83))
                have HMX := Lib.hid hMX
                have hrow := (hMX.ext ((Upto.refl [] _).alloc (.cells #[.int .i64 kk, .string ⟨x.toArray⟩, .int .i64 v, .int .i64 L, .int .i64 cc] 83))).row
                have hsrc := cells_at (l := tkC ⟨kk, x, v, L, cc⟩) (new_at1 w2 (.cells #[.int .i64 kk, .string ⟨x.toArray⟩, .int .i64 v, .int .i64 L, .int .i64 cc] 83) (.cells #[.int .i64 kk, .string ⟨x.toArray⟩, .int .i64 v, .int .i64 L, .int .i64 cc] 83))
                clear hM3 hn5 hu2 HA fa0 fa1 hM2 hMX
                go_wp2_with (at_builtin; refine wpList_app _ rfl (.tmp 98) (.tmp 100) 74 rfl 83 i0 (.agg #[.int .i64 0, .string ⟨#[]⟩, .int .i64 0, .int .i64 0, .int .i64 0]) 5 48 Tryz.underlying74 HI.out HZ0.out HZ1.out HZ2.out rfl (by decide) (.slice va acc.length vc) acc.length _ rfl hrow ⟨w2.heap.size + 1, 0, none⟩ 1 1 (tkC ⟨kk, x, v, L, cc⟩) rfl rfl hsrc tkC_one (by unfold maxLen; omega) (by omega) ?_; intro vb vd w4 ho4 hu4 hw4; have HM4 := Lib.hid (HMX.out.app (t := ⟨kk, x, v, L, cc⟩) h0.out rfl ho4 hu4 hw4); clear hrow hsrc ho4 hu4 hw4)
                go_roundw
                case rel =>
                  refine ⟨k + x.length, ls, L, cc, acc ++ [⟨kk, x, v, L, cc⟩], by omega, by omega, by go_num, rfl, HM4.out, Lib.hid ⟨by simp; omega, by omega⟩, Lib.hid ?_⟩
                  rw [HE.out, HRQ.out, HS.out, hc, hcs.out x.length, HQ.out]
                  exact ahead_snoc _ _ _
                case measure => simp [intOf]; omega
              · have hn' : ((n : Int) == 0) = false := by rw [beq_eq_false_iff_ne]; omega
                have H3 := Lib.hid hM3
                have hb7 := hM3.b7
                clear hM2 hM3 hu2 a0 a1 fa0 fa1 HA
                go_wp2_with fail
                generalize w2.alloc (.cells #[.int .i64 kk, .string ⟨x.toArray⟩, .int .i64 v, .int .i64 0, .int .i64 0] 83) = wc at *
                obtain ⟨a0, a1⟩ := cells2 hb7
                clear hb7
                have e0 : ∀ u : Ext wc, u.w.cell? ⟨B7, 0, none⟩ = some (.int .i64 L) := fun u => u.cell a0
                have e1 : ∀ u : Ext wc, u.w.cell? ⟨B7, 1, none⟩ = some (.int .i64 cc) := fun u => u.cell a1
                refine wp_region_noPanic ?_
                refine wp_region_segP_at [] [] [1] [0, 2] [3, 4] 3 (fun _ _ _ _ _ h => h) (by kernel_rfl) (by kernel_rfl) (by kernel_rfl) ?_
                refine pre_plain rfl rfl rfl ?_
                intro K' hK'
                go_big_quiet_op
                go_big_quiet_on
                iterate 2 (refine seg_plain rfl rfl rfl rfl rfl ?_; intro K' hK'; go_big_quiet_op; go_big_quiet_on)
                intro w9 hg
                have hv := hg.up
                clear hg e0 e1
                simp only [List.drop_succ_cons, List.drop_zero]
                have hM9 := H3.out.ext hv
                obtain ⟨d0, d1⟩ := cells2 hM9.b3
                obtain ⟨g0, g1⟩ := frees2 hM9.b3
                obtain ⟨-, z2⟩ := hM9.fin (.int .i64 L) (.int .i64 cc)
                clear hv hM9 a0 a1
                go_wp2_with fail
                refine NoPanic.normal ?_
                go_wp2_with fail
                rw [Exit.noGoto_ret]
                refine bodyPost_ret (v := .tuple #[.slice none 0 0, .agg #[.int .i64 L, .int .i64 cc], .int .i64 n]) (by simp [results, Tryz.results48, go_sem, d0, d1]) rfl ⟨Or.inr ⟨L, cc, n, ?_, hn, rfl⟩, z2⟩
                rw [HLT.out, HE.out, HRQ.out, HS.out, hc, ahead_error]
      · have hge' : ((k : Int) == s.length) = true := by rw [beq_iff_eq]; omega
        go_upto_region 9 with fail
        generalize (wr.setCell ⟨B7, 0, none⟩ (.int .i64 L)).setCell ⟨B7, 1, none⟩ (.int .i64 cc) = wa at *
        clear q0 q1 f0 f1
        have hA := HA.out
        obtain ⟨a0, a1⟩ := cells2 hA.b7
        have hrow := (hA.ext ((Upto.refl [] wa).alloc (.cells #[.int .i64 0, .string ⟨#[]⟩, .int .i64 0, .int .i64 L, .int .i64 cc] 83))).row
        have hsrc := cells_at (l := tkC ⟨0, [], 0, L, cc⟩) (new_at wa (.cells #[.int .i64 0, .string ⟨#[]⟩, .int .i64 0, .int .i64 L, .int .i64 cc] 83))
        clear hA
        go_wp2_with (at_builtin; refine wpList_app _ rfl (.tmp 32) (.tmp 35) 74 rfl 83 i0 (.agg #[.int .i64 0, .string ⟨#[]⟩, .int .i64 0, .int .i64 0, .int .i64 0]) 5 48 Tryz.underlying74 HI.out HZ0.out HZ1.out HZ2.out rfl (by decide) (.slice va acc.length vc) acc.length _ rfl hrow ⟨wa.heap.size, 0, none⟩ 1 1 (tkC ⟨0, [], 0, L, cc⟩) rfl rfl hsrc tkC_one (by unfold maxLen; omega) (by omega) ?_; intro vb vd w4 ho4 hu4 hw4; have hM4 := HA.out.app (t := ⟨0, [], 0, L, cc⟩) h0.out rfl ho4 hu4 hw4; have d0 := cell_of hM4.b3 0; have d1 := cell_of hM4.b3 1; have g0 := free_of hM4.b3 0; have g1 := free_of hM4.b3 1; simp only [List.getElem?_toArray, List.getElem?_cons_zero, List.getElem?_cons_succ] at d0 d1; clear hrow hsrc ho4 hu4 hw4)
        rw [Exit.noGoto_ret]
        obtain ⟨z1, z2⟩ := hM4.fin (.int .i64 0) (.int .i64 0)
        have hks : k = s.length := by omega
        refine bodyPost_ret (v := .tuple #[.slice vb (acc.length + 1) vd, .agg #[.int .i64 0, .int .i64 0], .int .i64 0]) (by simp [results, Tryz.results48, go_sem, d0, d1]) rfl ⟨Or.inl ⟨acc ++ [⟨0, [], 0, L, cc⟩], _, ?_, rfl, z1⟩, z2⟩
        rw [HLT.out, HE.out, hks, List.drop_length, lexS_nil, ahead_ok]
theorem tok_store {w : World} {B : Nat} {a b c d e : Value} {T : TypeId} (h : w.heap[B]? = some (.cells #[a, b, c, d, e] T (0, 0))) (a' b' c' d' e' : Value) :
    (((((w.setCell ⟨B, 0, none⟩ a').setCell ⟨B, 1, none⟩ b').setCell ⟨B, 2, none⟩ c').setCell ⟨B, 3, none⟩ d').setCell ⟨B, 4, none⟩ e').heap[B]? = some (.cells #[a', b', c', d', e'] T (0, 0)) := by
  have := set_same (set_same (set_same (set_same (set_same h 0 a') 1 b') 2 c') 3 d') 4 e'
  simpa using this
theorem tok_up {v w : World} {B : Nat} (h : Upto [] v w) (hB : v.heap.size ≤ B) (a' b' c' d' e' : Value) :
    Upto [] v (((((w.setCell ⟨B, 0, none⟩ a').setCell ⟨B, 1, none⟩ b').setCell ⟨B, 2, none⟩ c').setCell ⟨B, 3, none⟩ d').setCell ⟨B, 4, none⟩ e') :=
  ((((h.setCell (Or.inr hB) _).setCell (Or.inr hB) _).setCell (Or.inr hB) _).setCell (Or.inr hB) _).setCell (Or.inr hB) _
def outT : Except (Nat × Nat × Nat) (List Tok) → List Tok × Nat × Nat × Nat
  | .ok ts => (ts, 0, 0, 0)
  | .error (l, c, n) => ([], l, c, n)
theorem toks_nil (w : World) : Toks w (.slice none 0 0) [] := ⟨rfl, Or.inl ⟨rfl, none, 0, rfl⟩⟩
theorem TokR.out {s : List UInt8} {e : Ending} {w : World} (h : TokR s e w) : ∃ v, e = .returned (.tuple #[v, .agg #[.int .i64 (outT (lexT s)).2.1, .int .i64 (outT (lexT s)).2.2.1], .int .i64 (outT (lexT s)).2.2.2]) ∧ Toks w v (outT (lexT s)).1 := by
  rcases h with ⟨ts, v, hl, rfl, hT⟩ | ⟨l, c, n, hl, _, rfl⟩
  · rw [hl]; exact ⟨v, rfl, hT⟩
  · rw [hl]; exact ⟨_, rfl, toks_nil w⟩
def tkA (t : Tok) : Value := .agg #[.int .i64 t.kind, .string ⟨t.text.toArray⟩, .int .i64 t.val, .int .i64 t.line, .int .i64 t.col]
def rdC (v : Value) (s : PS) : Array Value := #[v, .int .i64 s.nx, .int .i64 s.er, .int .i64 s.dp]
structure RdAt (w : World) (p : Nat) (l : List Tok) (s : PS) : Prop where
  cells : ∃ v, w.heap[p]? = some (.cells (rdC v s) 129 (0, 0)) ∧ Toks w v l ∧ ∀ g o n c, v = .slice (some ⟨g, o, none⟩) n c → g < p
  inb : s.nx < l.length
  fin : ∀ i t, l[i]? = some t → t.kind ≠ 0 → i + 1 < l.length
theorem tkAt_some {l : List Tok} {s : PS} (h : s.nx < l.length) : l[s.nx]? = some (tkAt l s) := by
  unfold tkAt
  rw [List.getD_eq_getElem?_getD, List.getElem?_eq_getElem h]
  rfl
set_option maxRecDepth 100000 in
set_option maxHeartbeats 6400000 in
theorem next_calls (w : World) (p : Nat) (l : List Tok) (s : PS) (h : RdAt w p l s) : Calls Tryz.prog 89 #[.pointer (some ⟨p, 0, none⟩)] w fun e w' => e = .returned (tkA (tkAt l s)) ∧ Upto [] w w' := by
  obtain ⟨⟨v, hb, hT, -⟩, hin, -⟩ := h
  have ht := tkAt_some hin
  have b0 := cell_of hb 0
  have b1 := cell_of hb 1
  unfold rdC at b0 b1
  simp only [List.getElem?_toArray, List.getElem?_cons_zero, List.getElem?_cons_succ] at b0 b1
  rcases hT.at with ⟨h0, _⟩ | ⟨g, o, c, rfl, hat⟩
  · rw [h0] at hin; simp at hin
  obtain ⟨c0, c1, c2, c3, c4⟩ := hat _ _ ht
  simp only [bs] at c1
  have hi1 : (s.nx : Int) < l.length := by omega
  have hi0 : (0 : Int) ≤ s.nx := by omega
  generalize tkAt l s = t at *
  unfold tkA
  clear hat ht hT hb
  go_enter Tryz.func89, Tryz.ntmps89
  go_wp2_with fail
  have hua := (Upto.refl [] w).alloc (.cells #[.int .i64 0, .string ⟨#[]⟩, .int .i64 0, .int .i64 0, .int .i64 0] 83)
  have hnew := new_at w (.cells #[.int .i64 0, .string ⟨#[]⟩, .int .i64 0, .int .i64 0, .int .i64 0] 83)
  have up : ∀ {a : Addr} {u : Value}, w.cell? a = some u → (w.alloc (.cells #[.int .i64 0, .string ⟨#[]⟩, .int .i64 0, .int .i64 0, .int .i64 0] 83)).cell? a = some u := fun h => (hua.cell (World.block_lt_of_cell? w _ h) (by simp)).trans h
  replace b0 := up b0
  replace b1 := up b1
  replace c0 := up c0
  replace c1 := up c1
  replace c2 := up c2
  replace c3 := up c3
  replace c4 := up c4
  clear up
  generalize w.alloc (.cells #[.int .i64 0, .string ⟨#[]⟩, .int .i64 0, .int .i64 0, .int .i64 0] 83) = W1 at *
  obtain ⟨B, hB, hBB⟩ : ∃ B, w.heap.size ≤ B ∧ B = w.heap.size := ⟨_, Nat.le_refl _, rfl⟩
  rw [← hBB] at hnew ⊢
  clear hBB
  have e0 : ∀ u : Ext W1, u.w.cell? ⟨p, 0, none⟩ = some (.slice (some ⟨g, o, none⟩) l.length c) := fun u => u.cell b0
  have e1 : ∀ u : Ext W1, u.w.cell? ⟨p, 1, none⟩ = some (.int .i64 s.nx) := fun u => u.cell b1
  have f0 : ∀ u : Ext W1, u.w.cell? ⟨g, o + s.nx * 5, none⟩ = some (.int .i64 t.kind) := fun u => u.cell c0
  have f1 : ∀ u : Ext W1, u.w.cell? ⟨g, o + s.nx * 5 + 1, none⟩ = some (.string ⟨t.text.toArray⟩) := fun u => u.cell c1
  have f2 : ∀ u : Ext W1, u.w.cell? ⟨g, o + s.nx * 5 + 2, none⟩ = some (.int .i64 t.val) := fun u => u.cell c2
  have f3 : ∀ u : Ext W1, u.w.cell? ⟨g, o + s.nx * 5 + 3, none⟩ = some (.int .i64 t.line) := fun u => u.cell c3
  have f4 : ∀ u : Ext W1, u.w.cell? ⟨g, o + s.nx * 5 + 4, none⟩ = some (.int .i64 t.col) := fun u => u.cell c4
  clear b0 b1 c0 c1 c2 c3 c4
  refine wp_region_seg_at [] [] (List.range 10) [10] 10 (by kernel_rfl) (by kernel_rfl) (by kernel_rfl) ?_
  iterate 10 (refine seg_plain rfl rfl rfl rfl rfl ?_; intro K' hK'; go_big_quiet_op; go_big_quiet_on)
  intro w9 hg
  have hv := hua.trans_ext hg.up
  have hb9 := hg.up.at hnew (by simp)
  clear hg e0 e1 f0 f1 f2 f3 f4 hnew hua
  obtain ⟨z0, z1, z2, z3, z4⟩ := cells5 hb9
  obtain ⟨y0, y1, y2, y3, y4⟩ := frees5 hb9
  simp only [List.drop_succ_cons, List.drop_zero]
  have hst := tok_store hb9 (.int .i64 t.kind) (.string ⟨t.text.toArray⟩) (.int .i64 t.val) (.int .i64 t.line) (.int .i64 t.col)
  have huz := tok_up hv hB (.int .i64 t.kind) (.string ⟨t.text.toArray⟩) (.int .i64 t.val) (.int .i64 t.line) (.int .i64 t.col)
  clear hb9 hv hB
  go_wp2_with fail
  obtain ⟨q0, q1, q2, q3, q4⟩ := cells5 hst
  exact bodyPost_ret (v := .agg #[.int .i64 t.kind, .string ⟨t.text.toArray⟩, .int .i64 t.val, .int .i64 t.line, .int .i64 t.col]) (by simp [results, Tryz.results89, go_sem, q0, q1, q2, q3, q4]) rfl ⟨rfl, huz⟩
theorem RdAt.ext {w w' : World} {p : Nat} {l : List Tok} {s : PS} (h : RdAt w p l s) (hu : Upto [] w w') : RdAt w' p l s := by
  obtain ⟨⟨v, hb, hT, hg⟩, hin, hf⟩ := h
  exact ⟨⟨v, hu.at hb (by simp), hT.ext hu, hg⟩, hin, hf⟩
theorem RdAt.step {w : World} {p : Nat} {l : List Tok} {s : PS} (h : RdAt w p l s) (hk : (tkAt l s).kind ≠ 0) : RdAt (w.setCell ⟨p, 1, none⟩ (.int .i64 ((s.nx : Int) + 1))) p l (stepF s) ∧ Upto [p] w (w.setCell ⟨p, 1, none⟩ (.int .i64 ((s.nx : Int) + 1))) := by
  obtain ⟨⟨v, hb, hT, hg⟩, hin, hf⟩ := h
  have hu := (Upto.refl [p] w).setCell (p := ⟨p, 1, none⟩) (Or.inl (by simp)) (.int .i64 ((s.nx : Int) + 1))
  refine ⟨⟨⟨v, ?_, hT.upto hu (fun g o n c e hm => by simp at hm; have := hg g o n c e; omega), hg⟩, hf _ _ (tkAt_some hin) hk, hf⟩, hu⟩
  rw [set_same hb 1]
  rfl
set_option maxRecDepth 100000 in
set_option maxHeartbeats 6400000 in
theorem wrong_calls (w : World) (p k : Nat) (l : List Tok) (s : PS) (h : RdAt w p l s) : Calls Tryz.prog 90 #[.pointer (some ⟨p, 0, none⟩), .int .i64 k] w fun e w' => e = .returned (.tuple #[]) ∧ RdAt w' p l (wrongF k s) ∧ Upto [p] w w' := by
  have HR := Lib.hid h
  obtain ⟨⟨v, hb, hT, hg⟩, hin, hf⟩ := h
  have b2 := cell_of hb 2
  have f2 := free_of hb 2
  unfold rdC at b2
  simp only [List.getElem?_toArray, List.getElem?_cons_zero, List.getElem?_cons_succ] at b2
  by_cases h0 : s.er = 0
  · have h1 : ((s.er : Int) == 0) = true := by simp [h0]
    have hu := (Upto.refl [p] w).setCell (p := ⟨p, 2, none⟩) (Or.inl (by simp)) (.int .i64 k)
    have HN : Hid (RdAt (w.setCell ⟨p, 2, none⟩ (.int .i64 k)) p l (wrongF k s)) := Lib.hid (by
      refine ⟨⟨v, ?_, ?_, hg⟩, by unfold wrongF; rw [if_pos h0]; exact hin, hf⟩
      · have := set_same hb 2 (.int .i64 k)
        rw [this]
        unfold wrongF rdC
        rw [if_pos h0]
        rfl
      · exact hT.upto hu (fun g o n c e hm => by simp at hm; have := hg g o n c e; omega))
    clear hb hT hg h0
    go_enter Tryz.func90, Tryz.ntmps90
    go_wp2_with fail
    exact bodyPost_end (v := .tuple #[]) (by simp [results, Tryz.results90, go_sem]) rfl ⟨rfl, HN.out, hu⟩
  · have h1 : ((s.er : Int) == 0) = false := by rw [beq_eq_false_iff_ne]; omega
    have HN : Hid (RdAt w p l (wrongF k s)) := Lib.hid (by unfold wrongF; rw [if_neg h0]; exact HR.out)
    clear hb hT hg h0
    go_enter Tryz.func90, Tryz.ntmps90
    go_wp2_with fail
    exact bodyPost_end (v := .tuple #[]) (by simp [results, Tryz.results90, go_sem]) rfl ⟨rfl, HN.out, Upto.refl _ _⟩
set_option maxRecDepth 100000 in
set_option maxHeartbeats 6400000 in
theorem is_calls (w : World) (p : Nat) (l : List Tok) (s : PS) (x : List UInt8) (h : RdAt w p l s) : Calls Tryz.prog 133 #[.pointer (some ⟨p, 0, none⟩), .string ⟨x.toArray⟩] w fun e w' => e = .returned (.bool (isF l x s)) ∧ Upto [] w w' := by
  have HN := Lib.hid (next_calls w p l s h)
  obtain ⟨⟨v, hb, -, -⟩, -, -⟩ := h
  generalize ht : tkAt l s = t at HN
  obtain ⟨tk, tt, tv, tl, tc⟩ := t
  by_cases g0 : s.er = 0
  · have k0 : ((s.er : Int) == 0) = true := by simp [g0]
    by_cases g3 : tk = 3
    · have k3 : ((tk : Int) == 3) = true := by simp [g3]
      have g4 : ¬ tk = 4 := by omega
      by_cases gx : tt = x
      · have kx : (tt == x) = true := by simp [gx]
        have HV : Hid (isF l x s = true) := Lib.hid (by unfold isF; rw [ht]; simp [*])
        clear ht g0 g3 g4 gx
        go_enter Tryz.func133, Tryz.ntmps133
        go_wp2_with fail
        refine HN.out.mono ?_
        rintro e w1 ⟨rfl, hu1⟩
        unfold tkA
        have d2 := (((hu1.alloc (.cells #[.int .i64 tk, .string ⟨tt.toArray⟩, .int .i64 tv, .int .i64 tl, .int .i64 tc] 83)).at hb (by simp)))
        have b2 := cell_of d2 2
        unfold rdC at b2
        simp only [List.getElem?_toArray, List.getElem?_cons_zero, List.getElem?_cons_succ] at b2
        have hu2 := hu1.alloc (.cells #[.int .i64 tk, .string ⟨tt.toArray⟩, .int .i64 tv, .int .i64 tl, .int .i64 tc] 83)
        clear d2 hu1
        go_wp2_with fail
        go_ret
        exact ⟨by rw [HV.out]; rfl, hu2⟩
      · have kx : (tt == x) = false := by simp [gx]
        have HV : Hid (isF l x s = false) := Lib.hid (by unfold isF; rw [ht]; simp [*])
        clear ht g0 g3 g4 gx
        go_enter Tryz.func133, Tryz.ntmps133
        go_wp2_with fail
        refine HN.out.mono ?_
        rintro e w1 ⟨rfl, hu1⟩
        unfold tkA
        have d2 := (((hu1.alloc (.cells #[.int .i64 tk, .string ⟨tt.toArray⟩, .int .i64 tv, .int .i64 tl, .int .i64 tc] 83)).at hb (by simp)))
        have b2 := cell_of d2 2
        unfold rdC at b2
        simp only [List.getElem?_toArray, List.getElem?_cons_zero, List.getElem?_cons_succ] at b2
        have hu2 := hu1.alloc (.cells #[.int .i64 tk, .string ⟨tt.toArray⟩, .int .i64 tv, .int .i64 tl, .int .i64 tc] 83)
        clear d2 hu1
        go_wp2_with fail
        go_ret
        exact ⟨by rw [HV.out]; rfl, hu2⟩
    · have k3 : ((tk : Int) == 3) = false := by rw [beq_eq_false_iff_ne]; omega
      by_cases g4 : tk = 4
      · have k4 : ((tk : Int) == 4) = true := by simp [g4]
        by_cases gx : tt = x
        · have kx : (tt == x) = true := by simp [gx]
          have HV : Hid (isF l x s = true) := Lib.hid (by unfold isF; rw [ht]; simp [*])
          clear ht g0 g3 g4 gx
          go_enter Tryz.func133, Tryz.ntmps133
          go_wp2_with fail
          refine HN.out.mono ?_
          rintro e w1 ⟨rfl, hu1⟩
          unfold tkA
          have d2 := (((hu1.alloc (.cells #[.int .i64 tk, .string ⟨tt.toArray⟩, .int .i64 tv, .int .i64 tl, .int .i64 tc] 83)).at hb (by simp)))
          have b2 := cell_of d2 2
          unfold rdC at b2
          simp only [List.getElem?_toArray, List.getElem?_cons_zero, List.getElem?_cons_succ] at b2
          have hu2 := hu1.alloc (.cells #[.int .i64 tk, .string ⟨tt.toArray⟩, .int .i64 tv, .int .i64 tl, .int .i64 tc] 83)
          clear d2 hu1
          go_wp2_with fail
          go_ret
          exact ⟨by rw [HV.out]; rfl, hu2⟩
        · have kx : (tt == x) = false := by simp [gx]
          have HV : Hid (isF l x s = false) := Lib.hid (by unfold isF; rw [ht]; simp [*])
          clear ht g0 g3 g4 gx
          go_enter Tryz.func133, Tryz.ntmps133
          go_wp2_with fail
          refine HN.out.mono ?_
          rintro e w1 ⟨rfl, hu1⟩
          unfold tkA
          have d2 := (((hu1.alloc (.cells #[.int .i64 tk, .string ⟨tt.toArray⟩, .int .i64 tv, .int .i64 tl, .int .i64 tc] 83)).at hb (by simp)))
          have b2 := cell_of d2 2
          unfold rdC at b2
          simp only [List.getElem?_toArray, List.getElem?_cons_zero, List.getElem?_cons_succ] at b2
          have hu2 := hu1.alloc (.cells #[.int .i64 tk, .string ⟨tt.toArray⟩, .int .i64 tv, .int .i64 tl, .int .i64 tc] 83)
          clear d2 hu1
          go_wp2_with fail
          go_ret
          exact ⟨by rw [HV.out]; rfl, hu2⟩
      · have k4 : ((tk : Int) == 4) = false := by rw [beq_eq_false_iff_ne]; omega
        have gx : True := trivial
        have HV : Hid (isF l x s = false) := Lib.hid (by unfold isF; rw [ht]; simp [*])
        clear ht g0 g3 g4 gx
        go_enter Tryz.func133, Tryz.ntmps133
        go_wp2_with fail
        refine HN.out.mono ?_
        rintro e w1 ⟨rfl, hu1⟩
        unfold tkA
        have d2 := (((hu1.alloc (.cells #[.int .i64 tk, .string ⟨tt.toArray⟩, .int .i64 tv, .int .i64 tl, .int .i64 tc] 83)).at hb (by simp)))
        have b2 := cell_of d2 2
        unfold rdC at b2
        simp only [List.getElem?_toArray, List.getElem?_cons_zero, List.getElem?_cons_succ] at b2
        have hu2 := hu1.alloc (.cells #[.int .i64 tk, .string ⟨tt.toArray⟩, .int .i64 tv, .int .i64 tl, .int .i64 tc] 83)
        clear d2 hu1
        go_wp2_with fail
        go_ret
        exact ⟨by rw [HV.out]; rfl, hu2⟩
  · have k0 : ((s.er : Int) == 0) = false := by rw [beq_eq_false_iff_ne]; omega
    have g3 : True := trivial
    have g4 : True := trivial
    have gx : True := trivial
    have HV : Hid (isF l x s = false) := Lib.hid (by unfold isF; rw [ht]; simp [*])
    clear ht g0 g3 g4 gx
    go_enter Tryz.func133, Tryz.ntmps133
    go_wp2_with fail
    refine HN.out.mono ?_
    rintro e w1 ⟨rfl, hu1⟩
    unfold tkA
    have d2 := (((hu1.alloc (.cells #[.int .i64 tk, .string ⟨tt.toArray⟩, .int .i64 tv, .int .i64 tl, .int .i64 tc] 83)).at hb (by simp)))
    have b2 := cell_of d2 2
    unfold rdC at b2
    simp only [List.getElem?_toArray, List.getElem?_cons_zero, List.getElem?_cons_succ] at b2
    have hu2 := hu1.alloc (.cells #[.int .i64 tk, .string ⟨tt.toArray⟩, .int .i64 tv, .int .i64 tl, .int .i64 tc] 83)
    clear d2 hu1
    go_wp2_with fail
    go_ret
    exact ⟨by rw [HV.out]; rfl, hu2⟩
theorem isF_kind {l : List Tok} {x : List UInt8} {s : PS} (h : isF l x s = true) : (tkAt l s).kind ≠ 0 := by
  unfold isF at h
  simp only [Bool.and_eq_true, Bool.or_eq_true, decide_eq_true_eq] at h
  omega
set_option maxRecDepth 100000 in
set_option maxHeartbeats 6400000 in
theorem takes_calls (w : World) (p : Nat) (l : List Tok) (s : PS) (x : List UInt8) (h : RdAt w p l s) (hl : l.length ≤ 1000000) : Calls Tryz.prog 97 #[.pointer (some ⟨p, 0, none⟩), .string ⟨x.toArray⟩] w fun e w' => e = .returned (.bool (isF l x s)) ∧ RdAt w' p l (takesF l x s).2 ∧ Upto [p] w w' := by
  have HC := Lib.hid (is_calls w p l s x h)
  have hin := h.inb
  have HR := Lib.hid h
  cases hv : isF l x s with
  | true =>
    rw [hv] at HC
    have HT : Hid ((takesF l x s).2 = stepF s) := Lib.hid (by unfold takesF; rw [if_pos hv])
    have HK := Lib.hid (isF_kind hv)
    clear h hv
    have hn0 : (0 : Int) ≤ s.nx := by omega
    have hn1 : (s.nx : Int) ≤ 1000000 := by omega
    go_enter Tryz.func97, Tryz.ntmps97
    go_wp2_with fail
    refine HC.out.mono ?_
    rintro e w1 ⟨rfl, hu1⟩
    have hR1 := HR.out.ext hu1
    have HS := Lib.hid (hR1.step HK.out)
    obtain ⟨⟨v, hb, -, -⟩, -, -⟩ := hR1
    have b1 := cell_of hb 1
    have f1 := free_of hb 1
    unfold rdC at b1
    simp only [List.getElem?_toArray, List.getElem?_cons_zero, List.getElem?_cons_succ] at b1
    have HU := Lib.hid hu1
    clear hb hu1
    go_wp2_with fail
    go_ret
    exact ⟨rfl, by rw [HT.out]; exact HS.out.1, (HU.out.mono (by simp)).trans_same HS.out.2⟩
  | false =>
    rw [hv] at HC
    have HT : Hid ((takesF l x s).2 = s) := Lib.hid (by unfold takesF; rw [hv]; rfl)
    clear h hv
    go_enter Tryz.func97, Tryz.ntmps97
    go_wp2_with fail
    refine HC.out.mono ?_
    rintro e w1 ⟨rfl, hu1⟩
    have HU := Lib.hid hu1
    clear hu1
    go_wp2_with fail
    go_ret
    exact ⟨rfl, by rw [HT.out]; exact HR.out.ext HU.out, HU.out.mono (by simp)⟩
set_option maxRecDepth 100000 in
set_option maxHeartbeats 6400000 in
theorem need_calls (w : World) (p : Nat) (l : List Tok) (s : PS) (x : List UInt8) (h : RdAt w p l s) (hl : l.length ≤ 1000000) : Calls Tryz.prog 102 #[.pointer (some ⟨p, 0, none⟩), .string ⟨x.toArray⟩] w fun e w' => e = .returned (.tuple #[]) ∧ RdAt w' p l (needF l x s) ∧ Upto [p] w w' := by
  have HC := Lib.hid (takes_calls w p l s x h hl)
  cases hv : isF l x s with
  | true =>
    rw [hv] at HC
    have HT : Hid ((takesF l x s).2 = needF l x s) := Lib.hid (by unfold takesF needF; rw [if_pos hv, if_pos hv])
    clear h hv
    go_enter Tryz.func102, Tryz.ntmps102
    go_wp2_with fail
    refine HC.out.mono ?_
    rintro e w1 ⟨rfl, hR1, hu1⟩
    rw [HT.out] at hR1
    have HU := Lib.hid hu1
    have HR := Lib.hid hR1
    clear hu1 hR1
    go_wp2_with fail
    exact bodyPost_end (v := .tuple #[]) (by simp [results, Tryz.results102, go_sem]) rfl ⟨rfl, HR.out, HU.out⟩
  | false =>
    rw [hv] at HC
    have HT : Hid ((takesF l x s).2 = s ∧ needF l x s = wrongF 3 s) := Lib.hid (by unfold takesF needF; rw [hv]; exact ⟨rfl, rfl⟩)
    have HW := Lib.hid (fun w h => wrong_calls w p 3 l s h)
    clear h hv
    go_enter Tryz.func102, Tryz.ntmps102
    go_wp2_with fail
    refine HC.out.mono ?_
    rintro e w1 ⟨rfl, hR1, hu1⟩
    rw [HT.out.1] at hR1
    have HU := Lib.hid hu1
    have HR := Lib.hid hR1
    clear hu1 hR1
    go_wp2_with fail
    refine (HW.out w1 HR.out).mono ?_
    rintro e w2 ⟨rfl, hR2, hu2⟩
    have HR2 := Lib.hid hR2
    have HU2 := Lib.hid (HU.out.trans_same hu2)
    clear hR2 hu2
    go_wp2_with fail
    exact bodyPost_end (v := .tuple #[]) (by simp [results, Tryz.results102, go_sem]) rfl ⟨rfl, by rw [HT.out.2]; exact HR2.out, HU2.out⟩
theorem wrongF_er (k : Nat) (hk : k ≠ 0) (s : PS) : (wrongF k s).er ≠ 0 := by
  unfold wrongF
  split
  · exact hk
  · assumption
set_option maxRecDepth 100000 in
set_option maxHeartbeats 6400000 in
theorem name_calls (w : World) (p : Nat) (l : List Tok) (s : PS) (h : RdAt w p l s) (hl : l.length ≤ 1000000) : Calls Tryz.prog 101 #[.pointer (some ⟨p, 0, none⟩)] w fun e w' => e = .returned (.string ⟨(identR l s).1.toArray⟩) ∧ RdAt w' p l (identR l s).2 ∧ Upto [p] w w' := by
  have HN := Lib.hid (next_calls w p l s h)
  have hin := h.inb
  have HR := Lib.hid h
  clear h
  generalize ht : tkAt l s = t at HN
  obtain ⟨tk, tt, tv, tl, tc⟩ := t
  have hn0 : (0 : Int) ≤ s.nx := by omega
  have hn1 : (s.nx : Int) ≤ 1000000 := by omega
  by_cases g1 : tk = 1
  · have k1 : ((tk : Int) == 1) = true := by simp [g1]
    have k2 : ((tk : Int) != 1) = false := by rw [bne, k1]; rfl
    by_cases g0 : s.er = 0
    · have k0 : ((s.er : Int) == 0) = true := by simp [g0]
      have k3 : ((s.er : Int) != 0) = false := by rw [bne, k0]; rfl
      have HV : Hid (identR l s = (tt, stepF s)) := Lib.hid (by unfold identR; rw [ht]; simp [g1, g0])
      have HK : Hid ((tkAt l s).kind ≠ 0) := Lib.hid (by rw [ht]; simp [g1])
      clear ht g1 g0
      go_enter Tryz.func101, Tryz.ntmps101
      go_wp2_with fail
      refine HN.out.mono ?_
      rintro e w1 ⟨rfl, hu1⟩
      unfold tkA
      go_upto_region 2 with fail
      have hR2 := HR.out.ext (hu1.alloc (.cells #[.int .i64 tk, .string ⟨tt.toArray⟩, .int .i64 tv, .int .i64 tl, .int .i64 tc] 83))
      have hu2 := hu1.alloc (.cells #[.int .i64 tk, .string ⟨tt.toArray⟩, .int .i64 tv, .int .i64 tl, .int .i64 tc] 83)
      have hx2 := new_at w1 (.cells #[.int .i64 tk, .string ⟨tt.toArray⟩, .int .i64 tv, .int .i64 tl, .int .i64 tc] 83)
      clear hu1
      generalize w1.alloc (.cells #[.int .i64 tk, .string ⟨tt.toArray⟩, .int .i64 tv, .int .i64 tl, .int .i64 tc] 83) = W2 at *
      generalize w1.heap.size = B at *
      obtain ⟨⟨v, hb, -, -⟩, -, -⟩ := id hR2
      have b1 := cell_of hb 1
      have b2 := cell_of hb 2
      have f1 := free_of hb 1
      have x0 := cell_of hx2 0
      have x1 := cell_of hx2 1
      unfold rdC at b1 b2
      simp only [List.getElem?_toArray, List.getElem?_cons_zero, List.getElem?_cons_succ] at b1 b2 x0 x1
      have HS := Lib.hid (hR2.step HK.out)
      have HU := Lib.hid hu2
      have hBp : B ≠ p := fun h => by subst h; rw [hx2] at hb; simp [rdC] at hb
      have x1' := ((hR2.step HK.out).2.cell (p := ⟨B, 1, none⟩) (World.block_lt_of_cell? W2 _ x1) (by simpa using hBp)).trans x1
      clear hR2 hu2 hb hx2
      go_wp2_with fail
      go_ret
      exact ⟨by rw [HV.out]; rfl, by rw [HV.out]; exact HS.out.1, (HU.out.mono (by simp)).trans_same HS.out.2⟩
    · have k0 : ((s.er : Int) == 0) = false := by rw [beq_eq_false_iff_ne]; omega
      have k3 : ((s.er : Int) != 0) = true := by rw [bne, k0]; rfl
      have HV : Hid (identR l s = ([], s)) := Lib.hid (by unfold identR; rw [ht]; simp [g1, g0])
      clear ht g1 g0
      go_enter Tryz.func101, Tryz.ntmps101
      go_wp2_with fail
      refine HN.out.mono ?_
      rintro e w1 ⟨rfl, hu1⟩
      unfold tkA
      go_upto_region 2 with fail
      have hR2 := HR.out.ext (hu1.alloc (.cells #[.int .i64 tk, .string ⟨tt.toArray⟩, .int .i64 tv, .int .i64 tl, .int .i64 tc] 83))
      have hu2 := hu1.alloc (.cells #[.int .i64 tk, .string ⟨tt.toArray⟩, .int .i64 tv, .int .i64 tl, .int .i64 tc] 83)
      have hx2 := new_at w1 (.cells #[.int .i64 tk, .string ⟨tt.toArray⟩, .int .i64 tv, .int .i64 tl, .int .i64 tc] 83)
      clear hu1
      generalize w1.alloc (.cells #[.int .i64 tk, .string ⟨tt.toArray⟩, .int .i64 tv, .int .i64 tl, .int .i64 tc] 83) = W2 at *
      generalize w1.heap.size = B at *
      obtain ⟨⟨v, hb, -, -⟩, -, -⟩ := id hR2
      have b1 := cell_of hb 1
      have b2 := cell_of hb 2
      have f1 := free_of hb 1
      have x0 := cell_of hx2 0
      have x1 := cell_of hx2 1
      unfold rdC at b1 b2
      simp only [List.getElem?_toArray, List.getElem?_cons_zero, List.getElem?_cons_succ] at b1 b2 x0 x1
      have HU := Lib.hid hu2
      have HR2 := Lib.hid hR2
      clear hR2 hu2 hb hx2
      go_wp2_with fail
      go_ret
      exact ⟨by rw [HV.out]; rfl, by rw [HV.out]; exact HR2.out, HU.out.mono (by simp)⟩
  · have k1 : ((tk : Int) == 1) = false := by rw [beq_eq_false_iff_ne]; omega
    have k2 : ((tk : Int) != 1) = true := by rw [bne, k1]; rfl
    have hw0 := wrongF_er 3 (by decide) s
    have k0 : (((wrongF 3 s).er : Int) == 0) = false := by rw [beq_eq_false_iff_ne]; omega
    have k3 : (((wrongF 3 s).er : Int) != 0) = true := by rw [bne, k0]; rfl
    have HV : Hid (identR l s = ([], wrongF 3 s)) := Lib.hid (by unfold identR; rw [ht]; simp [g1, hw0])
    clear ht g1 hw0
    go_enter Tryz.func101, Tryz.ntmps101
    go_wp2_with fail
    refine HN.out.mono ?_
    rintro e w1 ⟨rfl, hu1⟩
    unfold tkA
    go_upto_region 2 with fail
    have hR2 := HR.out.ext (hu1.alloc (.cells #[.int .i64 tk, .string ⟨tt.toArray⟩, .int .i64 tv, .int .i64 tl, .int .i64 tc] 83))
    have hu2 := hu1.alloc (.cells #[.int .i64 tk, .string ⟨tt.toArray⟩, .int .i64 tv, .int .i64 tl, .int .i64 tc] 83)
    have hx2 := new_at w1 (.cells #[.int .i64 tk, .string ⟨tt.toArray⟩, .int .i64 tv, .int .i64 tl, .int .i64 tc] 83)
    clear hu1
    generalize w1.alloc (.cells #[.int .i64 tk, .string ⟨tt.toArray⟩, .int .i64 tv, .int .i64 tl, .int .i64 tc] 83) = W2 at *
    generalize w1.heap.size = B at *
    obtain ⟨⟨v, hb, -, -⟩, -, -⟩ := id hR2
    have b1 := cell_of hb 1
    have b2 := cell_of hb 2
    have f1 := free_of hb 1
    have x0 := cell_of hx2 0
    have x1 := cell_of hx2 1
    unfold rdC at b1 b2
    simp only [List.getElem?_toArray, List.getElem?_cons_zero, List.getElem?_cons_succ] at b1 b2 x0 x1
    have HU := Lib.hid hu2
    have HR2 := Lib.hid hR2
    clear hR2 hu2 hb hx2 b1 b2 f1
    go_wp2_with fail
    refine (wrong_calls W2 p 3 l s HR2.out).mono ?_
    rintro e w3 ⟨rfl, hR3, hu3⟩
    obtain ⟨⟨v3, hb3, -, -⟩, -, -⟩ := id hR3
    have b3 := cell_of hb3 2
    unfold rdC at b3
    simp only [List.getElem?_toArray, List.getElem?_cons_zero, List.getElem?_cons_succ] at b3
    have HR3 := Lib.hid hR3
    have HU3 := Lib.hid ((HU.out.mono (by simp)).trans_same hu3)
    clear hR3 hu3 hb3 x0 x1
    go_wp2_with fail
    go_ret
    exact ⟨by rw [HV.out]; rfl, by rw [HV.out]; exact HR3.out, HU3.out⟩
set_option maxRecDepth 100000 in
set_option maxHeartbeats 6400000 in
theorem number_callsP (w : World) (p : Nat) (a z : Int) (l : List Tok) (s : PS) (h : RdAt w p l s) (hl : l.length ≤ 1000000) : Calls Tryz.prog 173 #[.pointer (some ⟨p, 0, none⟩), .int .i64 a, .int .i64 z] w fun e w' => e = .returned (.int .i64 (numberP l a z s).1) ∧ RdAt w' p l (numberP l a z s).2 ∧ Upto [p] w w' := by
  have HN := Lib.hid (next_calls w p l s h)
  have hin := h.inb
  have HR := Lib.hid h
  clear h
  generalize ht : tkAt l s = t at HN
  obtain ⟨tk, tt, tv, tl, tc⟩ := t
  have hn0 : (0 : Int) ≤ s.nx := by omega
  have hn1 : (s.nx : Int) ≤ 1000000 := by omega
  by_cases g1 : tk = 2
  · have k1 : ((tk : Int) == 2) = true := by simp [g1]
    have k2 : ((tk : Int) != 2) = false := by rw [bne, k1]; rfl
    by_cases ga : (tv : Int) < a
    · have hw0 := wrongF_er 2 (by decide) s
      have k0 : (((wrongF 2 s).er : Int) == 0) = false := by rw [beq_eq_false_iff_ne]; omega
      have k3 : (((wrongF 2 s).er : Int) != 0) = true := by rw [bne, k0]; rfl
      have HV : Hid (numberP l a z s = (0, wrongF 2 s)) := Lib.hid (by unfold numberP; rw [ht]; simp [g1, hw0, ga])
      clear ht g1 hw0
      go_enter Tryz.func173, Tryz.ntmps173
      go_wp2_with fail
      refine HN.out.mono ?_
      rintro e w1 ⟨rfl, hu1⟩
      unfold tkA
      go_upto_region 2 with fail
      have hR2 := HR.out.ext (hu1.alloc (.cells #[.int .i64 tk, .string ⟨tt.toArray⟩, .int .i64 tv, .int .i64 tl, .int .i64 tc] 83))
      have hu2 := hu1.alloc (.cells #[.int .i64 tk, .string ⟨tt.toArray⟩, .int .i64 tv, .int .i64 tl, .int .i64 tc] 83)
      have hx2 := new_at w1 (.cells #[.int .i64 tk, .string ⟨tt.toArray⟩, .int .i64 tv, .int .i64 tl, .int .i64 tc] 83)
      clear hu1
      generalize w1.alloc (.cells #[.int .i64 tk, .string ⟨tt.toArray⟩, .int .i64 tv, .int .i64 tl, .int .i64 tc] 83) = W2 at *
      generalize w1.heap.size = B at *
      obtain ⟨⟨v, hb, -, -⟩, -, -⟩ := id hR2
      have b1 := cell_of hb 1
      have b2 := cell_of hb 2
      have f1 := free_of hb 1
      have x0 := cell_of hx2 0
      have x1 := cell_of hx2 2
      unfold rdC at b1 b2
      simp only [List.getElem?_toArray, List.getElem?_cons_zero, List.getElem?_cons_succ] at b1 b2 x0 x1
      have HU := Lib.hid hu2
      have HR2 := Lib.hid hR2
      clear hR2 hu2 hb hx2 b1 b2 f1
      go_wp2_with fail
      refine (wrong_calls W2 p 2 l s HR2.out).mono ?_
      rintro e w3 ⟨rfl, hR3, hu3⟩
      obtain ⟨⟨v3, hb3, -, -⟩, -, -⟩ := id hR3
      have b3 := cell_of hb3 2
      unfold rdC at b3
      simp only [List.getElem?_toArray, List.getElem?_cons_zero, List.getElem?_cons_succ] at b3
      have HR3 := Lib.hid hR3
      have HU3 := Lib.hid ((HU.out.mono (by simp)).trans_same hu3)
      clear hR3 hu3 hb3 x0 x1
      go_wp2_with fail
      go_ret
      exact ⟨by rw [HV.out]; rfl, by rw [HV.out]; exact HR3.out, HU3.out⟩
    · by_cases gz : z < (tv : Int)
      · have hw0 := wrongF_er 2 (by decide) s
        have k0 : (((wrongF 2 s).er : Int) == 0) = false := by rw [beq_eq_false_iff_ne]; omega
        have k3 : (((wrongF 2 s).er : Int) != 0) = true := by rw [bne, k0]; rfl
        have HV : Hid (numberP l a z s = (0, wrongF 2 s)) := Lib.hid (by unfold numberP; rw [ht]; simp [g1, hw0, gz])
        clear ht g1 hw0
        go_enter Tryz.func173, Tryz.ntmps173
        go_wp2_with fail
        refine HN.out.mono ?_
        rintro e w1 ⟨rfl, hu1⟩
        unfold tkA
        go_upto_region 2 with fail
        have hR2 := HR.out.ext (hu1.alloc (.cells #[.int .i64 tk, .string ⟨tt.toArray⟩, .int .i64 tv, .int .i64 tl, .int .i64 tc] 83))
        have hu2 := hu1.alloc (.cells #[.int .i64 tk, .string ⟨tt.toArray⟩, .int .i64 tv, .int .i64 tl, .int .i64 tc] 83)
        have hx2 := new_at w1 (.cells #[.int .i64 tk, .string ⟨tt.toArray⟩, .int .i64 tv, .int .i64 tl, .int .i64 tc] 83)
        clear hu1
        generalize w1.alloc (.cells #[.int .i64 tk, .string ⟨tt.toArray⟩, .int .i64 tv, .int .i64 tl, .int .i64 tc] 83) = W2 at *
        generalize w1.heap.size = B at *
        obtain ⟨⟨v, hb, -, -⟩, -, -⟩ := id hR2
        have b1 := cell_of hb 1
        have b2 := cell_of hb 2
        have f1 := free_of hb 1
        have x0 := cell_of hx2 0
        have x1 := cell_of hx2 2
        unfold rdC at b1 b2
        simp only [List.getElem?_toArray, List.getElem?_cons_zero, List.getElem?_cons_succ] at b1 b2 x0 x1
        have HU := Lib.hid hu2
        have HR2 := Lib.hid hR2
        clear hR2 hu2 hb hx2 b1 b2 f1
        go_wp2_with fail
        refine (wrong_calls W2 p 2 l s HR2.out).mono ?_
        rintro e w3 ⟨rfl, hR3, hu3⟩
        obtain ⟨⟨v3, hb3, -, -⟩, -, -⟩ := id hR3
        have b3 := cell_of hb3 2
        unfold rdC at b3
        simp only [List.getElem?_toArray, List.getElem?_cons_zero, List.getElem?_cons_succ] at b3
        have HR3 := Lib.hid hR3
        have HU3 := Lib.hid ((HU.out.mono (by simp)).trans_same hu3)
        clear hR3 hu3 hb3 x0 x1
        go_wp2_with fail
        go_ret
        exact ⟨by rw [HV.out]; rfl, by rw [HV.out]; exact HR3.out, HU3.out⟩
      · by_cases g0 : s.er = 0
        · have k0 : ((s.er : Int) == 0) = true := by simp [g0]
          have k3 : ((s.er : Int) != 0) = false := by rw [bne, k0]; rfl
          have HV : Hid (numberP l a z s = ((tv : Int), stepF s)) := Lib.hid (by unfold numberP; rw [ht]; simp [g1, g0, ga, gz])
          have HK : Hid ((tkAt l s).kind ≠ 0) := Lib.hid (by rw [ht]; simp [g1])
          clear ht g1 g0
          go_enter Tryz.func173, Tryz.ntmps173
          go_wp2_with fail
          refine HN.out.mono ?_
          rintro e w1 ⟨rfl, hu1⟩
          unfold tkA
          go_upto_region 2 with fail
          have hR2 := HR.out.ext (hu1.alloc (.cells #[.int .i64 tk, .string ⟨tt.toArray⟩, .int .i64 tv, .int .i64 tl, .int .i64 tc] 83))
          have hu2 := hu1.alloc (.cells #[.int .i64 tk, .string ⟨tt.toArray⟩, .int .i64 tv, .int .i64 tl, .int .i64 tc] 83)
          have hx2 := new_at w1 (.cells #[.int .i64 tk, .string ⟨tt.toArray⟩, .int .i64 tv, .int .i64 tl, .int .i64 tc] 83)
          clear hu1
          generalize w1.alloc (.cells #[.int .i64 tk, .string ⟨tt.toArray⟩, .int .i64 tv, .int .i64 tl, .int .i64 tc] 83) = W2 at *
          generalize w1.heap.size = B at *
          obtain ⟨⟨v, hb, -, -⟩, -, -⟩ := id hR2
          have b1 := cell_of hb 1
          have b2 := cell_of hb 2
          have f1 := free_of hb 1
          have x0 := cell_of hx2 0
          have x1 := cell_of hx2 2
          unfold rdC at b1 b2
          simp only [List.getElem?_toArray, List.getElem?_cons_zero, List.getElem?_cons_succ] at b1 b2 x0 x1
          have HS := Lib.hid (hR2.step HK.out)
          have HU := Lib.hid hu2
          have hBp : B ≠ p := fun h => by subst h; rw [hx2] at hb; simp [rdC] at hb
          have x1' := ((hR2.step HK.out).2.cell (p := ⟨B, 2, none⟩) (World.block_lt_of_cell? W2 _ x1) (by simpa using hBp)).trans x1
          clear hR2 hu2 hb hx2
          go_wp2_with fail
          go_ret
          exact ⟨by rw [HV.out]; rfl, by rw [HV.out]; exact HS.out.1, (HU.out.mono (by simp)).trans_same HS.out.2⟩
        · have k0 : ((s.er : Int) == 0) = false := by rw [beq_eq_false_iff_ne]; omega
          have k3 : ((s.er : Int) != 0) = true := by rw [bne, k0]; rfl
          have HV : Hid (numberP l a z s = (0, s)) := Lib.hid (by unfold numberP; rw [ht]; simp [g1, g0, ga, gz])
          clear ht g1 g0
          go_enter Tryz.func173, Tryz.ntmps173
          go_wp2_with fail
          refine HN.out.mono ?_
          rintro e w1 ⟨rfl, hu1⟩
          unfold tkA
          go_upto_region 2 with fail
          have hR2 := HR.out.ext (hu1.alloc (.cells #[.int .i64 tk, .string ⟨tt.toArray⟩, .int .i64 tv, .int .i64 tl, .int .i64 tc] 83))
          have hu2 := hu1.alloc (.cells #[.int .i64 tk, .string ⟨tt.toArray⟩, .int .i64 tv, .int .i64 tl, .int .i64 tc] 83)
          have hx2 := new_at w1 (.cells #[.int .i64 tk, .string ⟨tt.toArray⟩, .int .i64 tv, .int .i64 tl, .int .i64 tc] 83)
          clear hu1
          generalize w1.alloc (.cells #[.int .i64 tk, .string ⟨tt.toArray⟩, .int .i64 tv, .int .i64 tl, .int .i64 tc] 83) = W2 at *
          generalize w1.heap.size = B at *
          obtain ⟨⟨v, hb, -, -⟩, -, -⟩ := id hR2
          have b1 := cell_of hb 1
          have b2 := cell_of hb 2
          have f1 := free_of hb 1
          have x0 := cell_of hx2 0
          have x1 := cell_of hx2 2
          unfold rdC at b1 b2
          simp only [List.getElem?_toArray, List.getElem?_cons_zero, List.getElem?_cons_succ] at b1 b2 x0 x1
          have HU := Lib.hid hu2
          have HR2 := Lib.hid hR2
          clear hR2 hu2 hb hx2
          go_wp2_with fail
          go_ret
          exact ⟨by rw [HV.out]; rfl, by rw [HV.out]; exact HR2.out, HU.out.mono (by simp)⟩
  · have k1 : ((tk : Int) == 2) = false := by rw [beq_eq_false_iff_ne]; omega
    have k2 : ((tk : Int) != 2) = true := by rw [bne, k1]; rfl
    have hw0 := wrongF_er 3 (by decide) s
    have k0 : (((wrongF 3 s).er : Int) == 0) = false := by rw [beq_eq_false_iff_ne]; omega
    have k3 : (((wrongF 3 s).er : Int) != 0) = true := by rw [bne, k0]; rfl
    have HV : Hid (numberP l a z s = (0, wrongF 3 s)) := Lib.hid (by unfold numberP; rw [ht]; simp [g1, hw0])
    clear ht g1 hw0
    go_enter Tryz.func173, Tryz.ntmps173
    go_wp2_with fail
    refine HN.out.mono ?_
    rintro e w1 ⟨rfl, hu1⟩
    unfold tkA
    go_upto_region 2 with fail
    have hR2 := HR.out.ext (hu1.alloc (.cells #[.int .i64 tk, .string ⟨tt.toArray⟩, .int .i64 tv, .int .i64 tl, .int .i64 tc] 83))
    have hu2 := hu1.alloc (.cells #[.int .i64 tk, .string ⟨tt.toArray⟩, .int .i64 tv, .int .i64 tl, .int .i64 tc] 83)
    have hx2 := new_at w1 (.cells #[.int .i64 tk, .string ⟨tt.toArray⟩, .int .i64 tv, .int .i64 tl, .int .i64 tc] 83)
    clear hu1
    generalize w1.alloc (.cells #[.int .i64 tk, .string ⟨tt.toArray⟩, .int .i64 tv, .int .i64 tl, .int .i64 tc] 83) = W2 at *
    generalize w1.heap.size = B at *
    obtain ⟨⟨v, hb, -, -⟩, -, -⟩ := id hR2
    have b1 := cell_of hb 1
    have b2 := cell_of hb 2
    have f1 := free_of hb 1
    have x0 := cell_of hx2 0
    have x1 := cell_of hx2 2
    unfold rdC at b1 b2
    simp only [List.getElem?_toArray, List.getElem?_cons_zero, List.getElem?_cons_succ] at b1 b2 x0 x1
    have HU := Lib.hid hu2
    have HR2 := Lib.hid hR2
    clear hR2 hu2 hb hx2 b1 b2 f1
    go_wp2_with fail
    refine (wrong_calls W2 p 3 l s HR2.out).mono ?_
    rintro e w3 ⟨rfl, hR3, hu3⟩
    obtain ⟨⟨v3, hb3, -, -⟩, -, -⟩ := id hR3
    have b3 := cell_of hb3 2
    unfold rdC at b3
    simp only [List.getElem?_toArray, List.getElem?_cons_zero, List.getElem?_cons_succ] at b3
    have HR3 := Lib.hid hR3
    have HU3 := Lib.hid ((HU.out.mono (by simp)).trans_same hu3)
    clear hR3 hu3 hb3 x0 x1
    go_wp2_with fail
    go_ret
    exact ⟨by rw [HV.out]; rfl, by rw [HV.out]; exact HR3.out, HU3.out⟩
end Go.Proofs.YtkhbpebpljdifaaGreatDoor
namespace Go.Proofs.YtkhbpebpljdifaaGreatDoor
open Go.PL
mutual
def sizeF : Nd → Nat
  | .mk _ _ _ _ _ l => 1 + sizesF l
def sizesF : List Nd → Nat
  | [] => 0
  | x :: xs => sizeF x + sizesF xs
end
mutual
def depthF : Nd → Nat
  | .mk _ _ _ _ _ l => depthsF l + 1
def depthsF : List Nd → Nat
  | [] => 0
  | x :: xs => max (depthF x) (depthsF xs)
end
theorem sizesF_append (a b : List Nd) : sizesF (a ++ b) = sizesF a + sizesF b := by
  induction a with
  | nil => simp [sizesF]
  | cons x xs ih => simp [sizesF, ih, Nat.add_assoc]
theorem sizeF_zero : sizeF .zero = 1 := by simp [Nd.zero, sizeF, sizesF]
def Fin (l : List Tok) : Prop := ∀ i t, l[i]? = some t → t.kind ≠ 0 → i + 1 < l.length
structure Adv (l : List Tok) (s s' : PS) : Prop where
  le : s.nx ≤ s'.nx
  lt : s'.nx < l.length
  dp : s'.dp = s.dp
theorem tk_some {l : List Tok} {s : PS} (h : s.nx < l.length) : l[s.nx]? = some (tkAt l s) := by
  unfold tkAt
  rw [List.getD_eq_getElem?_getD, List.getElem?_eq_getElem h]
  rfl
theorem Adv.refl {l : List Tok} {s : PS} (h : s.nx < l.length) : Adv l s s := ⟨Nat.le_refl _, h, rfl⟩
theorem Adv.trans {l : List Tok} {a b c : PS} (h : Adv l a b) (k : Adv l b c) : Adv l a c := ⟨Nat.le_trans h.le k.le, k.lt, k.dp.trans h.dp⟩
theorem wrongF_nx (k : Nat) (s : PS) : (wrongF k s).nx = s.nx := by unfold wrongF; split <;> rfl
theorem wrongF_dp (k : Nat) (s : PS) : (wrongF k s).dp = s.dp := by unfold wrongF; split <;> rfl
theorem wrongF_pos {k : Nat} (hk : k ≠ 0) (s : PS) : (wrongF k s).er ≠ 0 := by
  unfold wrongF
  split
  · exact hk
  · assumption
theorem Adv.wrong {l : List Tok} {s : PS} (h : s.nx < l.length) (k : Nat) : Adv l s (wrongF k s) := ⟨by rw [wrongF_nx]; exact Nat.le_refl _, by rw [wrongF_nx]; exact h, wrongF_dp _ _⟩
theorem isF_er {l : List Tok} {x : List UInt8} {s : PS} (h : isF l x s = true) : s.er = 0 := by
  unfold isF at h
  simp only [Bool.and_eq_true, decide_eq_true_eq] at h
  exact h.1.1
theorem isF_ne {l : List Tok} {x : List UInt8} {s : PS} (h : isF l x s = true) : (tkAt l s).kind ≠ 0 := by
  unfold isF at h
  simp only [Bool.and_eq_true, Bool.or_eq_true, decide_eq_true_eq] at h
  omega
theorem step_lt {l : List Tok} (hf : Fin l) {s : PS} (h : s.nx < l.length) (hk : (tkAt l s).kind ≠ 0) : (stepF s).nx < l.length := hf _ _ (tk_some h) hk
theorem Adv.step {l : List Tok} (hf : Fin l) {s : PS} (h : s.nx < l.length) (hk : (tkAt l s).kind ≠ 0) : Adv l s (stepF s) := ⟨Nat.le_succ _, step_lt hf h hk, rfl⟩
section
variable {l : List Tok} (hf : Fin l)
include hf
theorem needF_adv {x : List UInt8} {s : PS} (h : s.nx < l.length) : Adv l s (needF l x s) := by
  unfold needF
  split
  · exact Adv.step hf h (isF_ne (by assumption))
  · exact Adv.wrong h 3
theorem identR_adv {s : PS} (h : s.nx < l.length) : Adv l s (identR l s).2 ∧ ((identR l s).2.er = 0 → s.nx + 1 ≤ (identR l s).2.nx) := by
  unfold identR
  by_cases hk : (tkAt l s).kind = 1
  · simp only [if_pos hk]
    by_cases he : s.er = 0
    · simp only [if_pos he]
      exact ⟨Adv.step hf h (by omega), fun _ => Nat.le_refl _⟩
    · simp only [if_neg he]
      exact ⟨Adv.refl h, fun h => absurd h he⟩
  · simp only [if_neg hk, if_neg (wrongF_pos (by decide : (3 : Nat) ≠ 0) s)]
    exact ⟨Adv.wrong h 3, fun h => absurd h (wrongF_pos (by decide) s)⟩
theorem numberP_adv {a z : Int} {s : PS} (h : s.nx < l.length) : Adv l s (numberP l a z s).2 := by
  unfold numberP
  by_cases hk : (tkAt l s).kind = 2
  · simp only [if_pos hk]
    by_cases hr : ((tkAt l s).val : Int) < a ∨ z < (tkAt l s).val
    · simp only [if_pos hr, if_neg (wrongF_pos (by decide : (2 : Nat) ≠ 0) s)]
      exact Adv.wrong h 2
    · simp only [if_neg hr]
      by_cases he : s.er = 0
      · simp only [if_pos he]
        exact Adv.step hf h (by omega)
      · simp only [if_neg he]
        exact Adv.refl h
  · simp only [if_neg hk, if_neg (wrongF_pos (by decide : (3 : Nat) ≠ 0) s)]
    exact Adv.wrong h 3
omit hf in
theorem firstF_is {s : PS} : ∀ (xs : List (List UInt8)) (i j : Nat), firstF l s xs i = some j → (tkAt l s).kind ≠ 0
  | [], i, j, h => by cases h
  | x :: xs, i, j, h => by
    unfold firstF at h
    split at h
    · exact isF_ne (by assumption)
    · exact firstF_is xs _ _ h
theorem sortP_adv {s : PS} (h : s.nx < l.length) : Adv l s (sortP l s).2 := by
  unfold sortP
  split
  · exact Adv.step hf h (firstF_is _ _ _ (by assumption))
  · exact Adv.wrong h 3
def RdOk (l : List Tok) (D : Nat) (of : Rd) : Prop := ∀ s : PS, s.dp = D → s.nx < l.length → ∃ n s', of s = some (n, s') ∧ Adv l s s' ∧ sizeF n ≤ 2 * (s'.nx - s.nx) + 1
theorem leftLoop_ok {D : Nat} {of : Rd} (ho : RdOk l D of) (x : List UInt8) (op : Int) : ∀ (k : Nat) (n : Nd) (s : PS), s.dp = D → s.nx < l.length → l.length - s.nx < k →
    ∃ n' s', leftLoop l x op of k n s = some (n', s') ∧ Adv l s s' ∧ sizeF n' ≤ sizeF n + 2 * (s'.nx - s.nx)
  | 0, n, s, _, _, h => by omega
  | k + 1, n, s, hd, hn, hk => by
    unfold leftLoop
    by_cases hi : isF l x s = true
    · rw [if_pos hi]
      have h1 := Adv.step hf hn (isF_ne hi)
      obtain ⟨m, s2, e2, a2, z2⟩ := ho (stepF s) hd h1.lt
      have hle := a2.le
      have hs : (stepF s).nx = s.nx + 1 := rfl
      obtain ⟨n', s', e3, a3, z3⟩ := leftLoop_ok ho x op k (.mk op [] 0 0 0 [n, m]) s2 (a2.dp.trans hd) a2.lt (by omega)
      refine ⟨n', s', by rw [e2]; exact e3, h1.trans (a2.trans a3), ?_⟩
      have hle3 := a3.le
      simp only [sizeF, sizesF] at z3
      omega
    · rw [if_neg hi]
      exact ⟨n, s, rfl, Adv.refl hn, by omega⟩
theorem leftP_ok {D : Nat} {of : Rd} (ho : RdOk l D of) (x : List UInt8) (op : Int) : RdOk l D (leftP l x op of) := by
  intro s hd hn
  obtain ⟨n, s1, e1, a1, z1⟩ := ho s hd hn
  obtain ⟨n', s', e2, a2, z2⟩ := leftLoop_ok hf ho x op (l.length + 1) n s1 (a1.dp.trans hd) a1.lt (by omega)
  have := a1.le
  have := a2.le
  exact ⟨n', s', by unfold leftP; rw [e1]; exact e2, a1.trans a2, by omega⟩
theorem implLoop_ok {D : Nat} {of : Rd} (ho : RdOk l D of) : ∀ (k : Nat) (acc : List Nd) (s : PS), acc ≠ [] → s.dp = D → s.nx < l.length → l.length - s.nx < k →
    ∃ a s', implLoop l of k acc s = some (a, s') ∧ a ≠ [] ∧ Adv l s s' ∧ sizesF a + a.length ≤ sizesF acc + acc.length + 2 * (s'.nx - s.nx)
  | 0, n, s, _, _, _, h => by omega
  | k + 1, acc, s, hne, hd, hn, hk => by
    unfold implLoop
    by_cases hi : isF l [105, 109, 112, 108, 105, 101, 115] s = true
    · rw [if_pos hi]
      have h1 := Adv.step hf hn (isF_ne hi)
      obtain ⟨m, s2, e2, a2, z2⟩ := ho (stepF s) hd h1.lt
      have hle := a2.le
      have hs : (stepF s).nx = s.nx + 1 := rfl
      obtain ⟨n', s', e3, hne3, a3, z3⟩ := implLoop_ok ho k (acc ++ [m]) s2 (by simp) (a2.dp.trans hd) a2.lt (by omega)
      refine ⟨n', s', by rw [e2]; exact e3, hne3, h1.trans (a2.trans a3), ?_⟩
      have hle3 := a3.le
      rw [sizesF_append] at z3
      simp only [sizesF, List.length_append, List.length_cons, List.length_nil] at z3
      omega
    · rw [if_neg hi]
      exact ⟨acc, s, rfl, hne, Adv.refl hn, by omega⟩
omit hf in
theorem implFold_size : ∀ (a : List Nd), a ≠ [] → sizeF (implFold a) + 1 ≤ sizesF a + a.length
  | [], h => absurd rfl h
  | [n], _ => by simp [implFold, sizesF]
  | x :: y :: r, _ => by
    have := implFold_size (y :: r) (by simp)
    simp only [implFold, sizeF, sizesF, List.length_cons] at this ⊢
    omega
theorem impliesP_ok {D : Nat} {of : Rd} (ho : RdOk l D of) : RdOk l D (impliesP l of) := by
  have hor : RdOk l D (orsP l of) := leftP_ok hf (leftP_ok hf ho _ _) _ _
  intro s hd hn
  obtain ⟨n, s1, e1, a1, z1⟩ := hor s hd hn
  obtain ⟨a, s', e2, hne, a2, z2⟩ := implLoop_ok hf hor (l.length + 1) [n] s1 (by simp) (a1.dp.trans hd) a1.lt (by omega)
  have := a1.le
  have := a2.le
  have := implFold_size a hne
  simp only [sizesF, List.length_cons, List.length_nil] at z2
  exact ⟨implFold a, s', by unfold impliesP; rw [e1]; simp only [Option.bind_some]; rw [e2]; rfl, a1.trans a2, by omega⟩
theorem formulaP_ok {D : Nat} {of : Rd} (ho : RdOk l D of) : RdOk l D (formulaP l of) := leftP_ok hf (impliesP_ok hf ho) _ _
theorem levelP_ok {D : Nat} {of : Rd} {s : PS} (hd : s.dp = D) (hn : s.nx < l.length) (hk : (tkAt l s).kind ≠ 0)
    (ho : D ≠ 256 → ∀ t : PS, t.dp = D + 1 → t.nx = s.nx + 1 → t.nx < l.length → ∃ n s', of t = some (n, s') ∧ Adv l t s' ∧ sizeF n ≤ 2 * (s'.nx - t.nx) + 3) :
    ∃ n s', levelP of s = some (n, s') ∧ Adv l s s' ∧ sizeF n ≤ 2 * (s'.nx - s.nx) + 1 := by
  unfold levelP
  by_cases h6 : s.dp = 256
  · simp only [if_pos h6, if_neg (wrongF_pos (by decide : (16 : Nat) ≠ 0) s)]
    exact ⟨_, _, rfl, Adv.wrong hn 16, by rw [sizeF_zero]; omega⟩
  · simp only [if_neg h6]
    by_cases he : s.er = 0
    · simp only [if_pos he]
      obtain ⟨n, s', e, a, z⟩ := ho (by rw [← hd]; exact h6) ⟨s.nx + 1, s.er, s.dp + 1⟩ (by simp [hd]) rfl (step_lt hf hn hk)
      refine ⟨n, ⟨s'.nx, s'.er, s'.dp - 1⟩, by rw [e]; rfl, ⟨?_, a.lt, ?_⟩, ?_⟩
      · have := a.le; simp at this ⊢; omega
      · have := a.dp; simp at this ⊢; omega
      · have := a.le; simp at this z ⊢; omega
    · simp only [if_neg he]
      exact ⟨_, _, rfl, Adv.refl hn, by rw [sizeF_zero]; omega⟩
theorem callLoop_ok : ∀ (k : Nat) (xs : List (List UInt8)) (s : PS), s.nx < l.length → l.length - s.nx < k → ∃ ys s', callLoop l k xs s = some (ys, s') ∧ Adv l s s'
  | 0, xs, s, _, h => by omega
  | k + 1, xs, s, hn, hk => by
    unfold callLoop
    by_cases he : s.er = 0
    · rw [if_pos he]
      by_cases h17 : (tkAt l s).kind = 1 ∧ xs.length = 17
      · rw [if_pos h17]
        exact ⟨_, _, rfl, Adv.wrong hn 8⟩
      · rw [if_neg h17]
        obtain ⟨a1, b1⟩ := identR_adv hf hn
        generalize identR l s = r at a1 b1 ⊢
        obtain ⟨x, s1⟩ := r
        simp only at a1 b1 ⊢
        by_cases hi : isF l [44] s1 = true
        · rw [if_pos hi]
          have h1 := Adv.step hf a1.lt (isF_ne hi)
          have h2 := b1 (isF_er hi)
          obtain ⟨ys, s', e, a⟩ := callLoop_ok k (xs ++ [x]) (stepF s1) h1.lt (by have : (stepF s1).nx = s1.nx + 1 := rfl; omega)
          exact ⟨ys, s', e, a1.trans (h1.trans a)⟩
        · rw [if_neg hi]
          exact ⟨_, _, rfl, a1.trans (needF_adv hf a1.lt)⟩
    · rw [if_neg he]
      exact ⟨_, _, rfl, Adv.refl hn⟩
theorem atomP_ok (D : Nat) : RdOk l D (atomP l) := by
  intro s hd hn
  unfold atomP
  obtain ⟨a1, -⟩ := identR_adv hf hn
  generalize identR l s = r at a1 ⊢
  obtain ⟨x, s1⟩ := r
  simp only at a1 ⊢
  by_cases hp : isF l [40] s1 = true
  · rw [if_pos hp]
    have h1 := Adv.step hf a1.lt (isF_ne hp)
    unfold callP
    simp only
    by_cases hq : isF l [41] (stepF s1) = true
    · rw [if_pos hq]
      exact ⟨_, _, rfl, a1.trans (h1.trans (Adv.step hf h1.lt (isF_ne hq))), by simp [sizeF, sizesF]⟩
    · rw [if_neg hq]
      obtain ⟨ys, s', e, a⟩ := callLoop_ok hf (l.length + 1) [x] (stepF s1) h1.lt (by omega)
      rw [e]
      exact ⟨_, _, rfl, a1.trans (h1.trans a), by simp [sizeF, sizesF]⟩
  · rw [if_neg hp]
    by_cases hq : isF l [105, 115] s1 = true
    · rw [if_pos hq]
      have h1 := Adv.step hf a1.lt (isF_ne hq)
      exact ⟨_, _, rfl, a1.trans (h1.trans (numberP_adv hf h1.lt)), by simp [sizeF, sizesF]⟩
    · rw [if_neg hq]
      split
      · rename_i i hi
        have h1 := Adv.step hf a1.lt (firstF_is _ _ _ hi)
        exact ⟨_, _, rfl, a1.trans (h1.trans (identR_adv hf h1.lt).1), by simp [sizeF, sizesF]⟩
      · exact ⟨_, _, rfl, a1.trans (Adv.wrong a1.lt 3), by rw [sizeF_zero]; omega⟩
theorem bindP_ok {D : Nat} {fm : Rd} {s : PS} (op : Int) (hd : s.dp = D) (hn : s.nx < l.length) (hk : (tkAt l s).kind ≠ 0) (ho : D ≠ 256 → RdOk l (D + 1) fm) :
    ∃ n s', bindP l op fm s = some (n, s') ∧ Adv l s s' ∧ sizeF n ≤ 2 * (s'.nx - s.nx) + 1 := by
  unfold bindP
  refine levelP_ok hf hd hn hk fun h6 t ht _ htl => ?_
  have a1 := sortP_adv hf htl
  generalize sortP l t = r1 at a1 ⊢
  obtain ⟨q, s1⟩ := r1
  obtain ⟨a2, -⟩ := identR_adv hf a1.lt
  simp only at a1 a2 ⊢
  generalize identR l s1 = r2 at a2 ⊢
  obtain ⟨x, s2⟩ := r2
  simp only at a2 ⊢
  have a3 := needF_adv hf (x := [58]) a2.lt
  obtain ⟨n, s', e, a4, z⟩ := ho h6 (needF l [58] s2) (a3.dp.trans (a2.dp.trans (a1.dp.trans ht))) a3.lt
  have h1 := a1.le
  have h2 := a2.le
  have h3 := a3.le
  have h4 := a4.le
  refine ⟨_, _, by rw [e]; rfl, a1.trans (a2.trans (a3.trans a4)), ?_⟩
  simp only [sizeF, sizesF]
  omega
theorem operandP_ok : ∀ (d D : Nat), D ≤ 256 → 257 ≤ d + D → RdOk l D (operandP l d)
  | 0, D, h1, h2 => by omega
  | d + 1, D, h1, h2 => by
    intro s hd hn
    have ih : D ≠ 256 → RdOk l (D + 1) (operandP l d) := fun h => operandP_ok d (D + 1) (by omega) (by omega)
    unfold operandP
    simp only
    by_cases hk : ((tkAt l s).kind = 3 ∨ (tkAt l s).kind = 4) ∧ s.er = 0
    · rw [if_pos hk]
      have hk0 : (tkAt l s).kind ≠ 0 := by omega
      have h1 := Adv.step hf hn hk0
      have hs1 : (stepF s).nx = s.nx + 1 := rfl
      split
      · exact ⟨_, _, rfl, h1, by simp [sizeF, sizesF]⟩
      split
      · exact ⟨_, _, rfl, h1, by simp [sizeF, sizesF]⟩
      split
      · unfold sizeP
        obtain ⟨a1, -⟩ := identR_adv hf h1.lt
        generalize identR l (stepF s) = r1 at a1 ⊢
        obtain ⟨x, s1⟩ := r1
        simp only at a1 ⊢
        have a2 := needF_adv hf (x := [109, 111, 100]) a1.lt
        have a3 := numberP_adv hf (a := 1) (z := 64) a2.lt
        generalize numberP l 1 64 (needF l [109, 111, 100] s1) = r3 at a3 ⊢
        obtain ⟨m, s3⟩ := r3
        simp only at a3 ⊢
        have a4 := needF_adv hf (x := [105, 115]) a3.lt
        have a5 := numberP_adv hf (a := 0) (z := m - 1) a4.lt
        exact ⟨_, _, rfl, h1.trans (a1.trans (a2.trans (a3.trans (a4.trans a5)))), by simp [sizeF, sizesF]⟩
      split
      · unfold oneP
        exact ⟨_, _, rfl, h1.trans (identR_adv hf h1.lt).1, by simp [sizeF, sizesF]⟩
      split
      · unfold notP
        refine levelP_ok hf hd hn hk0 fun h6 t ht _ htl => ?_
        obtain ⟨n, s', e, a, z⟩ := ih h6 t ht htl
        exact ⟨_, _, by rw [e]; rfl, a, by simp only [sizeF, sizesF]; omega⟩
      split
      · exact bindP_ok hf 16 hd hn hk0 fun h6 => formulaP_ok hf (ih h6)
      split
      · exact bindP_ok hf 17 hd hn hk0 fun h6 => formulaP_ok hf (ih h6)
      split
      · unfold parenP
        refine levelP_ok hf hd hn hk0 fun h6 t ht _ htl => ?_
        obtain ⟨n, s', e, a, z⟩ := formulaP_ok hf (ih h6) t ht htl
        have a2 := needF_adv hf (x := [41]) a.lt
        exact ⟨_, _, by rw [e]; rfl, a.trans a2, by have := a2.le; have := a.le; omega⟩
      · exact atomP_ok hf D s hd hn
    · rw [if_neg hk]
      exact atomP_ok hf D s hd hn
end
def wholeP (l : List Tok) : Rd := formulaP l (operandP l 257)
theorem wholeP_ok {l : List Tok} (hf : Fin l) : RdOk l 0 (wholeP l) := formulaP_ok hf (operandP_ok hf 257 0 (by omega) (by omega))
def freeLoop (l : List Tok) : Nat → List (List UInt8 × Int) → PS → Option (List (List UInt8 × Int) × PS)
  | 0, _, _ => none
  | k + 1, out, s =>
    if s.er = 0 then
      let (q, s1) := sortP l s
      let s2 := if (tkAt l s1).kind = 1 then (if out.length = 8 then wrongF 8 s1 else if (out.any fun o => decide (o.1 = (tkAt l s1).text)) = true then wrongF 7 s1 else s1) else s1
      let (x, s3) := identR l s2
      if isF l [44] s3 = true then freeLoop l k (out ++ [(x, q)]) (stepF s3) else some (out ++ [(x, q)], needF l [58] s3)
    else some (out, s)
def freeP (l : List Tok) (s : PS) : Option (List (List UInt8 × Int) × PS) := if isF l [102, 105, 110, 100] s = true then freeLoop l (l.length + 1) [] (stepF s) else some ([], s)
section
variable {l : List Tok} (hf : Fin l)
include hf
theorem freeLoop_ok : ∀ (k : Nat) (out : List (List UInt8 × Int)) (s : PS), s.nx < l.length → l.length - s.nx < k → out.length ≤ 8 → ∃ r s', freeLoop l k out s = some (r, s') ∧ Adv l s s' ∧ r.length ≤ 9
  | 0, out, s, _, h, _ => by omega
  | k + 1, out, s, hn, hk, h8 => by
    unfold freeLoop
    by_cases he : s.er = 0
    · rw [if_pos he]
      have a1 := sortP_adv hf hn
      generalize sortP l s = r1 at a1 ⊢
      obtain ⟨q, s1⟩ := r1
      simp only at a1 ⊢
      have h2 : ∃ s2, (if (tkAt l s1).kind = 1 then (if out.length = 8 then wrongF 8 s1 else if (out.any fun o => decide (o.1 = (tkAt l s1).text)) = true then wrongF 7 s1 else s1) else s1) = s2 ∧ Adv l s1 s2 ∧ (out.length = 8 → (tkAt l s1).kind = 1 → s2.er ≠ 0) ∧ (tkAt l s1).kind = (tkAt l s2).kind := by
        refine ⟨_, rfl, ?_, ?_, ?_⟩
        · repeat' split
          all_goals first | exact Adv.wrong a1.lt _ | exact Adv.refl a1.lt
        · intro h8 h1
          rw [if_pos h1, if_pos h8]
          exact wrongF_pos (by decide) _
        · unfold tkAt
          repeat' split
          all_goals first | rfl | rw [wrongF_nx]
      obtain ⟨s2, e2, a2, b2, c2⟩ := h2
      rw [e2]
      obtain ⟨a3, b3⟩ := identR_adv hf a2.lt
      have d3 : (identR l s2).2.er = 0 → (tkAt l s2).kind = 1 ∧ s2.er = 0 := by
        unfold identR
        by_cases h1 : (tkAt l s2).kind = 1
        · simp only [if_pos h1]
          by_cases h0 : s2.er = 0
          · simp only [if_pos h0]; exact fun _ => ⟨h1, h0⟩
          · simp only [if_neg h0]; exact fun h => absurd h h0
        · simp only [if_neg h1, if_neg (wrongF_pos (by decide : (3 : Nat) ≠ 0) s2)]
          exact fun h => absurd h (wrongF_pos (by decide) s2)
      generalize identR l s2 = r3 at a3 b3 d3 ⊢
      obtain ⟨x, s3⟩ := r3
      simp only at a3 b3 d3 ⊢
      by_cases hi : isF l [44] s3 = true
      · rw [if_pos hi]
        have h1 := Adv.step hf a3.lt (isF_ne hi)
        have h2 := b3 (isF_er hi)
        have h3 := d3 (isF_er hi)
        have h4 : out.length ≠ 8 := fun h => b2 h (by rw [c2]; exact h3.1) h3.2
        have := a1.le
        have := a2.le
        obtain ⟨r, s', e, a, z⟩ := freeLoop_ok k (out ++ [(x, q)]) (stepF s3) h1.lt (by have : (stepF s3).nx = s3.nx + 1 := rfl; omega) (by simp; omega)
        exact ⟨r, s', e, a1.trans (a2.trans (a3.trans (h1.trans a))), z⟩
      · rw [if_neg hi]
        exact ⟨_, _, rfl, a1.trans (a2.trans (a3.trans (needF_adv hf a3.lt))), by simp; omega⟩
    · rw [if_neg he]
      exact ⟨_, _, rfl, Adv.refl hn, by omega⟩
theorem freeP_ok {s : PS} (hn : s.nx < l.length) : ∃ r s', freeP l s = some (r, s') ∧ Adv l s s' ∧ r.length ≤ 9 := by
  unfold freeP
  split
  · have h1 := Adv.step hf hn (isF_ne (by assumption))
    obtain ⟨r, s', e, a, z⟩ := freeLoop_ok hf (l.length + 1) [] (stepF s) h1.lt (by omega) (by simp)
    exact ⟨r, s', e, h1.trans a, z⟩
  · exact ⟨_, _, rfl, Adv.refl hn, by simp⟩
end
structure Qn where
  free : List (List UInt8 × Int)
  body : Nd
def Qn.zero : Qn := ⟨[], .zero⟩
structure PR where
  q : Qn
  line : Nat
  col : Nat
  er : Nat
def greatF (n : Nd) : Nat := if 4096 < sizeF n then 8 else if 256 < depthF n then 16 else 0
def endF (l : List Tok) (q : Qn) (s : PS) : PR :=
  let s1 := if (tkAt l s).kind = 0 then s else wrongF 3 s
  if s1.er = 0 then (if greatF q.body = 0 then ⟨q, 0, 0, 0⟩ else ⟨.zero, 0, 0, greatF q.body⟩) else ⟨.zero, (tkAt l s1).line, (tkAt l s1).col, s1.er⟩
def queryP (l : List Tok) : Option (Qn × PS) := (freeP l ⟨0, 0, 0⟩).bind fun (f, s1) => (wholeP l s1).map fun (n, s2) => (⟨f, n⟩, s2)
def bareP (l : List Tok) : Option (Qn × PS) := (wholeP l ⟨0, 0, 0⟩).map fun (n, s2) => (⟨[], n⟩, s2)
theorem queryP_ok {l : List Tok} (hf : Fin l) (hn : 0 < l.length) : ∃ q s', queryP l = some (q, s') ∧ Adv l ⟨0, 0, 0⟩ s' ∧ sizeF q.body ≤ 2 * l.length + 1 ∧ q.free.length ≤ 9 := by
  obtain ⟨r, s1, e1, a1, z1⟩ := freeP_ok hf (s := ⟨0, 0, 0⟩) hn
  obtain ⟨n, s2, e2, a2, z2⟩ := wholeP_ok hf s1 a1.dp a1.lt
  have := a2.lt
  exact ⟨⟨r, n⟩, s2, by unfold queryP; rw [e1]; simp only [Option.bind_some]; rw [e2]; rfl, a1.trans a2, by simp only; omega, z1⟩
theorem bareP_ok {l : List Tok} (hf : Fin l) (hn : 0 < l.length) : ∃ q s', bareP l = some (q, s') ∧ Adv l ⟨0, 0, 0⟩ s' ∧ sizeF q.body ≤ 2 * l.length + 1 ∧ q.free.length ≤ 9 := by
  obtain ⟨n, s2, e2, a2, z2⟩ := wholeP_ok hf ⟨0, 0, 0⟩ rfl hn
  have := a2.lt
  exact ⟨⟨[], n⟩, s2, by unfold bareP; rw [e2]; rfl, a2, by simp only; omega, by simp⟩
mutual
theorem depth_le_size : ∀ n : Nd, depthF n ≤ sizeF n
  | .mk _ _ _ _ _ l => by have := depths_le_sizes l; simp only [depthF, sizeF]; omega
theorem depths_le_sizes : ∀ l : List Nd, depthsF l ≤ sizesF l
  | [] => by simp [depthsF]
  | x :: xs => by have := depth_le_size x; have := depths_le_sizes xs; simp only [depthsF, sizesF]; omega
end
end Go.Proofs.YtkhbpebpljdifaaGreatDoor
namespace Go.Proofs.YtkhbpebpljdifaaGreatDoor
open Go.RowKit Go.PL
def IsC (w : World) (b : Nat) : Prop := ∃ cs t z, w.heap[b]? = some (.cells cs t z)
theorem IsC.lt {w : World} {b : Nat} (h : IsC w b) : b < w.heap.size := by
  obtain ⟨cs, t, z, h⟩ := h
  exact lt_of_heap h
theorem IsC.stay {w w' : World} {b : Nat} (h : IsC w b) (he : w'.heap[b]? = w.heap[b]?) : IsC w' b := by
  obtain ⟨cs, t, z, h⟩ := h
  exact ⟨cs, t, z, he.trans h⟩
def sV (x : List UInt8) : Value := .string ⟨x.toArray⟩
def SlP (w : World) (P : Nat → Prop) (v : Value) (n : Nat) (xs : List Value) : Prop :=
  (n = 0 ∧ xs = [] ∧ ∃ a c, v = .slice a 0 c) ∨ ∃ g o c, v = .slice (some ⟨g, o, none⟩) n c ∧ (P g ∧ IsC w g) ∧ ∀ j u, xs[j]? = some u → w.cell? ⟨g, o + j, none⟩ = some u
theorem SlP.len {w : World} {P : Nat → Prop} {v : Value} {n : Nat} {xs : List Value} (h : SlP w P v n xs) : ∃ a c, v = .slice a n c := by
  rcases h with ⟨rfl, -, a, c, rfl⟩ | ⟨g, o, c, rfl, -⟩
  · exact ⟨a, c, rfl⟩
  · exact ⟨_, c, rfl⟩
structure Keep (w w' : World) (P Q : Nat → Prop) : Prop where
  size : w.heap.size ≤ w'.heap.size
  of : ∀ b, P b → IsC w b → Q b ∧ w'.heap[b]? = w.heap[b]?
theorem Keep.upto {S : List Nat} {w w' : World} {P : Nat → Prop} (hu : Upto S w w') (hs : ∀ b, P b → IsC w b → b ∉ S) : Keep w w' P P := ⟨hu.size, fun b hb hl => ⟨hb, hu.block b hl.lt (hs b hb hl)⟩⟩
theorem Keep.mono {w : World} {P Q : Nat → Prop} (h : ∀ b, P b → IsC w b → Q b) : Keep w w P Q := ⟨Nat.le_refl _, fun b hb hl => ⟨h b hb hl, rfl⟩⟩
theorem SlP.keep {w w' : World} {P Q : Nat → Prop} (hk : Keep w w' P Q) {v : Value} {n : Nat} {xs : List Value} (h : SlP w P v n xs) : SlP w' Q v n xs := by
  rcases h with h | ⟨g, o, c, rfl, ⟨hg, hl⟩, hc⟩
  · exact Or.inl h
  · obtain ⟨h1, h2⟩ := hk.of g hg hl
    refine Or.inr ⟨g, o, c, rfl, ⟨h1, hl.stay h2⟩, fun j u hj => ?_⟩
    rw [World.cell?_of_block (w := w) h2]
    exact hc j u hj
mutual
def NdV (w : World) (P : Nat → Prop) : Nd → Value → Prop
  | .mk op names sort n m l, v => ∃ vn vl, v = .agg #[.int .i64 op, vn, .int .i64 sort, .int .i64 n, .int .i64 m, vl] ∧ SlP w P vn names.length (names.map sV) ∧
      ((l = [] ∧ ∃ a c, vl = .slice a 0 c) ∨ ∃ g o c, vl = .slice (some ⟨g, o, none⟩) l.length c ∧ (P g ∧ IsC w g) ∧ NdsV w P g o l)
def NdsV (w : World) (P : Nat → Prop) (g : Nat) : Nat → List Nd → Prop
  | _, [] => True
  | o, x :: xs => (∃ v0 v1 v2 v3 v4 v5, w.cell? ⟨g, o, none⟩ = some v0 ∧ w.cell? ⟨g, o + 1, none⟩ = some v1 ∧ w.cell? ⟨g, o + 2, none⟩ = some v2 ∧ w.cell? ⟨g, o + 3, none⟩ = some v3 ∧ w.cell? ⟨g, o + 4, none⟩ = some v4 ∧ w.cell? ⟨g, o + 5, none⟩ = some v5 ∧
      NdV w P x (.agg #[v0, v1, v2, v3, v4, v5])) ∧ NdsV w P g (o + 6) xs
end
mutual
theorem NdV.keep {w w' : World} {P Q : Nat → Prop} (hk : Keep w w' P Q) : ∀ (nd : Nd) (v : Value), NdV w P nd v → NdV w' Q nd v
  | .mk op names sort n m l, v, h => by
    unfold NdV at h ⊢
    obtain ⟨vn, vl, e, h1, h2⟩ := h
    refine ⟨vn, vl, e, h1.keep hk, ?_⟩
    rcases h2 with h2 | ⟨g, o, c, e2, ⟨hg, hl⟩, h3⟩
    · exact Or.inl h2
    · obtain ⟨k1, k2⟩ := hk.of g hg hl
      exact Or.inr ⟨g, o, c, e2, ⟨k1, hl.stay k2⟩, NdsV.keep hk g k2 l o h3⟩
theorem NdsV.keep {w w' : World} {P Q : Nat → Prop} (hk : Keep w w' P Q) (g : Nat) (hg : w'.heap[g]? = w.heap[g]?) : ∀ (l : List Nd) (o : Nat), NdsV w P g o l → NdsV w' Q g o l
  | [], _, _ => by unfold NdsV; trivial
  | x :: xs, o, h => by
    unfold NdsV at h ⊢
    obtain ⟨⟨v0, v1, v2, v3, v4, v5, c0, c1, c2, c3, c4, c5, h1⟩, h2⟩ := h
    have up : ∀ {i : Nat} {u : Value}, w.cell? ⟨g, i, none⟩ = some u → w'.cell? ⟨g, i, none⟩ = some u := fun h => (World.cell?_of_block (w := w) hg).trans h
    exact ⟨⟨v0, v1, v2, v3, v4, v5, up c0, up c1, up c2, up c3, up c4, up c5, NdV.keep hk x _ h1⟩, NdsV.keep hk g hg xs (o + 6) h2⟩
end
theorem NdV.upto {S : List Nat} {w w' : World} {P : Nat → Prop} {nd : Nd} {v : Value} (h : NdV w P nd v) (hu : Upto S w w') (hs : ∀ b, P b → IsC w b → b ∉ S) : NdV w' P nd v := NdV.keep (Keep.upto hu hs) nd v h
theorem NdV.ext {w w' : World} {P : Nat → Prop} {nd : Nd} {v : Value} (h : NdV w P nd v) (hu : Upto [] w w') : NdV w' P nd v := h.upto hu (by simp)
theorem NdV.mono {w : World} {P Q : Nat → Prop} {nd : Nd} {v : Value} (h : NdV w P nd v) (hpq : ∀ b, P b → IsC w b → Q b) : NdV w Q nd v := NdV.keep (Keep.mono hpq) nd v h
theorem SlP.upto {S : List Nat} {w w' : World} {P : Nat → Prop} {v : Value} {n : Nat} {xs : List Value} (h : SlP w P v n xs) (hu : Upto S w w') (hs : ∀ b, P b → IsC w b → b ∉ S) : SlP w' P v n xs := h.keep (Keep.upto hu hs)
theorem SlP.ext {w w' : World} {P : Nat → Prop} {v : Value} {n : Nat} {xs : List Value} (h : SlP w P v n xs) (hu : Upto [] w w') : SlP w' P v n xs := h.upto hu (by simp)
theorem SlP.mono {w : World} {P Q : Nat → Prop} {v : Value} {n : Nat} {xs : List Value} (h : SlP w P v n xs) (hpq : ∀ b, P b → IsC w b → Q b) : SlP w Q v n xs := h.keep (Keep.mono hpq)
theorem NdV.six {w : World} {P : Nat → Prop} {nd : Nd} {v : Value} (h : NdV w P nd v) : ∃ (op : Int) (a1 : Option Addr) (n1 c1 : Nat) (so n m : Int) (a2 : Option Addr) (n2 c2 : Nat), v = .agg #[.int .i64 op, .slice a1 n1 c1, .int .i64 so, .int .i64 n, .int .i64 m, .slice a2 n2 c2] := by
  cases nd
  unfold NdV at h
  obtain ⟨vn, vl, e, h1, h2⟩ := h
  obtain ⟨a1, c1, rfl⟩ := h1.len
  rcases h2 with ⟨-, a2, c2, rfl⟩ | ⟨g, o, c, rfl, -⟩
  · exact ⟨_, a1, _, c1, _, _, _, a2, 0, c2, e⟩
  · exact ⟨_, a1, _, c1, _, _, _, _, _, c, e⟩
def zeroV : Value := .agg #[.int .i64 0, .slice none 0 0, .int .i64 0, .int .i64 0, .int .i64 0, .slice none 0 0]
theorem NdV.zero (w : World) (P : Nat → Prop) : NdV w P .zero zeroV := by
  unfold Nd.zero NdV
  exact ⟨_, _, rfl, Or.inl ⟨rfl, rfl, none, 0, rfl⟩, Or.inl ⟨rfl, none, 0, rfl⟩⟩
theorem NdV.atom {w : World} {P : Nat → Prop} {op so n m : Int} {names : List (List UInt8)} {vn : Value} (h : SlP w P vn names.length (names.map sV)) : NdV w P (.mk op names so n m []) (.agg #[.int .i64 op, vn, .int .i64 so, .int .i64 n, .int .i64 m, .slice none 0 0]) := by
  unfold NdV
  exact ⟨_, _, rfl, h, Or.inl ⟨rfl, none, 0, rfl⟩⟩
theorem NdV.one {w : World} {P : Nat → Prop} {op so : Int} {names : List (List UInt8)} {vn : Value} {x : Nd} {a0 a1 a2 a3 a4 a5 : Value} {g : Nat} {t : TypeId} {z : Nat × Nat} (h : SlP w P vn names.length (names.map sV)) (hx : NdV w P x (.agg #[a0, a1, a2, a3, a4, a5])) (hg : P g)
    (hb : w.heap[g]? = some (.cells #[a0, a1, a2, a3, a4, a5] t z)) : NdV w P (.mk op names so 0 0 [x]) (.agg #[.int .i64 op, vn, .int .i64 so, .int .i64 0, .int .i64 0, .slice (some ⟨g, 0, none⟩) 1 1]) := by
  unfold NdV
  refine ⟨_, _, rfl, h, Or.inr ⟨g, 0, 1, rfl, ⟨hg, _, _, _, hb⟩, ?_⟩⟩
  unfold NdsV NdsV
  exact ⟨⟨a0, a1, a2, a3, a4, a5, by rw [cell_of hb]; rfl, by rw [cell_of hb]; rfl, by rw [cell_of hb]; rfl, by rw [cell_of hb]; rfl, by rw [cell_of hb]; rfl, by rw [cell_of hb]; rfl, hx⟩, trivial⟩
theorem NdV.two {w : World} {P : Nat → Prop} {op so : Int} {names : List (List UInt8)} {vn : Value} {x y : Nd} {a0 a1 a2 a3 a4 a5 b0 b1 b2 b3 b4 b5 : Value} {g : Nat} {t : TypeId} {z : Nat × Nat} (h : SlP w P vn names.length (names.map sV)) (hx : NdV w P x (.agg #[a0, a1, a2, a3, a4, a5])) (hy : NdV w P y (.agg #[b0, b1, b2, b3, b4, b5])) (hg : P g)
    (hb : w.heap[g]? = some (.cells #[a0, a1, a2, a3, a4, a5, b0, b1, b2, b3, b4, b5] t z)) : NdV w P (.mk op names so 0 0 [x, y]) (.agg #[.int .i64 op, vn, .int .i64 so, .int .i64 0, .int .i64 0, .slice (some ⟨g, 0, none⟩) 2 2]) := by
  unfold NdV
  refine ⟨_, _, rfl, h, Or.inr ⟨g, 0, 2, rfl, ⟨hg, _, _, _, hb⟩, ?_⟩⟩
  unfold NdsV NdsV NdsV
  exact ⟨⟨a0, a1, a2, a3, a4, a5, by rw [cell_of hb]; rfl, by rw [cell_of hb]; rfl, by rw [cell_of hb]; rfl, by rw [cell_of hb]; rfl, by rw [cell_of hb]; rfl, by rw [cell_of hb]; rfl, hx⟩,
    ⟨b0, b1, b2, b3, b4, b5, by rw [cell_of hb]; rfl, by rw [cell_of hb]; rfl, by rw [cell_of hb]; rfl, by rw [cell_of hb]; rfl, by rw [cell_of hb]; rfl, by rw [cell_of hb]; rfl, hy⟩, trivial⟩
theorem SlP.nil {w : World} {P : Nat → Prop} : SlP w P (.slice none 0 0) 0 [] := Or.inl ⟨rfl, rfl, none, 0, rfl⟩
theorem SlP.block {w : World} {P : Nat → Prop} {g : Nat} {cs : Array Value} {t : TypeId} {z : Nat × Nat} (hg : P g) (hb : w.heap[g]? = some (.cells cs t z)) (n c : Nat) (xs : List Value) (hx : ∀ (j : Nat) u, xs[j]? = some u → cs[j]? = some u) : SlP w P (.slice (some ⟨g, 0, none⟩) n c) n xs :=
  Or.inr ⟨g, 0, c, rfl, ⟨hg, _, _, _, hb⟩, fun j u hj => by rw [Nat.zero_add, cell_of hb]; exact hx j u hj⟩
def New (w : World) (b : Nat) : Prop := w.heap.size ≤ b
theorem New.mono {w w' : World} {S : List Nat} (h : Upto S w w') (b : Nat) (hb : New w' b) : New w b := Nat.le_trans h.size hb
theorem NdsV.get {w : World} {P : Nat → Prop} {g : Nat} : ∀ (l : List Nd) (o i : Nat) (x : Nd), NdsV w P g o l → l[i]? = some x → ∃ v0 v1 v2 v3 v4 v5, w.cell? ⟨g, o + i * 6, none⟩ = some v0 ∧ w.cell? ⟨g, o + i * 6 + 1, none⟩ = some v1 ∧ w.cell? ⟨g, o + i * 6 + 2, none⟩ = some v2 ∧ w.cell? ⟨g, o + i * 6 + 3, none⟩ = some v3 ∧ w.cell? ⟨g, o + i * 6 + 4, none⟩ = some v4 ∧ w.cell? ⟨g, o + i * 6 + 5, none⟩ = some v5 ∧ NdV w P x (.agg #[v0, v1, v2, v3, v4, v5])
  | [], o, i, x, _, h => by simp at h
  | y :: ys, o, 0, x, h, hi => by
    simp at hi
    subst hi
    unfold NdsV at h
    simpa using h.1
  | y :: ys, o, i + 1, x, h, hi => by
    unfold NdsV at h
    have := NdsV.get ys (o + 6) i x h.2 (by simpa using hi)
    rwa [show o + 6 + i * 6 = o + (i + 1) * 6 by omega] at this
theorem sizeF_pos (n : Nd) : 1 ≤ sizeF n := by
  cases n
  simp only [sizeF]
  omega
theorem sizesF_take (l : List Nd) (i : Nat) (x : Nd) (h : l[i]? = some x) : sizesF (l.take (i + 1)) = sizesF (l.take i) + sizeF x ∧ sizesF (l.take i) + sizeF x ≤ sizesF l := by
  obtain ⟨hi, rfl⟩ := List.getElem?_eq_some_iff.1 h
  have e : l.take (i + 1) = l.take i ++ [l[i]] := List.take_succ_eq_append_getElem hi
  have h1 : sizesF (l.take (i + 1)) = sizesF (l.take i) + sizeF l[i] := by rw [e, sizesF_append]; simp [sizesF]
  refine ⟨h1, ?_⟩
  have h2 : sizesF l = sizesF (l.take (i + 1)) + sizesF (l.drop (i + 1)) := by rw [← sizesF_append, List.take_append_drop]
  omega
theorem depthsF_append (a b : List Nd) : depthsF (a ++ b) = max (depthsF a) (depthsF b) := by
  induction a with
  | nil => simp [depthsF]
  | cons x xs ih => simp only [List.cons_append, depthsF, ih]; omega
theorem depthsF_take (l : List Nd) (i : Nat) (x : Nd) (h : l[i]? = some x) : depthsF (l.take (i + 1)) = max (depthsF (l.take i)) (depthF x) := by
  obtain ⟨hi, rfl⟩ := List.getElem?_eq_some_iff.1 h
  have e : l.take (i + 1) = l.take i ++ [l[i]] := List.take_succ_eq_append_getElem hi
  rw [e, depthsF_append]
  simp [depthsF]
end Go.Proofs.YtkhbpebpljdifaaGreatDoor
namespace Go.Proofs.YtkhbpebpljdifaaGreatDoor
open Go.RowKit Go.PL Go.Maps
structure SEnv (w : World) : Prop where
  c0 : w.cell? ⟨0, 0, none⟩ = some (.string ⟨[118, 101, 114, 116, 101, 120].toArray⟩)
  c1 : w.cell? ⟨0, 1, none⟩ = some (.string ⟨[101, 100, 103, 101].toArray⟩)
  c2 : w.cell? ⟨0, 2, none⟩ = some (.string ⟨[115, 101, 116].toArray⟩)
  c3 : w.cell? ⟨0, 3, none⟩ = some (.string ⟨[101, 100, 103, 101, 115].toArray⟩)
theorem SEnv.upto {S : List Nat} {w w' : World} (h : SEnv w) (hu : Upto S w w') (h2 : 0 ∉ S) : SEnv w' :=
  ⟨(hu.cell (World.block_lt_of_cell? w _ h.c0) h2).trans h.c0, (hu.cell (World.block_lt_of_cell? w _ h.c1) h2).trans h.c1, (hu.cell (World.block_lt_of_cell? w _ h.c2) h2).trans h.c2, (hu.cell (World.block_lt_of_cell? w _ h.c3) h2).trans h.c3⟩
structure Cx (w : World) (p : Nat) (l : List Tok) : Prop where
  srt : SEnv w
  p2 : p ≠ 0
  len : l.length ≤ 1000000
theorem Cx.upto {w w' : World} {p : Nat} {l : List Tok} (h : Cx w p l) (hu : Upto [p] w w') : Cx w' p l := ⟨h.srt.upto hu (by have := h.p2; simp; omega), h.p2, h.len⟩
theorem Cx.ext {w w' : World} {p : Nat} {l : List Tok} (h : Cx w p l) (hu : Upto [] w w') : Cx w' p l := h.upto (hu.mono (by simp))
theorem RdAt.lt {w : World} {p : Nat} {l : List Tok} {s : PS} (h : RdAt w p l s) : p < w.heap.size := by
  obtain ⟨⟨v, hb, -, -⟩, -, -⟩ := h
  exact lt_of_heap hb
theorem nd_store {w : World} {B : Nat} {a b c d e f : Value} {T : TypeId} (h : w.heap[B]? = some (.cells #[a, b, c, d, e, f] T (0, 0))) (a' b' c' d' e' f' : Value) :
    ((((((w.setCell ⟨B, 0, none⟩ a').setCell ⟨B, 1, none⟩ b').setCell ⟨B, 2, none⟩ c').setCell ⟨B, 3, none⟩ d').setCell ⟨B, 4, none⟩ e').setCell ⟨B, 5, none⟩ f').heap[B]? = some (.cells #[a', b', c', d', e', f'] T (0, 0)) := by
  have := set_same (set_same (set_same (set_same (set_same (set_same h 0 a') 1 b') 2 c') 3 d') 4 e') 5 f'
  simpa using this
theorem nd_up {S : List Nat} {v w : World} {B : Nat} (h : Upto S v w) (hB : B ∈ S ∨ v.heap.size ≤ B) (a' b' c' d' e' f' : Value) :
    Upto S v ((((((w.setCell ⟨B, 0, none⟩ a').setCell ⟨B, 1, none⟩ b').setCell ⟨B, 2, none⟩ c').setCell ⟨B, 3, none⟩ d').setCell ⟨B, 4, none⟩ e').setCell ⟨B, 5, none⟩ f') :=
  (((((h.setCell hB _).setCell hB _).setCell hB _).setCell hB _).setCell hB _).setCell hB _
theorem nd_self (w : World) (B : Nat) (a' b' c' d' e' f' : Value) :
    Upto [B] w ((((((w.setCell ⟨B, 0, none⟩ a').setCell ⟨B, 1, none⟩ b').setCell ⟨B, 2, none⟩ c').setCell ⟨B, 3, none⟩ d').setCell ⟨B, 4, none⟩ e').setCell ⟨B, 5, none⟩ f') := nd_up (Upto.refl _ _) (Or.inl (by simp)) ..
set_option maxRecDepth 100000 in
set_option maxHeartbeats 6400000 in
theorem sort_calls (w : World) (p : Nat) (l : List Tok) (s : PS) (hx : Cx w p l) (h : RdAt w p l s) : Calls Tryz.prog 98 #[.pointer (some ⟨p, 0, none⟩)] w fun e w' => e = .returned (.int .i64 (sortP l s).1) ∧ RdAt w' p l (sortP l s).2 ∧ Upto [p] w w' := by
  have HT := Lib.hid (fun w1 x (h1 : RdAt w1 p l s) => takes_calls w1 p l s x h1 hx.len)
  obtain ⟨⟨g0, g1, g2, g3⟩, -, -⟩ := hx
  have HR := Lib.hid h
  clear h
  go_enter Tryz.func98, Tryz.ntmps98
  go_wp2_with fail
  go_loopw [6] (fun i wr => ∃ k : Nat, k ≤ 4 ∧ i = .int .i64 k ∧ Hid (RdAt wr p l s ∧ Upto [p] w wr ∧ ∀ j, j < k → isF l (sortWords.getD j []) s = false)) (fun i _ => 4 - (intOf i).toNat)
  case atStart => exact ⟨0, by omega, rfl, Lib.hid ⟨HR.out, Upto.refl _ _, fun j h => by omega⟩⟩
  case round =>
    obtain ⟨k, hk, rfl, HI⟩ := hrel
    have hc : k = 0 ∨ k = 1 ∨ k = 2 ∨ k = 3 ∨ k = 4 := by omega
    clear g0 g1 g2 g3
    rcases hc with rfl | rfl | rfl | rfl | rfl
    · have ix : ∀ w, (Instr.index 97 (.agg #[.string ⟨#[118, 101, 114, 116, 101, 120]⟩, .string ⟨#[101, 100, 103, 101]⟩, .string ⟨#[115, 101, 116]⟩, .string ⟨#[101, 100, 103, 101, 115]⟩]) (.int .i64 0)).run Tryz.prog w = .ok (.string ⟨#[118, 101, 114, 116, 101, 120]⟩) w := fun _ => by kernel_rfl
      have HC := Lib.hid (HT.out wr [118, 101, 114, 116, 101, 120] HI.out.1)
      cases hv : isF l [118, 101, 114, 116, 101, 120] s with
      | true =>
        rw [hv] at HC
        have HV : Hid (sortP l s = (0, stepF s) ∧ (takesF l [118, 101, 114, 116, 101, 120] s).2 = stepF s) := Lib.hid (by
          refine ⟨?_, by unfold takesF; rw [if_pos hv]⟩
          unfold sortP sortWords
          simp [firstF, hv])
        clear hv
        go_wp2_with fail
        refine HC.out.mono ?_
        rintro e w1 ⟨rfl, hR1, hu1⟩
        have HS := Lib.hid hR1
        have HU := Lib.hid (HI.out.2.1.trans_same hu1)
        clear hR1 hu1
        go_wp2_with fail
        go_ret
        exact ⟨by rw [HV.out.1]; rfl, by rw [HV.out.1]; have := HS.out; rw [HV.out.2] at this; exact this, HU.out⟩
      | false =>
        rw [hv] at HC
        have HV : Hid ((takesF l [118, 101, 114, 116, 101, 120] s).2 = s ∧ isF l [118, 101, 114, 116, 101, 120] s = false) := Lib.hid ⟨by unfold takesF; rw [hv]; rfl, hv⟩
        clear hv
        go_wp2_with fail
        refine HC.out.mono ?_
        rintro e w1 ⟨rfl, hR1, hu1⟩
        have HS := Lib.hid hR1
        have HU := Lib.hid (HI.out.2.1.trans_same hu1)
        clear hR1 hu1
        go_wp2_with fail
        go_roundw
        case rel => exact ⟨1, by omega, by go_num, Lib.hid ⟨by have := HS.out; rw [HV.out.1] at this; exact this, HU.out, fun j hj => by
          by_cases hjk : j < 0
          · exact HI.out.2.2 j hjk
          · obtain rfl : j = 0 := by omega
            exact HV.out.2⟩⟩
        case measure => simp [intOf]
    · have ix : ∀ w, (Instr.index 97 (.agg #[.string ⟨#[118, 101, 114, 116, 101, 120]⟩, .string ⟨#[101, 100, 103, 101]⟩, .string ⟨#[115, 101, 116]⟩, .string ⟨#[101, 100, 103, 101, 115]⟩]) (.int .i64 1)).run Tryz.prog w = .ok (.string ⟨#[101, 100, 103, 101]⟩) w := fun _ => by kernel_rfl
      have HC := Lib.hid (HT.out wr [101, 100, 103, 101] HI.out.1)
      cases hv : isF l [101, 100, 103, 101] s with
      | true =>
        rw [hv] at HC
        have HV : Hid (sortP l s = (1, stepF s) ∧ (takesF l [101, 100, 103, 101] s).2 = stepF s) := Lib.hid (by
          have f0 : isF l [118, 101, 114, 116, 101, 120] s = false := HI.out.2.2 0 (by omega)
          refine ⟨?_, by unfold takesF; rw [if_pos hv]⟩
          unfold sortP sortWords
          simp [firstF, f0, hv])
        clear hv
        go_wp2_with fail
        refine HC.out.mono ?_
        rintro e w1 ⟨rfl, hR1, hu1⟩
        have HS := Lib.hid hR1
        have HU := Lib.hid (HI.out.2.1.trans_same hu1)
        clear hR1 hu1
        go_wp2_with fail
        go_ret
        exact ⟨by rw [HV.out.1]; rfl, by rw [HV.out.1]; have := HS.out; rw [HV.out.2] at this; exact this, HU.out⟩
      | false =>
        rw [hv] at HC
        have HV : Hid ((takesF l [101, 100, 103, 101] s).2 = s ∧ isF l [101, 100, 103, 101] s = false) := Lib.hid ⟨by unfold takesF; rw [hv]; rfl, hv⟩
        clear hv
        go_wp2_with fail
        refine HC.out.mono ?_
        rintro e w1 ⟨rfl, hR1, hu1⟩
        have HS := Lib.hid hR1
        have HU := Lib.hid (HI.out.2.1.trans_same hu1)
        clear hR1 hu1
        go_wp2_with fail
        go_roundw
        case rel => exact ⟨2, by omega, by go_num, Lib.hid ⟨by have := HS.out; rw [HV.out.1] at this; exact this, HU.out, fun j hj => by
          by_cases hjk : j < 1
          · exact HI.out.2.2 j hjk
          · obtain rfl : j = 1 := by omega
            exact HV.out.2⟩⟩
        case measure => simp [intOf]
    · have ix : ∀ w, (Instr.index 97 (.agg #[.string ⟨#[118, 101, 114, 116, 101, 120]⟩, .string ⟨#[101, 100, 103, 101]⟩, .string ⟨#[115, 101, 116]⟩, .string ⟨#[101, 100, 103, 101, 115]⟩]) (.int .i64 2)).run Tryz.prog w = .ok (.string ⟨#[115, 101, 116]⟩) w := fun _ => by kernel_rfl
      have HC := Lib.hid (HT.out wr [115, 101, 116] HI.out.1)
      cases hv : isF l [115, 101, 116] s with
      | true =>
        rw [hv] at HC
        have HV : Hid (sortP l s = (2, stepF s) ∧ (takesF l [115, 101, 116] s).2 = stepF s) := Lib.hid (by
          have f0 : isF l [118, 101, 114, 116, 101, 120] s = false := HI.out.2.2 0 (by omega)
          have f1 : isF l [101, 100, 103, 101] s = false := HI.out.2.2 1 (by omega)
          refine ⟨?_, by unfold takesF; rw [if_pos hv]⟩
          unfold sortP sortWords
          simp [firstF, f0, f1, hv])
        clear hv
        go_wp2_with fail
        refine HC.out.mono ?_
        rintro e w1 ⟨rfl, hR1, hu1⟩
        have HS := Lib.hid hR1
        have HU := Lib.hid (HI.out.2.1.trans_same hu1)
        clear hR1 hu1
        go_wp2_with fail
        go_ret
        exact ⟨by rw [HV.out.1]; rfl, by rw [HV.out.1]; have := HS.out; rw [HV.out.2] at this; exact this, HU.out⟩
      | false =>
        rw [hv] at HC
        have HV : Hid ((takesF l [115, 101, 116] s).2 = s ∧ isF l [115, 101, 116] s = false) := Lib.hid ⟨by unfold takesF; rw [hv]; rfl, hv⟩
        clear hv
        go_wp2_with fail
        refine HC.out.mono ?_
        rintro e w1 ⟨rfl, hR1, hu1⟩
        have HS := Lib.hid hR1
        have HU := Lib.hid (HI.out.2.1.trans_same hu1)
        clear hR1 hu1
        go_wp2_with fail
        go_roundw
        case rel => exact ⟨3, by omega, by go_num, Lib.hid ⟨by have := HS.out; rw [HV.out.1] at this; exact this, HU.out, fun j hj => by
          by_cases hjk : j < 2
          · exact HI.out.2.2 j hjk
          · obtain rfl : j = 2 := by omega
            exact HV.out.2⟩⟩
        case measure => simp [intOf]
    · have ix : ∀ w, (Instr.index 97 (.agg #[.string ⟨#[118, 101, 114, 116, 101, 120]⟩, .string ⟨#[101, 100, 103, 101]⟩, .string ⟨#[115, 101, 116]⟩, .string ⟨#[101, 100, 103, 101, 115]⟩]) (.int .i64 3)).run Tryz.prog w = .ok (.string ⟨#[101, 100, 103, 101, 115]⟩) w := fun _ => by kernel_rfl
      have HC := Lib.hid (HT.out wr [101, 100, 103, 101, 115] HI.out.1)
      cases hv : isF l [101, 100, 103, 101, 115] s with
      | true =>
        rw [hv] at HC
        have HV : Hid (sortP l s = (3, stepF s) ∧ (takesF l [101, 100, 103, 101, 115] s).2 = stepF s) := Lib.hid (by
          have f0 : isF l [118, 101, 114, 116, 101, 120] s = false := HI.out.2.2 0 (by omega)
          have f1 : isF l [101, 100, 103, 101] s = false := HI.out.2.2 1 (by omega)
          have f2 : isF l [115, 101, 116] s = false := HI.out.2.2 2 (by omega)
          refine ⟨?_, by unfold takesF; rw [if_pos hv]⟩
          unfold sortP sortWords
          simp [firstF, f0, f1, f2, hv])
        clear hv
        go_wp2_with fail
        refine HC.out.mono ?_
        rintro e w1 ⟨rfl, hR1, hu1⟩
        have HS := Lib.hid hR1
        have HU := Lib.hid (HI.out.2.1.trans_same hu1)
        clear hR1 hu1
        go_wp2_with fail
        go_ret
        exact ⟨by rw [HV.out.1]; rfl, by rw [HV.out.1]; have := HS.out; rw [HV.out.2] at this; exact this, HU.out⟩
      | false =>
        rw [hv] at HC
        have HV : Hid ((takesF l [101, 100, 103, 101, 115] s).2 = s ∧ isF l [101, 100, 103, 101, 115] s = false) := Lib.hid ⟨by unfold takesF; rw [hv]; rfl, hv⟩
        clear hv
        go_wp2_with fail
        refine HC.out.mono ?_
        rintro e w1 ⟨rfl, hR1, hu1⟩
        have HS := Lib.hid hR1
        have HU := Lib.hid (HI.out.2.1.trans_same hu1)
        clear hR1 hu1
        go_wp2_with fail
        go_roundw
        case rel => exact ⟨4, by omega, by go_num, Lib.hid ⟨by have := HS.out; rw [HV.out.1] at this; exact this, HU.out, fun j hj => by
          by_cases hjk : j < 3
          · exact HI.out.2.2 j hjk
          · obtain rfl : j = 3 := by omega
            exact HV.out.2⟩⟩
        case measure => simp [intOf]
    · have HV : Hid (sortP l s = (0, wrongF 3 s)) := Lib.hid (by
        have f0 : isF l [118, 101, 114, 116, 101, 120] s = false := HI.out.2.2 0 (by omega)
        have f1 : isF l [101, 100, 103, 101] s = false := HI.out.2.2 1 (by omega)
        have f2 : isF l [115, 101, 116] s = false := HI.out.2.2 2 (by omega)
        have f3 : isF l [101, 100, 103, 101, 115] s = false := HI.out.2.2 3 (by omega)
        unfold sortP sortWords
        simp [firstF, f0, f1, f2, f3])
      have HW := Lib.hid (wrong_calls wr p 3 l s HI.out.1)
      go_wp2_with fail
      refine HW.out.mono ?_
      rintro e w1 ⟨rfl, hR1, hu1⟩
      have HS := Lib.hid hR1
      have HU := Lib.hid (HI.out.2.1.trans_same hu1)
      clear hR1 hu1
      go_wp2_with fail
      go_ret
      exact ⟨by rw [HV.out]; rfl, by rw [HV.out]; exact HS.out, HU.out⟩
def RdPost (w : World) (p : Nat) (l : List Tok) (s : PS) (n : Nd) (s' : PS) (e : Ending) (w' : World) : Prop :=
  ∃ v, e = .returned v ∧ NdV w' (New w) n v ∧ RdAt w' p l s' ∧ Upto [p] w w' ∧ Adv l s s'
def Rdr (w0 : World) (p : Nat) (l : List Tok) (k : FuncId) (args : Array Value) (of : Rd) : Prop :=
  ∀ w s n s', Upto [p] w0 w → RdAt w p l s → s.dp ≤ 256 → of s = some (n, s') → Calls Tryz.prog k args w (RdPost w p l s n s')
theorem Rdr.upto {w0 w1 : World} {p : Nat} {l : List Tok} {k : FuncId} {args : Array Value} {of : Rd} (h : Rdr w0 p l k args of) (hu : Upto [p] w0 w1) : Rdr w1 p l k args of :=
  fun w s n s' h1 h2 h3 h4 => h w s n s' (hu.trans_same h1) h2 h3 h4
theorem RdAt.depth {w : World} {p : Nat} {l : List Tok} {s : PS} (h : RdAt w p l s) (d : Nat) : RdAt (w.setCell ⟨p, 3, none⟩ (.int .i64 d)) p l ⟨s.nx, s.er, d⟩ ∧ Upto [p] w (w.setCell ⟨p, 3, none⟩ (.int .i64 d)) := by
  obtain ⟨⟨v, hb, hT, hg⟩, hin, hf⟩ := h
  have hu := (Upto.refl [p] w).setCell (p := ⟨p, 3, none⟩) (Or.inl (by simp)) (.int .i64 d)
  refine ⟨⟨⟨v, ?_, hT.upto hu (fun g o n c e hm => by simp at hm; have := hg g o n c e; omega), hg⟩, hin, hf⟩, hu⟩
  rw [set_same hb 3]
  rfl
theorem RdAt.other {w w' : World} {p B : Nat} {l : List Tok} {s : PS} {cs : Array Value} {T : TypeId} {z : Nat × Nat} (h : RdAt w p l s) (hb : w.heap[B]? = some (.cells cs T z)) (hc : ∀ (o : Nat) x, cs[o + 1]? = some (.string x) → cs[o + 4]? = none) (hu : Upto [B] w w') (hBp : B ≠ p) : RdAt w' p l s := by
  obtain ⟨⟨v, hp, hT, hg⟩, hin, hf⟩ := h
  refine ⟨⟨v, hu.at hp (by simp; omega), hT.upto hu ?_, hg⟩, hin, hf⟩
  intro g o n c e hm
  simp at hm
  subst hm
  rcases hT.at with ⟨h0, _⟩ | ⟨g', o', c', rfl, hat⟩
  · rw [h0] at hin; simp at hin
  · simp at e
    obtain ⟨⟨rfl, rfl⟩, -, -⟩ := e
    obtain ⟨t, ht⟩ : ∃ t, l[0]? = some t := ⟨_, List.getElem?_eq_getElem (by omega)⟩
    obtain ⟨c0, c1, c2, c3, c4⟩ := hat _ _ ht
    rw [cell_of hb] at c1 c4
    simp at c1 c4
    rw [hc _ _ c1] at c4
    cases c4
theorem RdAt.above {w w' : World} {p : Nat} {l : List Tok} {s : PS} {S : List Nat} (h : RdAt w p l s) (hu : Upto S w w') (hS : ∀ k ∈ S, p < k) : RdAt w' p l s := by
  obtain ⟨⟨v, hp, hT, hg⟩, hin, hf⟩ := h
  refine ⟨⟨v, hu.at hp (fun hm => Nat.lt_irrefl _ (hS _ hm)), hT.upto hu ?_, hg⟩, hin, hf⟩
  intro g o n c e hm
  have h1 := hg g o n c e
  have h2 := hS g hm
  omega
theorem nd_no_string {a c d e : Int} {b f : Value} (hb : ∀ x, b ≠ .string x) (_hf : ∀ x, f ≠ .string x) : ∀ (o : Nat) x, (#[.int .i64 a, b, .int .i64 c, .int .i64 d, .int .i64 e, f] : Array Value)[o + 1]? = some (.string x) → (#[.int .i64 a, b, .int .i64 c, .int .i64 d, .int .i64 e, f] : Array Value)[o + 4]? = none := by
  intro o x h
  match o, h with
  | 0, h => simp at h; exact absurd h (hb x)
  | 1, h => simp at h
  | 2, h => simp
  | 3, h => simp
  | 4, h => simp
  | o + 5, h => simp
theorem rdpost_fin {w w1 w2 : World} {p B : Nat} {l : List Tok} {s s' : PS} {n : Nd} (hB : w.heap.size = B) (hp : p < B) (hu0 : Upto [p] w w1) (hs : B < w1.heap.size) (hu1 : Upto [p] w1 w2) (hR : RdAt w2 p l s') {T : TypeId}
    (hz : w2.heap[B]? = some (.cells #[.int .i64 0, .slice none 0 0, .int .i64 0, .int .i64 0, .int .i64 0, .slice none 0 0] T (0, 0))) (ha : Adv l s s') {a b c d e f : Value} (hn : NdV w2 (New w1) n (.agg #[a, b, c, d, e, f])) :
    RdPost w p l s n s' (.returned (.agg #[a, b, c, d, e, f])) ((((((w2.setCell ⟨B, 0, none⟩ a).setCell ⟨B, 1, none⟩ b).setCell ⟨B, 2, none⟩ c).setCell ⟨B, 3, none⟩ d).setCell ⟨B, 4, none⟩ e).setCell ⟨B, 5, none⟩ f) := by
  have hst := nd_self w2 B a b c d e f
  have h1 := hu0.size
  refine ⟨_, rfl, ?_, hR.other hz (nd_no_string (by simp) (by simp)) hst (by omega), nd_up (hu0.trans_same hu1) (Or.inr (by omega)) .., ha⟩
  exact (hn.upto hst (fun b hb _ => by unfold New at hb; simp; omega)).mono fun b hb _ => New.mono hu0 b hb
theorem zero_same : True := trivial
theorem rdpost_zero {w W0 w2 : World} {p B : Nat} {l : List Tok} {s s' : PS} (hB : w.heap.size = B) (hp : p < B) (hu0 : Upto [p] w W0) (hu1 : Upto [p] W0 w2) (hR : RdAt w2 p l s') {T : TypeId}
    (hz : w2.heap[B]? = some (.cells #[.int .i64 0, .slice none 0 0, .int .i64 0, .int .i64 0, .int .i64 0, .slice none 0 0] T (0, 0))) (ha : Adv l s s') (_ : True) :
    RdPost w p l s .zero s' (.returned (.agg #[.int .i64 0, .slice none 0 0, .int .i64 0, .int .i64 0, .int .i64 0, .slice none 0 0])) ((((((w2.setCell ⟨B, 0, none⟩ (.int .i64 0)).setCell ⟨B, 1, none⟩ (.slice none 0 0)).setCell ⟨B, 2, none⟩ (.int .i64 0)).setCell ⟨B, 3, none⟩ (.int .i64 0)).setCell ⟨B, 4, none⟩ (.int .i64 0)).setCell ⟨B, 5, none⟩ (.slice none 0 0)) := by
  have hst := nd_self w2 B (.int .i64 0) (.slice none 0 0) (.int .i64 0) (.int .i64 0) (.int .i64 0) (.slice none 0 0)
  exact ⟨_, rfl, NdV.zero _ _, hR.other hz (nd_no_string (by simp) (by simp)) hst (by omega), nd_up (hu0.trans_same hu1) (Or.inr (by omega)) .., ha⟩
set_option maxRecDepth 100000 in
set_option maxHeartbeats 6400000 in
theorem level_calls (w : World) (p : Nat) (l : List Tok) (s s' : PS) (n : Nd) (k : FuncId) (cap : Array Value) (of : Rd) (hx : Cx w p l) (h : RdAt w p l s) (hd : s.dp ≤ 256) (hk0 : (tkAt l s).kind ≠ 0)
    (hk : ∀ args w, (callFunc k args).run Tryz.prog w = .ok (.enter k args) w) (hr : Rdr w p l k cap of) (he : levelP of s = some (n, s')) :
    Calls Tryz.prog 176 #[.pointer (some ⟨p, 0, none⟩), .func (.func k) #[] cap] w (RdPost w p l s n s') := by
  have hin := h.inb
  have hlen := hx.len
  have HF : Hid (Fin l) := Lib.hid h.fin
  have HR := Lib.hid h
  have HX := Lib.hid hx
  clear hx h
  by_cases h6 : s.dp = 256
  · have k6 : ((s.dp : Int) == 256) = true := by simp [h6]
    have hw0 := wrongF_er 16 (by decide) s
    have k3 : (((wrongF 16 s).er : Int) != 0) = true := by rw [bne, show (((wrongF 16 s).er : Int) == 0) = false by rw [beq_eq_false_iff_ne]; omega]; rfl
    have HV : Hid (n = .zero ∧ s' = wrongF 16 s) := Lib.hid (by
      unfold levelP at he
      simp only [if_pos h6, if_neg hw0] at he
      cases he
      exact ⟨rfl, rfl⟩)
    have HC := Lib.hid hr
    clear h6 hw0 he hr hk
    have hu0 : Upto [] w (w.alloc (.cells #[.int .i64 0, .slice none 0 0, .int .i64 0, .int .i64 0, .int .i64 0, .slice none 0 0] 34)) := (Upto.refl [] w).alloc _
    have h0 := HR.out.ext hu0
    have HNew := Lib.hid (new_at w (.cells #[.int .i64 0, .slice none 0 0, .int .i64 0, .int .i64 0, .int .i64 0, .slice none 0 0] 34))
    have HX0 := Lib.hid (HX.out.ext hu0)
    have HRd := Lib.hid (HC.out.upto (hu0.mono (by simp)))
    have HpB : Hid (p < w.heap.size) := Lib.hid HR.out.lt
    obtain ⟨⟨v, hb, -, -⟩, -, -⟩ := id h0
    have b1 := cell_of hb 1
    have b2 := cell_of hb 2
    have b3 := cell_of hb 3
    have f1 := free_of hb 1
    have f3 := free_of hb 3
    unfold rdC at b1 b2 b3
    simp only [List.getElem?_toArray, List.getElem?_cons_zero, List.getElem?_cons_succ] at b1 b2 b3
    have HR0 := Lib.hid h0
    have HU0 := Lib.hid hu0
    clear h0 hb hu0
    clear b1 b2 f1 f3
    go_enter Tryz.func176, Tryz.ntmps176
    go_wp2_with fail
    generalize w.alloc (.cells #[.int .i64 0, .slice none 0 0, .int .i64 0, .int .i64 0, .int .i64 0, .slice none 0 0] 34) = W0 at *
    generalize hB : w.heap.size = B at *
    have HB := Lib.hid hB
    clear hB
    refine (wrong_calls W0 p 16 l s HR0.out).mono ?_
    rintro e w1 ⟨rfl, hR1, hu1⟩
    have hz := hu1.at HNew.out (by have := HpB.out; simp; omega)
    obtain ⟨z0, z1, z2, z3, z4, z5⟩ := cells6 hz
    obtain ⟨y0, y1, y2, y3, y4, y5⟩ := frees6 hz
    obtain ⟨⟨v1, hb1, -, -⟩, -, -⟩ := id hR1
    have b2 := cell_of hb1 2
    unfold rdC at b2
    simp only [List.getElem?_toArray, List.getElem?_cons_zero, List.getElem?_cons_succ] at b2
    have HR1 := Lib.hid hR1
    have HU1 := Lib.hid hu1
    have HZ := Lib.hid hz
    clear hR1 hu1 hb1 hz b3
    go_wp2_with fail
    obtain ⟨rfl, rfl⟩ := HV.out
    have hst := nd_store HZ.out (.int .i64 0) (.slice none 0 0) (.int .i64 0) (.int .i64 0) (.int .i64 0) (.slice none 0 0)
    obtain ⟨q0, q1, q2, q3, q4, q5⟩ := cells6 hst
    exact bodyPost_ret (v := .agg #[.int .i64 0, .slice none 0 0, .int .i64 0, .int .i64 0, .int .i64 0, .slice none 0 0]) (by simp [results, Tryz.results176, go_sem, q0, q1, q2, q3, q4, q5]) rfl (rdpost_zero HB.out HpB.out (HU0.out.mono (by simp)) HU1.out HR1.out HZ.out (Adv.wrong hin 16) zero_same)
  · have k6 : ((s.dp : Int) == 256) = false := by rw [beq_eq_false_iff_ne]; omega
    by_cases h0 : s.er = 0
    · have k3 : ((s.er : Int) != 0) = false := by rw [bne, show ((s.er : Int) == 0) = true by simp [h0]]; rfl
      have HV : Hid (∃ s2, of ⟨s.nx + 1, s.er, s.dp + 1⟩ = some (n, s2) ∧ s' = ⟨s2.nx, s2.er, s2.dp - 1⟩) := Lib.hid (by
        unfold levelP at he
        simp only [if_neg h6, if_pos h0] at he
        cases hq : of ⟨s.nx + 1, s.er, s.dp + 1⟩ with
        | none => rw [hq] at he; cases he
        | some r =>
          obtain ⟨n2, s2⟩ := r
          rw [hq] at he
          simp at he
          obtain ⟨rfl, rfl⟩ := he
          exact ⟨s2, rfl, rfl⟩)
      have hn0 : (0 : Int) ≤ s.nx := by omega
      have hn1 : (s.nx : Int) ≤ 1000000 := by omega
      have hd0 : (0 : Int) ≤ s.dp := by omega
      have hd1 : (s.dp : Int) ≤ 256 := by omega
      have HK := Lib.hid hk0
      have HD : Hid (s.dp ≤ 255) := Lib.hid (by omega)
      have HC := Lib.hid hr
      clear h6 h0 he hr hk0
      have hu0 : Upto [] w (w.alloc (.cells #[.int .i64 0, .slice none 0 0, .int .i64 0, .int .i64 0, .int .i64 0, .slice none 0 0] 34)) := (Upto.refl [] w).alloc _
      have h0 := HR.out.ext hu0
      have HNew := Lib.hid (new_at w (.cells #[.int .i64 0, .slice none 0 0, .int .i64 0, .int .i64 0, .int .i64 0, .slice none 0 0] 34))
      have HX0 := Lib.hid (HX.out.ext hu0)
      have HRd := Lib.hid (HC.out.upto (hu0.mono (by simp)))
      have HpB : Hid (p < w.heap.size) := Lib.hid HR.out.lt
      obtain ⟨⟨v, hb, -, -⟩, -, -⟩ := id h0
      have b1 := cell_of hb 1
      have b2 := cell_of hb 2
      have b3 := cell_of hb 3
      have f1 := free_of hb 1
      have f3 := free_of hb 3
      unfold rdC at b1 b2 b3
      simp only [List.getElem?_toArray, List.getElem?_cons_zero, List.getElem?_cons_succ] at b1 b2 b3
      have HR0 := Lib.hid h0
      have HU0 := Lib.hid hu0
      clear h0 hb hu0
      go_enter Tryz.func176, Tryz.ntmps176
      go_wp2_with fail
      obtain ⟨s2, he2, hs'⟩ := HV.out
      have h1 := HR0.out.step HK.out
      have h2 := h1.1.depth (s.dp + 1)
      have hc1 : (((s.dp + 1 : Nat)) : Int) = (s.dp : Int) + 1 := by omega
      have hsd : (stepF s).dp = s.dp := rfl
      rw [hc1] at h2
      have hu1 := h1.2.trans_same h2.2
      have HU1 := Lib.hid hu1
      refine (HRd.out _ ⟨s.nx + 1, s.er, s.dp + 1⟩ n s2 hu1 h2.1 (by have := HD.out; simp; omega) he2).mono ?_
      clear h1 h2 hu1 b1 b2 b3 f1 f3
      rintro e w2 ⟨vv, rfl, hn, hR2, hu2, ha⟩
      obtain ⟨op, n1, n2, n3, so, nn, mm, l1, l2, l3, rfl⟩ := hn.six
      have had := ha.dp
      simp only at had
      have hu3 : Upto [] w2 (w2.alloc (.cells #[.int .i64 op, .slice n1 n2 n3, .int .i64 so, .int .i64 nn, .int .i64 mm, .slice l1 l2 l3] 34)) := (Upto.refl [] w2).alloc _
      have hR3 := hR2.ext hu3
      obtain ⟨⟨v3, hb3, -, -⟩, -, -⟩ := id hR3
      have b3 := cell_of hb3 3
      have f3 := free_of hb3 3
      unfold rdC at b3
      simp only [List.getElem?_toArray, List.getElem?_cons_zero, List.getElem?_cons_succ] at b3
      have hD := hR3.depth (s2.dp - 1)
      have hc2 : (((s2.dp - 1 : Nat)) : Int) = (s2.dp : Int) - 1 := by omega
      rw [hc2] at hD
      have hsz : w.heap.size < w2.heap.size := Nat.lt_of_lt_of_le (lt_of_heap HNew.out) (HU1.out.trans_same hu2).size
      have hz := (hD.2.at (hu3.at ((HU1.out.trans_same hu2).at HNew.out (by have := HpB.out; simp; omega)) (by simp)) (by have := HpB.out; simp; omega))
      have hq := hD.2.at (new_at w2 (.cells #[.int .i64 op, .slice n1 n2 n3, .int .i64 so, .int .i64 nn, .int .i64 mm, .slice l1 l2 l3] 34)) (by have := HpB.out; simp; omega)
      obtain ⟨z0, z1, z2, z3, z4, z5⟩ := cells6 hz
      obtain ⟨y0, y1, y2, y3, y4, y5⟩ := frees6 hz
      obtain ⟨x0, x1, x2, x3, x4, x5⟩ := cells6 hq
      obtain ⟨u0, u1, u2, u3, u4, u5⟩ := frees6 hq
      have hd2 : (0 : Int) ≤ s2.dp := by omega
      have hd3 : (s2.dp : Int) ≤ 256 := by have := HD.out; omega
      have HZ := Lib.hid hz
      have HD2 := Lib.hid hD
      have HN := Lib.hid hn
      have HA := Lib.hid ha
      have HU2 := Lib.hid (hu2.trans_ext hu3)
      have HDP := Lib.hid had
      clear hz hq hD hb3 hR3 hu3 hn ha hu2 hR2 had hc1 hc2 hsd hsz
      go_wp2_with fail
      have hst := nd_store HZ.out (.int .i64 op) (.slice n1 n2 n3) (.int .i64 so) (.int .i64 nn) (.int .i64 mm) (.slice l1 l2 l3)
      obtain ⟨q0, q1, q2, q3, q4, q5⟩ := cells6 hst
      exact bodyPost_ret (v := .agg #[.int .i64 op, .slice n1 n2 n3, .int .i64 so, .int .i64 nn, .int .i64 mm, .slice l1 l2 l3]) (by simp [results, Tryz.results176, go_sem, q0, q1, q2, q3, q4, q5]) rfl (rdpost_fin rfl HpB.out ((HU0.out.mono (by simp)).trans_same HU1.out) (Nat.lt_of_lt_of_le (lt_of_heap HNew.out) HU1.out.size) (HU2.out.trans_same HD2.out.2) (by rw [hs']; exact HD2.out.1) HZ.out (by
        have h1 := HA.out.le
        have h2 := HA.out.lt
        have h3 := HDP.out
        rw [hs']
        exact ⟨by simp at h1 ⊢; omega, h2, by simp; omega⟩) ((HN.out.ext ((Upto.refl [] w2).alloc _)).upto HD2.out.2 (fun b hb _ => by have h1 := HU1.out.size; have h2 := lt_of_heap HNew.out; have h3 := HpB.out; unfold New at hb; simp; omega)))
    · have k3 : ((s.er : Int) != 0) = true := by rw [bne, show ((s.er : Int) == 0) = false by rw [beq_eq_false_iff_ne]; omega]; rfl
      have HV : Hid (n = .zero ∧ s' = s) := Lib.hid (by
        unfold levelP at he
        simp only [if_neg h6, if_neg h0] at he
        cases he
        exact ⟨rfl, rfl⟩)
      have HC := Lib.hid hr
      clear h6 h0 he hr hk
      have hu0 : Upto [] w (w.alloc (.cells #[.int .i64 0, .slice none 0 0, .int .i64 0, .int .i64 0, .int .i64 0, .slice none 0 0] 34)) := (Upto.refl [] w).alloc _
      have h0 := HR.out.ext hu0
      have HNew := Lib.hid (new_at w (.cells #[.int .i64 0, .slice none 0 0, .int .i64 0, .int .i64 0, .int .i64 0, .slice none 0 0] 34))
      have HX0 := Lib.hid (HX.out.ext hu0)
      have HRd := Lib.hid (HC.out.upto (hu0.mono (by simp)))
      have HpB : Hid (p < w.heap.size) := Lib.hid HR.out.lt
      obtain ⟨⟨v, hb, -, -⟩, -, -⟩ := id h0
      have b1 := cell_of hb 1
      have b2 := cell_of hb 2
      have b3 := cell_of hb 3
      have f1 := free_of hb 1
      have f3 := free_of hb 3
      unfold rdC at b1 b2 b3
      simp only [List.getElem?_toArray, List.getElem?_cons_zero, List.getElem?_cons_succ] at b1 b2 b3
      have HR0 := Lib.hid h0
      have HU0 := Lib.hid hu0
      clear h0 hb hu0
      have hz := HNew.out
      obtain ⟨z0, z1, z2, z3, z4, z5⟩ := cells6 hz
      obtain ⟨y0, y1, y2, y3, y4, y5⟩ := frees6 hz
      clear hz
      go_enter Tryz.func176, Tryz.ntmps176
      go_wp2_with fail
      generalize w.alloc (.cells #[.int .i64 0, .slice none 0 0, .int .i64 0, .int .i64 0, .int .i64 0, .slice none 0 0] 34) = W0 at *
      generalize hB : w.heap.size = B at *
      have HB := Lib.hid hB
      clear hB
      obtain ⟨rfl, rfl⟩ := HV.out
      exact bodyPost_ret (v := .agg #[.int .i64 0, .slice none 0 0, .int .i64 0, .int .i64 0, .int .i64 0, .slice none 0 0]) (by simp [results, Tryz.results176, go_sem, z0, z1, z2, z3, z4, z5]) rfl ⟨_, rfl, NdV.zero _ _, HR0.out, HU0.out.mono (by simp), Adv.refl hin⟩
def nxOf (w : World) (p : Nat) : Nat := match w.cell? ⟨p, 1, none⟩ with
  | some (.int _ x) => x.toNat
  | _ => 0
theorem RdAt.nx {w : World} {p : Nat} {l : List Tok} {s : PS} (h : RdAt w p l s) : nxOf w p = s.nx := by
  obtain ⟨⟨v, hb, -, -⟩, -, -⟩ := h
  unfold nxOf
  rw [cell_of hb 1]
  simp [rdC]
def Lo (w : World) (B Bn : Nat) (b : Nat) : Prop := New w b ∧ b ≠ B ∧ b ≠ Bn
def LeftI (w : World) (p B Bn : Nat) (l : List Tok) (x : List UInt8) (op : Int) (of : Rd) (n : Nd) (s s' : PS) (wr : World) : Prop :=
  ∃ k m t, leftLoop l x op of k m t = some (n, s') ∧ RdAt wr p l t ∧ Upto [p] w wr ∧ Adv l s t ∧ wr.heap[B]? = some (.cells #[.int .i64 0, .slice none 0 0, .int .i64 0, .int .i64 0, .int .i64 0, .slice none 0 0] 34 (0, 0)) ∧
    ∃ (oa : Int) (na1 : Option Addr) (na2 na3 : Nat) (sa ma qa : Int) (la1 : Option Addr) (la2 la3 : Nat), wr.heap[Bn]? = some (.cells #[.int .i64 oa, .slice na1 na2 na3, .int .i64 sa, .int .i64 ma, .int .i64 qa, .slice la1 la2 la3] 34 (0, 0)) ∧ NdV wr (Lo w B Bn) m (.agg #[.int .i64 oa, .slice na1 na2 na3, .int .i64 sa, .int .i64 ma, .int .i64 qa, .slice la1 la2 la3])
theorem LeftI.next {w w4 : World} {p B Bn : Nat} {l : List Tok} {x : List UInt8} {op : Int} {of : Rd} {n m m2 : Nd} {s s' t2 : PS} {k : Nat} {a0 a1 a2 a3 a4 a5 b0 b1 b2 b3 b4 b5 : Value}
    (hB : w.heap.size = B) (hp : p < B) (hBn : B < Bn) (hu : Upto [p] w w4) (hR : RdAt w4 p l t2) (hz : w4.heap[B]? = some (.cells #[.int .i64 0, .slice none 0 0, .int .i64 0, .int .i64 0, .int .i64 0, .slice none 0 0] 34 (0, 0))) {T : TypeId} {x0 x2 x3 x4 : Int} {x1 x5 : Value} (h1 : ∀ x, x1 ≠ .string x) (h5 : ∀ x, x5 ≠ .string x)
    (hn : w4.heap[Bn]? = some (.cells #[.int .i64 x0, x1, .int .i64 x2, .int .i64 x3, .int .i64 x4, x5] 34 (0, 0)))
    (hm : NdV w4 (Lo w B Bn) m (.agg #[a0, a1, a2, a3, a4, a5])) (hm2 : NdV w4 (Lo w B Bn) m2 (.agg #[b0, b1, b2, b3, b4, b5])) (hl : leftLoop l x op of k (.mk op [] 0 0 0 [m, m2]) t2 = some (n, s')) (ha : Adv l s t2) :
    LeftI w p B Bn l x op of n s s' ((((((((w4.alloc (.cells #[a0, a1, a2, a3, a4, a5, b0, b1, b2, b3, b4, b5] T)).setCell ⟨Bn, 0, none⟩ (.int .i64 op)).setCell ⟨Bn, 1, none⟩ (.slice none 0 0)).setCell ⟨Bn, 2, none⟩ (.int .i64 0)).setCell ⟨Bn, 3, none⟩ (.int .i64 0)).setCell ⟨Bn, 4, none⟩ (.int .i64 0)).setCell ⟨Bn, 5, none⟩ (.slice (some ⟨w4.heap.size, 0, none⟩) 2 2))) ∧ nxOf ((((((((w4.alloc (.cells #[a0, a1, a2, a3, a4, a5, b0, b1, b2, b3, b4, b5] T)).setCell ⟨Bn, 0, none⟩ (.int .i64 op)).setCell ⟨Bn, 1, none⟩ (.slice none 0 0)).setCell ⟨Bn, 2, none⟩ (.int .i64 0)).setCell ⟨Bn, 3, none⟩ (.int .i64 0)).setCell ⟨Bn, 4, none⟩ (.int .i64 0)).setCell ⟨Bn, 5, none⟩ (.slice (some ⟨w4.heap.size, 0, none⟩) 2 2))) p = t2.nx := by
  have hua : Upto [] w4 (w4.alloc (.cells #[a0, a1, a2, a3, a4, a5, b0, b1, b2, b3, b4, b5] T)) := (Upto.refl [] w4).alloc _
  have hlt := lt_of_heap hn
  have hnew := new_at w4 (.cells #[a0, a1, a2, a3, a4, a5, b0, b1, b2, b3, b4, b5] T)
  have hg : Lo w B Bn w4.heap.size := ⟨hu.size, by omega, by omega⟩
  have htwo := NdV.two (w := w4.alloc (.cells #[a0, a1, a2, a3, a4, a5, b0, b1, b2, b3, b4, b5] T)) (P := Lo w B Bn) (op := op) (so := 0) (names := []) SlP.nil (hm.ext hua) (hm2.ext hua) hg hnew
  have hnA := hua.at hn (by simp)
  have hst := nd_self (w4.alloc (.cells #[a0, a1, a2, a3, a4, a5, b0, b1, b2, b3, b4, b5] T)) Bn (.int .i64 op) (.slice none 0 0) (.int .i64 0) (.int .i64 0) (.int .i64 0) (.slice (some ⟨w4.heap.size, 0, none⟩) 2 2)
  have hbn := nd_store hnA (.int .i64 op) (.slice none 0 0) (.int .i64 0) (.int .i64 0) (.int .i64 0) (.slice (some ⟨w4.heap.size, 0, none⟩) 2 2)
  have hRF := (hR.ext hua).other hnA (nd_no_string h1 h5) hst (by omega)
  refine ⟨⟨k, _, t2, hl, hRF, nd_up (hu.trans_ext hua) (Or.inr (by omega)) .., ha, hst.at (hua.at hz (by simp)) (by simp; omega), op, none, 0, 0, 0, 0, 0, _, 2, 2, hbn, ?_⟩, hRF.nx⟩
  exact htwo.upto hst (fun b hb _ => by simp; exact hb.2.2)
theorem rdpost_lo {w w2 : World} {p B : Nat} {l : List Tok} {s s' : PS} {n : Nd} {P : Nat → Prop} (hB : w.heap.size = B) (hp : p < B) (hu : Upto [p] w w2) (hR : RdAt w2 p l s') {T : TypeId}
    (hz : w2.heap[B]? = some (.cells #[.int .i64 0, .slice none 0 0, .int .i64 0, .int .i64 0, .int .i64 0, .slice none 0 0] T (0, 0))) (ha : Adv l s s') {a b c d e f : Value} (hn : NdV w2 P n (.agg #[a, b, c, d, e, f])) (hP : ∀ b, P b → IsC w2 b → New w b ∧ b ≠ B) :
    RdPost w p l s n s' (.returned (.agg #[a, b, c, d, e, f])) ((((((w2.setCell ⟨B, 0, none⟩ a).setCell ⟨B, 1, none⟩ b).setCell ⟨B, 2, none⟩ c).setCell ⟨B, 3, none⟩ d).setCell ⟨B, 4, none⟩ e).setCell ⟨B, 5, none⟩ f) := by
  have hst := nd_self w2 B a b c d e f
  exact ⟨_, rfl, (hn.mono hP).upto hst (fun b hb _ => by simpa using hb.2) |>.mono fun b hb _ => hb.1, hR.other hz (nd_no_string (by simp) (by simp)) hst (by omega), nd_up hu (Or.inr (by omega)) .., ha⟩
set_option maxRecDepth 100000 in
set_option maxHeartbeats 6400000 in
theorem leftC_calls (w : World) (p : Nat) (l : List Tok) (s s' : PS) (n : Nd) (x : List UInt8) (op : Int) (k : FuncId) (a : Value) (of : Rd) (hx : Cx w p l) (h : RdAt w p l s) (hd : s.dp ≤ 256)
    (hk : ∀ args w, (callFunc k args).run Tryz.prog w = .ok (.enter k args) w) (hr : Rdr w p l k #[a] of) (he : leftP l x op of s = some (n, s')) :
    Calls Tryz.prog 91 #[.pointer (some ⟨p, 0, none⟩), .string ⟨x.toArray⟩, .int .i64 op, .func (.func k) #[] #[a]] w (RdPost w p l s n s') := by
  have HF : Hid (Fin l) := Lib.hid h.fin
  have HX := Lib.hid hx
  have HpB : Hid (p < w.heap.size) := Lib.hid h.lt
  have HV : Hid (∃ m t, of s = some (m, t) ∧ leftLoop l x op of (l.length + 1) m t = some (n, s')) := Lib.hid (by
    unfold leftP at he
    cases hq : of s with
    | none => rw [hq] at he; cases he
    | some r => obtain ⟨m, t⟩ := r; rw [hq] at he; exact ⟨m, t, rfl, he⟩)
  have hu0 : Upto [] w (w.alloc (.cells #[.int .i64 0, .slice none 0 0, .int .i64 0, .int .i64 0, .int .i64 0, .slice none 0 0] 34)) := (Upto.refl [] w).alloc _
  have HU0 := Lib.hid hu0
  have HR0 := Lib.hid (h.ext hu0)
  have HNew := Lib.hid (new_at w (.cells #[.int .i64 0, .slice none 0 0, .int .i64 0, .int .i64 0, .int .i64 0, .slice none 0 0] 34))
  have HRd := Lib.hid hr
  clear hx h he hu0 hr
  go_enter Tryz.func91, Tryz.ntmps91
  go_wp2_with fail
  obtain ⟨m, t, he1, he2⟩ := HV.out
  refine (HRd.out _ s m t (HU0.out.mono (by simp)) HR0.out hd he1).mono ?_
  rintro e w2 ⟨vv, rfl, hn, hR2, hu2, ha⟩
  obtain ⟨oa, na1, na2, na3, sa, ma, qa, la1, la2, la3, rfl⟩ := hn.six
  have HN := Lib.hid hn
  have HR2 := Lib.hid hR2
  have HU2 := Lib.hid hu2
  have HA := Lib.hid ha
  clear hn hR2 hu2 ha
  go_wp2_with fail
  have hsz : w.heap.size < w2.heap.size := Nat.lt_of_lt_of_le (lt_of_heap HNew.out) HU2.out.size
  have HI0 : Hid (LeftI w p w.heap.size w2.heap.size l x op of n s s' (w2.alloc (.cells #[.int .i64 oa, .slice na1 na2 na3, .int .i64 sa, .int .i64 ma, .int .i64 qa, .slice la1 la2 la3] 34))) := Lib.hid (by
    have hua : Upto [] w2 (w2.alloc (.cells #[.int .i64 oa, .slice na1 na2 na3, .int .i64 sa, .int .i64 ma, .int .i64 qa, .slice la1 la2 la3] 34)) := (Upto.refl [] w2).alloc _
    refine ⟨_, m, t, he2, HR2.out.ext hua, ((HU0.out.mono (by simp)).trans_same HU2.out).trans_ext hua, HA.out, hua.at (HU2.out.at HNew.out (by have := HpB.out; simp; omega)) (by simp), oa, na1, na2, na3, sa, ma, qa, la1, la2, la3, new_at _ _, ?_⟩
    refine (HN.out.mono fun b hb hl => ?_).ext hua
    have h1 : w.heap.size < b := Nat.lt_of_lt_of_le (lt_of_heap HNew.out) hb
    have h2 := hl.lt
    exact ⟨Nat.le_of_lt h1, by omega, by omega⟩)
  generalize hBn : w2.heap.size = Bn at *
  generalize hB : w.heap.size = B at *
  have HBn := Lib.hid hsz
  have HB := Lib.hid hB
  clear hsz hB hBn he1 he2
  go_loopw [] (fun wr => Hid (LeftI w p B Bn l x op of n s s' wr)) (fun wr => l.length - nxOf wr p)
  case atStart => exact HI0
  case round =>
    obtain ⟨j, m3, t3, hl3, hR3, hu3, ha3, hz3, oa, na1, na2, na3, sa, ma, qa, la1, la2, la3, hn3, hm3⟩ := hrel.out
    have HI := Lib.hid (And.intro hR3 (And.intro hu3 (And.intro ha3 (And.intro hz3 (And.intro hn3 hm3)))))
    have HC := Lib.hid (takes_calls wr p l t3 x hR3 HX.out.len)
    have HNX := Lib.hid hR3.nx
    have HNXI := Lib.hid hR3.inb
    clear hrel HI0
    cases j with
    | zero => unfold leftLoop at hl3; cases hl3
    | succ j =>
    unfold leftLoop at hl3
    cases hv : isF l x t3 with
    | true =>
      rw [hv] at HC hl3
      have HT : Hid ((takesF l x t3).2 = stepF t3) := Lib.hid (by unfold takesF; rw [if_pos hv])
      have HV2 : Hid (∃ m4 t4, of (stepF t3) = some (m4, t4) ∧ leftLoop l x op of j (.mk op [] 0 0 0 [m3, m4]) t4 = some (n, s')) := Lib.hid (by
        simp only [if_true] at hl3
        cases hq : of (stepF t3) with
        | none => rw [hq] at hl3; cases hl3
        | some r => obtain ⟨m4, t4⟩ := r; rw [hq] at hl3; exact ⟨m4, t4, rfl, hl3⟩)
      have HK := Lib.hid (isF_kind hv)
      clear hR3 hu3 ha3 hz3 hn3 hm3 hl3 hv
      go_wp2_with fail
      refine HC.out.mono ?_
      rintro e w3 ⟨rfl, hR3, hu3⟩
      rw [HT.out] at hR3
      have hd3 : Upto [] w3 w3.drew := (Upto.refl [] w3).drew
      have hn3 := hd3.at (hu3.at HI.out.2.2.2.2.1 (by have := HBn.out; have := HpB.out; have := HB.out; simp; omega)) (by simp)
      obtain ⟨x0, x1, x2, x3, x4, x5⟩ := cells6 hn3
      obtain ⟨y0, y1, y2, y3, y4, y5⟩ := frees6 hn3
      have HR3 := Lib.hid (hR3.ext hd3)
      have HU3 := Lib.hid (hu3.trans_ext hd3)
      have HN3 := Lib.hid hn3
      have hp2 : Bn ≠ p := by have := HBn.out; have := HpB.out; omega
      have HP2 := Lib.hid hp2
      clear hR3 hd3 hu3 hn3 hp2
      go_wp2_with fail
      go_region_with (
        obtain ⟨m4, t4, he4, hl4⟩ := HV2.out
        refine (HRd.out _ (stepF t3) m4 t4 (HI.out.2.1.trans_same HU3.out) HR3.out (by have h1 := HI.out.2.2.1.dp; show t3.dp ≤ 256; omega) he4).mono ?_
        rintro e w4 ⟨v4, rfl, hn4, hR4, hu4, ha4⟩
        obtain ⟨ob, nb1, nb2, nb3, sb, mb, qb, lb1, lb2, lb3, rfl⟩ := hn4.six
        have hb4 := hu4.at HN3.out (by simpa using HP2.out)
        have hb5 := ((Upto.refl [] w4).alloc (.cells #[.int .i64 oa, .slice na1 na2 na3, .int .i64 sa, .int .i64 ma, .int .i64 qa, .slice la1 la2 la3, .int .i64 ob, .slice nb1 nb2 nb3, .int .i64 sb, .int .i64 mb, .int .i64 qb, .slice lb1 lb2 lb3] 34)).at hb4 (by simp)
        obtain ⟨g0, g1, g2, g3, g4, g5⟩ := cells6 hb4
        obtain ⟨h0, h1, h2, h3, h4, h5⟩ := frees6 hb4
        obtain ⟨z0, z1, z2, z3, z4, z5⟩ := cells6 hb5
        obtain ⟨u0, u1, u2, u3, u4, u5⟩ := frees6 hb5
        have HN4 := Lib.hid hn4
        have HR4 := Lib.hid hR4
        have HU4 := Lib.hid hu4
        have HA4 := Lib.hid ha4
        have HB4 := Lib.hid hb4
        have HL4 := Lib.hid hl4
        clear hn4 hR4 hu4 ha4 hb4 hb5 hl4 he4)
      all_goals (
        have q1 := HI.out
        have q2 := HU3.out
        have q3 := HU4.out
        have q4 := HB.out
        have q5 := HpB.out
        have q6 := HBn.out
        have q7 := HN3.out
        have q8 := q2.size
        have q9 := q1.2.1.size
        have hBlt := lt_of_heap q1.2.2.2.1
        have hBnlt := lt_of_heap q7
        have HQ := (LeftI.next (T := 34) q4 (by omega) q6 ((q1.2.1.trans_same q2).trans_same q3) HR4.out (q3.at (q2.at q1.2.2.2.1 (by simp; omega)) (by simp; omega)) (by simp) (by simp) HB4.out
            ((q1.2.2.2.2.2.upto q2 (fun b hb _ => by have h1 := hb.1; unfold New at h1; simp; omega)).upto q3 (fun b hb _ => by have h1 := hb.1; unfold New at h1; simp; omega))
            (HN4.out.mono (fun b hb _ => ⟨by unfold New at hb ⊢; omega, by unfold New at hb; omega, by unfold New at hb; omega⟩)) HL4.out (q1.2.2.1.trans ((Adv.step HF.out HNXI.out HK.out).trans HA4.out)))
        have e1 := HNX.out
        have e2 := HA4.out.le
        have e3 := HA4.out.lt
        have e4 : (stepF t3).nx = t3.nx + 1 := rfl
        exact ⟨⟨_, _, _, _, _, _, _, _, _, Lib.hid HQ.1, rfl⟩, by rw [HQ.2, e1]; omega⟩)
    | false =>
      rw [hv] at HC hl3
      have HT : Hid ((takesF l x t3).2 = t3) := Lib.hid (by unfold takesF; rw [hv]; rfl)
      simp at hl3
      obtain ⟨rfl, rfl⟩ := hl3
      clear hR3 hu3 ha3 hz3 hn3 hm3 hv
      go_wp2_with fail
      refine HC.out.mono ?_
      rintro e w3 ⟨rfl, hR3, hu3⟩
      rw [HT.out] at hR3
      have hn3 := hu3.at HI.out.2.2.2.2.1 (by have := HBn.out; have := HpB.out; have := HB.out; simp; omega)
      have hz3 := hu3.at HI.out.2.2.2.1 (by have := HBn.out; have := HpB.out; have := HB.out; simp; omega)
      obtain ⟨x0, x1, x2, x3, x4, x5⟩ := cells6 hn3
      obtain ⟨y0, y1, y2, y3, y4, y5⟩ := frees6 hn3
      obtain ⟨z0, z1, z2, z3, z4, z5⟩ := cells6 hz3
      obtain ⟨u0, u1, u2, u3, u4, u5⟩ := frees6 hz3
      have HZ3 := Lib.hid hz3
      have HR3 := Lib.hid hR3
      have HU3 := Lib.hid hu3
      clear hR3 hu3 hn3 hz3
      go_wp2_with fail
      have hst := nd_store HZ3.out (.int .i64 oa) (.slice na1 na2 na3) (.int .i64 sa) (.int .i64 ma) (.int .i64 qa) (.slice la1 la2 la3)
      obtain ⟨q0, q1, q2, q3, q4, q5⟩ := cells6 hst
      exact bodyPost_ret (v := .agg #[.int .i64 oa, .slice na1 na2 na3, .int .i64 sa, .int .i64 ma, .int .i64 qa, .slice la1 la2 la3]) (by simp [results, Tryz.results91, go_sem, q0, q1, q2, q3, q4, q5]) rfl (rdpost_lo HB.out (by have := HB.out; have := HpB.out; omega) (HI.out.2.1.trans_same HU3.out) HR3.out HZ3.out HI.out.2.2.1 (HI.out.2.2.2.2.2.upto HU3.out (fun b hb _ => by have h1 := hb.1; unfold New at h1; have := HpB.out; have := HB.out; simp; omega)) (fun b hb _ => ⟨hb.1, hb.2.1⟩))
set_option maxRecDepth 100000 in
set_option maxHeartbeats 6400000 in
theorem leftB_calls (w : World) (p : Nat) (l : List Tok) (s s' : PS) (n : Nd) (x : List UInt8) (op : Int) (k : FuncId) (a : Value) (of : Rd) (hx : Cx w p l) (h : RdAt w p l s) (hd : s.dp ≤ 256)
    (hk : ∀ args w, (callFunc k args).run Tryz.prog w = .ok (.enter k args) w) (hr : Rdr w p l k #[a] of) (he : leftP l x op of s = some (n, s')) :
    Calls Tryz.prog 91 #[.pointer (some ⟨p, 0, none⟩), .string ⟨x.toArray⟩, .int .i64 op, .func (.func k) #[a] #[]] w (RdPost w p l s n s') := by
  have HF : Hid (Fin l) := Lib.hid h.fin
  have HX := Lib.hid hx
  have HpB : Hid (p < w.heap.size) := Lib.hid h.lt
  have HV : Hid (∃ m t, of s = some (m, t) ∧ leftLoop l x op of (l.length + 1) m t = some (n, s')) := Lib.hid (by
    unfold leftP at he
    cases hq : of s with
    | none => rw [hq] at he; cases he
    | some r => obtain ⟨m, t⟩ := r; rw [hq] at he; exact ⟨m, t, rfl, he⟩)
  have hu0 : Upto [] w (w.alloc (.cells #[.int .i64 0, .slice none 0 0, .int .i64 0, .int .i64 0, .int .i64 0, .slice none 0 0] 34)) := (Upto.refl [] w).alloc _
  have HU0 := Lib.hid hu0
  have HR0 := Lib.hid (h.ext hu0)
  have HNew := Lib.hid (new_at w (.cells #[.int .i64 0, .slice none 0 0, .int .i64 0, .int .i64 0, .int .i64 0, .slice none 0 0] 34))
  have HRd := Lib.hid hr
  clear hx h he hu0 hr
  go_enter Tryz.func91, Tryz.ntmps91
  go_wp2_with fail
  obtain ⟨m, t, he1, he2⟩ := HV.out
  refine (HRd.out _ s m t (HU0.out.mono (by simp)) HR0.out hd he1).mono ?_
  rintro e w2 ⟨vv, rfl, hn, hR2, hu2, ha⟩
  obtain ⟨oa, na1, na2, na3, sa, ma, qa, la1, la2, la3, rfl⟩ := hn.six
  have HN := Lib.hid hn
  have HR2 := Lib.hid hR2
  have HU2 := Lib.hid hu2
  have HA := Lib.hid ha
  clear hn hR2 hu2 ha
  go_wp2_with fail
  have hsz : w.heap.size < w2.heap.size := Nat.lt_of_lt_of_le (lt_of_heap HNew.out) HU2.out.size
  have HI0 : Hid (LeftI w p w.heap.size w2.heap.size l x op of n s s' (w2.alloc (.cells #[.int .i64 oa, .slice na1 na2 na3, .int .i64 sa, .int .i64 ma, .int .i64 qa, .slice la1 la2 la3] 34))) := Lib.hid (by
    have hua : Upto [] w2 (w2.alloc (.cells #[.int .i64 oa, .slice na1 na2 na3, .int .i64 sa, .int .i64 ma, .int .i64 qa, .slice la1 la2 la3] 34)) := (Upto.refl [] w2).alloc _
    refine ⟨_, m, t, he2, HR2.out.ext hua, ((HU0.out.mono (by simp)).trans_same HU2.out).trans_ext hua, HA.out, hua.at (HU2.out.at HNew.out (by have := HpB.out; simp; omega)) (by simp), oa, na1, na2, na3, sa, ma, qa, la1, la2, la3, new_at _ _, ?_⟩
    refine (HN.out.mono fun b hb hl => ?_).ext hua
    have h1 : w.heap.size < b := Nat.lt_of_lt_of_le (lt_of_heap HNew.out) hb
    have h2 := hl.lt
    exact ⟨Nat.le_of_lt h1, by omega, by omega⟩)
  generalize hBn : w2.heap.size = Bn at *
  generalize hB : w.heap.size = B at *
  have HBn := Lib.hid hsz
  have HB := Lib.hid hB
  clear hsz hB hBn he1 he2
  go_loopw [] (fun wr => Hid (LeftI w p B Bn l x op of n s s' wr)) (fun wr => l.length - nxOf wr p)
  case atStart => exact HI0
  case round =>
    obtain ⟨j, m3, t3, hl3, hR3, hu3, ha3, hz3, oa, na1, na2, na3, sa, ma, qa, la1, la2, la3, hn3, hm3⟩ := hrel.out
    have HI := Lib.hid (And.intro hR3 (And.intro hu3 (And.intro ha3 (And.intro hz3 (And.intro hn3 hm3)))))
    have HC := Lib.hid (takes_calls wr p l t3 x hR3 HX.out.len)
    have HNX := Lib.hid hR3.nx
    have HNXI := Lib.hid hR3.inb
    clear hrel HI0
    cases j with
    | zero => unfold leftLoop at hl3; cases hl3
    | succ j =>
    unfold leftLoop at hl3
    cases hv : isF l x t3 with
    | true =>
      rw [hv] at HC hl3
      have HT : Hid ((takesF l x t3).2 = stepF t3) := Lib.hid (by unfold takesF; rw [if_pos hv])
      have HV2 : Hid (∃ m4 t4, of (stepF t3) = some (m4, t4) ∧ leftLoop l x op of j (.mk op [] 0 0 0 [m3, m4]) t4 = some (n, s')) := Lib.hid (by
        simp only [if_true] at hl3
        cases hq : of (stepF t3) with
        | none => rw [hq] at hl3; cases hl3
        | some r => obtain ⟨m4, t4⟩ := r; rw [hq] at hl3; exact ⟨m4, t4, rfl, hl3⟩)
      have HK := Lib.hid (isF_kind hv)
      clear hR3 hu3 ha3 hz3 hn3 hm3 hl3 hv
      go_wp2_with fail
      refine HC.out.mono ?_
      rintro e w3 ⟨rfl, hR3, hu3⟩
      rw [HT.out] at hR3
      have hd3 : Upto [] w3 w3.drew := (Upto.refl [] w3).drew
      have hn3 := hd3.at (hu3.at HI.out.2.2.2.2.1 (by have := HBn.out; have := HpB.out; have := HB.out; simp; omega)) (by simp)
      obtain ⟨x0, x1, x2, x3, x4, x5⟩ := cells6 hn3
      obtain ⟨y0, y1, y2, y3, y4, y5⟩ := frees6 hn3
      have HR3 := Lib.hid (hR3.ext hd3)
      have HU3 := Lib.hid (hu3.trans_ext hd3)
      have HN3 := Lib.hid hn3
      have hp2 : Bn ≠ p := by have := HBn.out; have := HpB.out; omega
      have HP2 := Lib.hid hp2
      clear hR3 hd3 hu3 hn3 hp2
      go_wp2_with fail
      go_region_with (
        obtain ⟨m4, t4, he4, hl4⟩ := HV2.out
        refine (HRd.out _ (stepF t3) m4 t4 (HI.out.2.1.trans_same HU3.out) HR3.out (by have h1 := HI.out.2.2.1.dp; show t3.dp ≤ 256; omega) he4).mono ?_
        rintro e w4 ⟨v4, rfl, hn4, hR4, hu4, ha4⟩
        obtain ⟨ob, nb1, nb2, nb3, sb, mb, qb, lb1, lb2, lb3, rfl⟩ := hn4.six
        have hb4 := hu4.at HN3.out (by simpa using HP2.out)
        have hb5 := ((Upto.refl [] w4).alloc (.cells #[.int .i64 oa, .slice na1 na2 na3, .int .i64 sa, .int .i64 ma, .int .i64 qa, .slice la1 la2 la3, .int .i64 ob, .slice nb1 nb2 nb3, .int .i64 sb, .int .i64 mb, .int .i64 qb, .slice lb1 lb2 lb3] 34)).at hb4 (by simp)
        obtain ⟨g0, g1, g2, g3, g4, g5⟩ := cells6 hb4
        obtain ⟨h0, h1, h2, h3, h4, h5⟩ := frees6 hb4
        obtain ⟨z0, z1, z2, z3, z4, z5⟩ := cells6 hb5
        obtain ⟨u0, u1, u2, u3, u4, u5⟩ := frees6 hb5
        have HN4 := Lib.hid hn4
        have HR4 := Lib.hid hR4
        have HU4 := Lib.hid hu4
        have HA4 := Lib.hid ha4
        have HB4 := Lib.hid hb4
        have HL4 := Lib.hid hl4
        clear hn4 hR4 hu4 ha4 hb4 hb5 hl4 he4)
      all_goals (
        have q1 := HI.out
        have q2 := HU3.out
        have q3 := HU4.out
        have q4 := HB.out
        have q5 := HpB.out
        have q6 := HBn.out
        have q7 := HN3.out
        have q8 := q2.size
        have q9 := q1.2.1.size
        have hBlt := lt_of_heap q1.2.2.2.1
        have hBnlt := lt_of_heap q7
        have HQ := (LeftI.next (T := 34) q4 (by omega) q6 ((q1.2.1.trans_same q2).trans_same q3) HR4.out (q3.at (q2.at q1.2.2.2.1 (by simp; omega)) (by simp; omega)) (by simp) (by simp) HB4.out
            ((q1.2.2.2.2.2.upto q2 (fun b hb _ => by have h1 := hb.1; unfold New at h1; simp; omega)).upto q3 (fun b hb _ => by have h1 := hb.1; unfold New at h1; simp; omega))
            (HN4.out.mono (fun b hb _ => ⟨by unfold New at hb ⊢; omega, by unfold New at hb; omega, by unfold New at hb; omega⟩)) HL4.out (q1.2.2.1.trans ((Adv.step HF.out HNXI.out HK.out).trans HA4.out)))
        have e1 := HNX.out
        have e2 := HA4.out.le
        have e3 := HA4.out.lt
        have e4 : (stepF t3).nx = t3.nx + 1 := rfl
        exact ⟨⟨_, _, _, _, _, _, _, _, _, Lib.hid HQ.1, rfl⟩, by rw [HQ.2, e1]; omega⟩)
    | false =>
      rw [hv] at HC hl3
      have HT : Hid ((takesF l x t3).2 = t3) := Lib.hid (by unfold takesF; rw [hv]; rfl)
      simp at hl3
      obtain ⟨rfl, rfl⟩ := hl3
      clear hR3 hu3 ha3 hz3 hn3 hm3 hv
      go_wp2_with fail
      refine HC.out.mono ?_
      rintro e w3 ⟨rfl, hR3, hu3⟩
      rw [HT.out] at hR3
      have hn3 := hu3.at HI.out.2.2.2.2.1 (by have := HBn.out; have := HpB.out; have := HB.out; simp; omega)
      have hz3 := hu3.at HI.out.2.2.2.1 (by have := HBn.out; have := HpB.out; have := HB.out; simp; omega)
      obtain ⟨x0, x1, x2, x3, x4, x5⟩ := cells6 hn3
      obtain ⟨y0, y1, y2, y3, y4, y5⟩ := frees6 hn3
      obtain ⟨z0, z1, z2, z3, z4, z5⟩ := cells6 hz3
      obtain ⟨u0, u1, u2, u3, u4, u5⟩ := frees6 hz3
      have HZ3 := Lib.hid hz3
      have HR3 := Lib.hid hR3
      have HU3 := Lib.hid hu3
      clear hR3 hu3 hn3 hz3
      go_wp2_with fail
      have hst := nd_store HZ3.out (.int .i64 oa) (.slice na1 na2 na3) (.int .i64 sa) (.int .i64 ma) (.int .i64 qa) (.slice la1 la2 la3)
      obtain ⟨q0, q1, q2, q3, q4, q5⟩ := cells6 hst
      exact bodyPost_ret (v := .agg #[.int .i64 oa, .slice na1 na2 na3, .int .i64 sa, .int .i64 ma, .int .i64 qa, .slice la1 la2 la3]) (by simp [results, Tryz.results91, go_sem, q0, q1, q2, q3, q4, q5]) rfl (rdpost_lo HB.out (by have := HB.out; have := HpB.out; omega) (HI.out.2.1.trans_same HU3.out) HR3.out HZ3.out HI.out.2.2.1 (HI.out.2.2.2.2.2.upto HU3.out (fun b hb _ => by have h1 := hb.1; unfold New at h1; have := HpB.out; have := HB.out; simp; omega)) (fun b hb _ => ⟨hb.1, hb.2.1⟩))
theorem rdpost_at {w w2 : World} {p B : Nat} {l : List Tok} {s s' : PS} {n : Nd} {P : Nat → Prop} (hB : w.heap.size ≤ B) (hp : p < B) (hu : Upto [p] w w2) (hR : RdAt w2 p l s') {T : TypeId}
    (hz : w2.heap[B]? = some (.cells #[.int .i64 0, .slice none 0 0, .int .i64 0, .int .i64 0, .int .i64 0, .slice none 0 0] T (0, 0))) (ha : Adv l s s') {a b c d e f : Value} (hn : NdV w2 P n (.agg #[a, b, c, d, e, f])) (hP : ∀ b, P b → IsC w2 b → New w b ∧ b ≠ B) :
    RdPost w p l s n s' (.returned (.agg #[a, b, c, d, e, f])) ((((((w2.setCell ⟨B, 0, none⟩ a).setCell ⟨B, 1, none⟩ b).setCell ⟨B, 2, none⟩ c).setCell ⟨B, 3, none⟩ d).setCell ⟨B, 4, none⟩ e).setCell ⟨B, 5, none⟩ f) := by
  have hst := nd_self w2 B a b c d e f
  exact ⟨_, rfl, (hn.mono hP).upto hst (fun b hb _ => by simpa using hb.2) |>.mono fun b hb _ => hb.1, hR.other hz (nd_no_string (by simp) (by simp)) hst (by omega), nd_up hu (Or.inr hB) .., ha⟩
set_option maxRecDepth 100000 in
set_option maxHeartbeats 6400000 in
theorem ors1_calls (w : World) (p : Nat) (l : List Tok) (s s' : PS) (n : Nd) (Br : Nat) (of : Rd) (hx : Cx w p l) (h : RdAt w p l s) (hd : s.dp ≤ 256) (hb : w.heap[Br]? = some (.cells #[.pointer (some ⟨p, 0, none⟩)] 88 (0, 0))) (hop : Rdr w p l 147 #[.pointer (some ⟨p, 0, none⟩)] of) (he : leftP l [97, 110, 100] 12 of s = some (n, s')) :
    Calls Tryz.prog 146 #[.pointer (some ⟨Br, 0, none⟩)] w (RdPost w p l s n s') := by
  have HpB : Hid (p < w.heap.size) := Lib.hid h.lt
  have hu0 : Upto [] w (w.alloc (.cells #[.int .i64 0, .slice none 0 0, .int .i64 0, .int .i64 0, .int .i64 0, .slice none 0 0] 34)) := (Upto.refl [] w).alloc _
  have HR0 := Lib.hid (h.ext hu0)
  have HX0 := Lib.hid (hx.ext hu0)
  have HU0 : Hid (Upto [p] w (w.alloc (.cells #[.int .i64 0, .slice none 0 0, .int .i64 0, .int .i64 0, .int .i64 0, .slice none 0 0] 34))) := Lib.hid (hu0.mono (by simp))
  have HNew : Hid ((w.alloc (.cells #[.int .i64 0, .slice none 0 0, .int .i64 0, .int .i64 0, .int .i64 0, .slice none 0 0] 34)).heap[w.heap.size]? = some (.cells #[.int .i64 0, .slice none 0 0, .int .i64 0, .int .i64 0, .int .i64 0, .slice none 0 0] 34 (0, 0))) := Lib.hid (new_at _ _)
  have hb0 := hu0.at hb (by simp)
  have c0 := cell_of hb0 0
  simp only [List.getElem?_toArray, List.getElem?_cons_zero] at c0
  have HOP := Lib.hid (hop.upto HU0.out)
  clear hx h hu0 hb hb0 hop
  go_enter Tryz.func146, Tryz.ntmps146
  go_wp2_with fail
  refine (leftB_calls _ p l s s' n [97, 110, 100] 12 147 _ of HX0.out HR0.out hd (run_enter Tryz.func147 (by kernel_rfl) rfl) HOP.out he).mono ?_
  clear c0
  rintro e w2 ⟨vv, rfl, hn, hR2, hu2, ha⟩
  obtain ⟨oa, na1, na2, na3, sa, ma, qa, la1, la2, la3, rfl⟩ := hn.six
  have hz := hu2.at HNew.out (by have := HpB.out; simp; omega)
  obtain ⟨z0, z1, z2, z3, z4, z5⟩ := cells6 hz
  obtain ⟨y0, y1, y2, y3, y4, y5⟩ := frees6 hz
  have HZ := Lib.hid hz
  have HN := Lib.hid hn
  have HR2 := Lib.hid hR2
  have HU2 := Lib.hid hu2
  have HA := Lib.hid ha
  clear hn hR2 hu2 ha hz
  go_wp2_with fail
  have hst := nd_store HZ.out (.int .i64 oa) (.slice na1 na2 na3) (.int .i64 sa) (.int .i64 ma) (.int .i64 qa) (.slice la1 la2 la3)
  obtain ⟨q0, q1, q2, q3, q4, q5⟩ := cells6 hst
  exact bodyPost_ret (v := .agg #[.int .i64 oa, .slice na1 na2 na3, .int .i64 sa, .int .i64 ma, .int .i64 qa, .slice la1 la2 la3]) (by simp [results, Tryz.results146, go_sem, q0, q1, q2, q3, q4, q5]) rfl (rdpost_at (by omega) (by have := HpB.out; omega) (HU0.out.trans_same HU2.out) HR2.out HZ.out HA.out HN.out (fun b hb _ => by have h1 := HU0.out.size; have h2 := lt_of_heap HNew.out; unfold New at hb ⊢; omega))
set_option maxRecDepth 100000 in
set_option maxHeartbeats 6400000 in
theorem ors_calls (w : World) (p : Nat) (l : List Tok) (s s' : PS) (n : Nd) (of : Rd) (hx : Cx w p l) (h : RdAt w p l s) (hd : s.dp ≤ 256) (hop : Rdr w p l 147 #[.pointer (some ⟨p, 0, none⟩)] of) (he : orsP l of s = some (n, s')) :
    Calls Tryz.prog 124 #[.pointer (some ⟨p, 0, none⟩)] w (RdPost w p l s n s') := by
  have HpB : Hid (p < w.heap.size) := Lib.hid h.lt
  have hu0 : Upto [] w ((w.alloc (.cells #[.pointer (some ⟨p, 0, none⟩)] 88)).alloc (.cells #[.int .i64 0, .slice none 0 0, .int .i64 0, .int .i64 0, .int .i64 0, .slice none 0 0] 34)) := ((Upto.refl [] w).alloc _).alloc _
  have HR0 := Lib.hid (h.ext hu0)
  have HX0 := Lib.hid (hx.ext hu0)
  have HU0 : Hid (Upto [p] w ((w.alloc (.cells #[.pointer (some ⟨p, 0, none⟩)] 88)).alloc (.cells #[.int .i64 0, .slice none 0 0, .int .i64 0, .int .i64 0, .int .i64 0, .slice none 0 0] 34))) := Lib.hid (hu0.mono (by simp))
  have HNew : Hid (((w.alloc (.cells #[.pointer (some ⟨p, 0, none⟩)] 88)).alloc (.cells #[.int .i64 0, .slice none 0 0, .int .i64 0, .int .i64 0, .int .i64 0, .slice none 0 0] 34)).heap[w.heap.size + 1]? = some (.cells #[.int .i64 0, .slice none 0 0, .int .i64 0, .int .i64 0, .int .i64 0, .slice none 0 0] 34 (0, 0))) := Lib.hid (new_at1 _ _ _)
  have hb0 : ((w.alloc (.cells #[.pointer (some ⟨p, 0, none⟩)] 88)).alloc (.cells #[.int .i64 0, .slice none 0 0, .int .i64 0, .int .i64 0, .int .i64 0, .slice none 0 0] 34)).heap[w.heap.size]? = some (.cells #[.pointer (some ⟨p, 0, none⟩)] 88 (0, 0)) := alloc_old (new_at _ _) _
  have c0 := cell_of hb0 0
  simp only [List.getElem?_toArray, List.getElem?_cons_zero] at c0
  have HB0 := Lib.hid hb0
  clear hb0
  have HOP := Lib.hid (hop.upto HU0.out)
  have HO1 : Hid (Rdr ((w.alloc (.cells #[.pointer (some ⟨p, 0, none⟩)] 88)).alloc (.cells #[.int .i64 0, .slice none 0 0, .int .i64 0, .int .i64 0, .int .i64 0, .slice none 0 0] 34)) p l 146 #[.pointer (some ⟨w.heap.size, 0, none⟩)] (leftP l [97, 110, 100] 12 of)) := Lib.hid (fun w1 s1 n1 s2 h1 h2 h3 h4 =>
    ors1_calls w1 p l s1 s2 n1 w.heap.size of (HX0.out.upto h1) h2 h3 (h1.at HB0.out (by have := HpB.out; simp; omega)) (HOP.out.upto h1) h4)
  clear hx h hu0 hop
  go_enter Tryz.func124, Tryz.ntmps124
  go_wp2_with fail
  refine (leftC_calls _ p l s s' n [111, 114] 13 146 _ _ HX0.out HR0.out hd (run_enter Tryz.func146 (by kernel_rfl) rfl) HO1.out he).mono ?_
  clear c0
  rintro e w2 ⟨vv, rfl, hn, hR2, hu2, ha⟩
  obtain ⟨oa, na1, na2, na3, sa, ma, qa, la1, la2, la3, rfl⟩ := hn.six
  have hz := hu2.at HNew.out (by have := HpB.out; simp; omega)
  obtain ⟨z0, z1, z2, z3, z4, z5⟩ := cells6 hz
  obtain ⟨y0, y1, y2, y3, y4, y5⟩ := frees6 hz
  have HZ := Lib.hid hz
  have HN := Lib.hid hn
  have HR2 := Lib.hid hR2
  have HU2 := Lib.hid hu2
  have HA := Lib.hid ha
  clear hn hR2 hu2 ha hz
  go_wp2_with fail
  have hst := nd_store HZ.out (.int .i64 oa) (.slice na1 na2 na3) (.int .i64 sa) (.int .i64 ma) (.int .i64 qa) (.slice la1 la2 la3)
  obtain ⟨q0, q1, q2, q3, q4, q5⟩ := cells6 hst
  exact bodyPost_ret (v := .agg #[.int .i64 oa, .slice na1 na2 na3, .int .i64 sa, .int .i64 ma, .int .i64 qa, .slice la1 la2 la3]) (by simp [results, Tryz.results124, go_sem, q0, q1, q2, q3, q4, q5]) rfl (rdpost_at (by omega) (by have := HpB.out; omega) (HU0.out.trans_same HU2.out) HR2.out HZ.out HA.out HN.out (fun b hb _ => by have h1 := HU0.out.size; have h2 := lt_of_heap HNew.out; unfold New at hb ⊢; omega))
set_option maxRecDepth 100000 in
set_option maxHeartbeats 6400000 in
theorem formula_calls (w : World) (p : Nat) (l : List Tok) (s s' : PS) (n : Nd) (of : Rd) (hx : Cx w p l) (h : RdAt w p l s) (hd : s.dp ≤ 256) (him : Rdr w p l 92 #[.pointer (some ⟨p, 0, none⟩)] (impliesP l of)) (he : formulaP l of s = some (n, s')) :
    Calls Tryz.prog 58 #[.pointer (some ⟨p, 0, none⟩)] w (RdPost w p l s n s') := by
  have HpB : Hid (p < w.heap.size) := Lib.hid h.lt
  have hu0 : Upto [] w (w.alloc (.cells #[.int .i64 0, .slice none 0 0, .int .i64 0, .int .i64 0, .int .i64 0, .slice none 0 0] 34)) := (Upto.refl [] w).alloc _
  have HR0 := Lib.hid (h.ext hu0)
  have HX0 := Lib.hid (hx.ext hu0)
  have HU0 : Hid (Upto [p] w (w.alloc (.cells #[.int .i64 0, .slice none 0 0, .int .i64 0, .int .i64 0, .int .i64 0, .slice none 0 0] 34))) := Lib.hid (hu0.mono (by simp))
  have HNew : Hid ((w.alloc (.cells #[.int .i64 0, .slice none 0 0, .int .i64 0, .int .i64 0, .int .i64 0, .slice none 0 0] 34)).heap[w.heap.size]? = some (.cells #[.int .i64 0, .slice none 0 0, .int .i64 0, .int .i64 0, .int .i64 0, .slice none 0 0] 34 (0, 0))) := Lib.hid (new_at _ _)
  have HIM := Lib.hid (him.upto HU0.out)
  clear hx h hu0 him
  go_enter Tryz.func58, Tryz.ntmps58
  go_wp2_with fail
  refine (leftB_calls _ p l s s' n [105, 102, 102] 15 92 _ _ HX0.out HR0.out hd (run_enter Tryz.func92 (by kernel_rfl) rfl) HIM.out he).mono ?_
  rintro e w2 ⟨vv, rfl, hn, hR2, hu2, ha⟩
  obtain ⟨oa, na1, na2, na3, sa, ma, qa, la1, la2, la3, rfl⟩ := hn.six
  have hz := hu2.at HNew.out (by have := HpB.out; simp; omega)
  obtain ⟨z0, z1, z2, z3, z4, z5⟩ := cells6 hz
  obtain ⟨y0, y1, y2, y3, y4, y5⟩ := frees6 hz
  have HZ := Lib.hid hz
  have HN := Lib.hid hn
  have HR2 := Lib.hid hR2
  have HU2 := Lib.hid hu2
  have HA := Lib.hid ha
  clear hn hR2 hu2 ha hz
  go_wp2_with fail
  have hst := nd_store HZ.out (.int .i64 oa) (.slice na1 na2 na3) (.int .i64 sa) (.int .i64 ma) (.int .i64 qa) (.slice la1 la2 la3)
  obtain ⟨q0, q1, q2, q3, q4, q5⟩ := cells6 hst
  exact bodyPost_ret (v := .agg #[.int .i64 oa, .slice na1 na2 na3, .int .i64 sa, .int .i64 ma, .int .i64 qa, .slice la1 la2 la3]) (by simp [results, Tryz.results58, go_sem, q0, q1, q2, q3, q4, q5]) rfl (rdpost_at (by omega) (by have := HpB.out; omega) (HU0.out.trans_same HU2.out) HR2.out HZ.out HA.out HN.out (fun b hb _ => by have h1 := HU0.out.size; have h2 := lt_of_heap HNew.out; unfold New at hb ⊢; omega))
set_option maxRecDepth 100000 in
set_option maxHeartbeats 6400000 in
theorem bind1_calls (w : World) (p : Nat) (l : List Tok) (s s' : PS) (n : Nd) (op : Int) (Bo Br : Nat) (fm : Rd) (hx : Cx w p l) (h : RdAt w p l s) (hd : s.dp ≤ 256) (hbo : w.heap[Bo]? = some (.cells #[.int .i64 op] 3 (0, 0))) (hbr : w.heap[Br]? = some (.cells #[.pointer (some ⟨p, 0, none⟩)] 88 (0, 0))) (hbp : Bo ≠ p ∧ Br ≠ p) (hfm : Rdr w p l 58 #[.pointer (some ⟨p, 0, none⟩)] fm) (he : (fun t => (fm (needF l [58] (identR l (sortP l t).2).2)).map fun r => (Nd.mk op [(identR l (sortP l t).2).1] (sortP l t).1 0 0 [r.1], r.2)) s = some (n, s')) :
    Calls Tryz.prog 192 #[.pointer (some ⟨Bo, 0, none⟩), .pointer (some ⟨Br, 0, none⟩)] w (RdPost w p l s n s') := by
  have HpB : Hid (p < w.heap.size) := Lib.hid h.lt
  have hu0 : Upto [] w (w.alloc (.cells #[.int .i64 0, .slice none 0 0, .int .i64 0, .int .i64 0, .int .i64 0, .slice none 0 0] 34)) := (Upto.refl [] w).alloc _
  have HR0 := Lib.hid (h.ext hu0)
  have HX0 := Lib.hid (hx.ext hu0)
  have HU0 : Hid (Upto [p] w (w.alloc (.cells #[.int .i64 0, .slice none 0 0, .int .i64 0, .int .i64 0, .int .i64 0, .slice none 0 0] 34))) := Lib.hid (hu0.mono (by simp))
  have HNew : Hid ((w.alloc (.cells #[.int .i64 0, .slice none 0 0, .int .i64 0, .int .i64 0, .int .i64 0, .slice none 0 0] 34)).heap[w.heap.size]? = some (.cells #[.int .i64 0, .slice none 0 0, .int .i64 0, .int .i64 0, .int .i64 0, .slice none 0 0] 34 (0, 0))) := Lib.hid (new_at _ _)
  have HFM := Lib.hid (hfm.upto HU0.out)
  have HF : Hid (Fin l) := Lib.hid h.fin
  have hin := h.inb
  have HBO := Lib.hid (hu0.at hbo (by simp))
  have HBR := Lib.hid (hu0.at hbr (by simp))
  have HNE := Lib.hid hbp
  have HLT := Lib.hid (And.intro (lt_of_heap hbo) (lt_of_heap hbr))
  have ha0 := (Upto.refl [] (w.alloc (.cells #[.int .i64 0, .slice none 0 0, .int .i64 0, .int .i64 0, .int .i64 0, .slice none 0 0] 34))).drew
  have ha1 := ((Upto.refl [] (w.alloc (.cells #[.int .i64 0, .slice none 0 0, .int .i64 0, .int .i64 0, .int .i64 0, .slice none 0 0] 34))).alloc (.cells #[.int .i64 0, .slice none 0 0, .int .i64 0, .int .i64 0, .int .i64 0, .slice none 0 0] 34)).drew
  have o0 := cell_of (ha0.at HBO.out (by simp)) 0
  have r0 := cell_of (ha0.at HBR.out (by simp)) 0
  have o1 := cell_of (ha1.at HBO.out (by simp)) 0
  have r1 := cell_of (ha1.at HBR.out (by simp)) 0
  simp only [List.getElem?_toArray, List.getElem?_cons_zero] at o0 r0 o1 r1
  have HV : Hid (∃ m t, fm (needF l [58] (identR l (sortP l s).2).2) = some (m, t) ∧ n = Nd.mk op [(identR l (sortP l s).2).1] (sortP l s).1 0 0 [m] ∧ s' = t) := Lib.hid (by
    simp only at he
    cases hq : fm (needF l [58] (identR l (sortP l s).2).2) with
    | none => rw [hq] at he; cases he
    | some r => obtain ⟨m, t⟩ := r; rw [hq] at he; simp at he; exact ⟨m, t, rfl, he.1.symm, he.2.symm⟩)
  clear hx h he hu0 hbo hbr hbp hfm ha0 ha1
  go_enter Tryz.func192, Tryz.ntmps192
  go_wp2_with fail
  go_region_with (
    first
    | (refine (sort_calls (w.alloc (.cells #[.int .i64 0, .slice none 0 0, .int .i64 0, .int .i64 0, .int .i64 0, .slice none 0 0] 34)).drew p l s (HX0.out.ext (Upto.refl [] _).drew) (HR0.out.ext (Upto.refl [] _).drew)).mono ?_
       rintro e w2 ⟨rfl, hR2, hu2⟩
       have HU2 : Hid (Upto [p] (w.alloc (.cells #[.int .i64 0, .slice none 0 0, .int .i64 0, .int .i64 0, .int .i64 0, .slice none 0 0] 34)) w2) := Lib.hid (((Upto.refl [p] _).drew).trans_same hu2)
       have o2 := cell_of (HU2.out.at HBO.out (by simpa using HNE.out.1)) 0
       have o3 := cell_of (((Upto.refl [] w2).alloc (.cells #[.int .i64 0, .slice none 0 0, .int .i64 0, .int .i64 0, .int .i64 0, .slice none 0 0] 34)).at (HU2.out.at HBO.out (by simpa using HNE.out.1)) (by simp)) 0
       simp only [List.getElem?_toArray, List.getElem?_cons_zero] at o2 o3
       have HR2 := Lib.hid hR2
       clear hR2 hu2)
    | (refine (sort_calls ((w.alloc (.cells #[.int .i64 0, .slice none 0 0, .int .i64 0, .int .i64 0, .int .i64 0, .slice none 0 0] 34)).alloc (.cells #[.int .i64 0, .slice none 0 0, .int .i64 0, .int .i64 0, .int .i64 0, .slice none 0 0] 34)).drew p l s (HX0.out.ext ((Upto.refl [] _).alloc _).drew) (HR0.out.ext ((Upto.refl [] _).alloc _).drew)).mono ?_
       rintro e w2 ⟨rfl, hR2, hu2⟩
       have HU2 : Hid (Upto [p] (w.alloc (.cells #[.int .i64 0, .slice none 0 0, .int .i64 0, .int .i64 0, .int .i64 0, .slice none 0 0] 34)) w2) := Lib.hid ((((Upto.refl [p] _).alloc _).drew).trans_same hu2)
       have o2 := cell_of (HU2.out.at HBO.out (by simpa using HNE.out.1)) 0
       simp only [List.getElem?_toArray, List.getElem?_cons_zero] at o2
       have hn2 := hu2.at ((Upto.refl [] ((w.alloc (.cells #[.int .i64 0, .slice none 0 0, .int .i64 0, .int .i64 0, .int .i64 0, .slice none 0 0] 34)).alloc (.cells #[.int .i64 0, .slice none 0 0, .int .i64 0, .int .i64 0, .int .i64 0, .slice none 0 0] 34))).drew.at (new_at (w.alloc (.cells #[.int .i64 0, .slice none 0 0, .int .i64 0, .int .i64 0, .int .i64 0, .slice none 0 0] 34)) (.cells #[.int .i64 0, .slice none 0 0, .int .i64 0, .int .i64 0, .int .i64 0, .slice none 0 0] 34)) (by simp)) (by have := HpB.out; simp; omega)
       (try simp only [World.size_alloc] at hn2)
       obtain ⟨x0, x1, x2, x3, x4, x5⟩ := cells6 hn2
       obtain ⟨y0, y1, y2, y3, y4, y5⟩ := frees6 hn2
       have HN2 := Lib.hid hn2
       have HR2 := Lib.hid hR2
       clear hR2 hu2 hn2))
  all_goals (
    first
    | (obtain ⟨W4, Bn, hW4, hBn4, hn4, hu4, hR4, hB4⟩ : ∃ W4 Bn, W4 = w2.alloc (.cells #[.int .i64 op, .slice none 0 0, .int .i64 (sortP l s).1, .int .i64 0, .int .i64 0, .slice none 0 0] 34) ∧ Bn = w2.heap.size ∧ W4.heap[Bn]? = some (.cells #[.int .i64 op, .slice none 0 0, .int .i64 (sortP l s).1, .int .i64 0, .int .i64 0, .slice none 0 0] 34 (0, 0)) ∧ Upto [p] (w.alloc (.cells #[.int .i64 0, .slice none 0 0, .int .i64 0, .int .i64 0, .int .i64 0, .slice none 0 0] 34)) W4 ∧ RdAt W4 p l (sortP l s).2 ∧ w.heap.size < Bn :=
         ⟨_, _, rfl, rfl, new_at _ _, HU2.out.trans_ext ((Upto.refl [] w2).alloc _), HR2.out.ext ((Upto.refl [] w2).alloc _), Nat.lt_of_lt_of_le (lt_of_heap HNew.out) HU2.out.size⟩
       rw [← hW4, ← hBn4]
       clear hW4 hBn4)
    | (obtain ⟨W4, Bn, hW4, hBn4, hn4, hu4, hR4, hB4⟩ : ∃ W4 Bn, W4 = ((((((w2.setCell ⟨w.heap.size + 1, 0, none⟩ (.int .i64 op)).setCell ⟨w.heap.size + 1, 1, none⟩ (.slice none 0 0)).setCell ⟨w.heap.size + 1, 2, none⟩ (.int .i64 (sortP l s).1)).setCell ⟨w.heap.size + 1, 3, none⟩ (.int .i64 0)).setCell ⟨w.heap.size + 1, 4, none⟩ (.int .i64 0)).setCell ⟨w.heap.size + 1, 5, none⟩ (.slice none 0 0)) ∧ Bn = w.heap.size + 1 ∧ W4.heap[Bn]? = some (.cells #[.int .i64 op, .slice none 0 0, .int .i64 (sortP l s).1, .int .i64 0, .int .i64 0, .slice none 0 0] 34 (0, 0)) ∧ Upto [p] (w.alloc (.cells #[.int .i64 0, .slice none 0 0, .int .i64 0, .int .i64 0, .int .i64 0, .slice none 0 0] 34)) W4 ∧ RdAt W4 p l (sortP l s).2 ∧ w.heap.size < Bn :=
         ⟨_, _, rfl, rfl, nd_store HN2.out .., nd_up HU2.out (Or.inr (by simp)) .., HR2.out.other HN2.out (nd_no_string (by simp) (by simp)) (nd_self ..) (by have := HpB.out; omega), Nat.lt_succ_self _⟩
       rw [← hW4, ← hBn4]
       clear hW4 hBn4)
    clear o0 r0 o1 r1
    have HN4 := Lib.hid hn4
    have HU4 := Lib.hid hu4
    have HR4 := Lib.hid hR4
    have HB4 := Lib.hid hB4
    have hbr4 := hu4.at HBR.out (by simpa using HNE.out.2)
    have r4 := cell_of hbr4 0
    simp only [List.getElem?_toArray, List.getElem?_cons_zero] at r4
    have HBR4 := Lib.hid hbr4
    have HBn : Hid (Bn ≠ p ∧ Bn ≠ Br ∧ Bn ≠ w.heap.size) := Lib.hid (by have h1 := HpB.out; have h2 := HLT.out.2; omega)
    clear hn4 hu4 hR4 hB4 hbr4
    go_wp2_with fail
    refine (name_calls W4 p l _ HR4.out HX0.out.len).mono ?_
    clear r4
    rintro e w5 ⟨rfl, hR5, hu5⟩
    have hn5 := hu5.at HN4.out (by simpa using HBn.out.1)
    have hua := (Upto.refl [] w5).alloc (.cells #[.string ⟨(identR l (sortP l s).2).1.toArray⟩] 9)
    have hn5a := hua.at hn5 (by simp)
    obtain ⟨z0, z1, z2, z3, z4, z5⟩ := cells6 hn5a
    obtain ⟨y0, y1, y2, y3, y4, y5⟩ := frees6 hn5a
    have hs6 := (Upto.refl [Bn] (w5.alloc (.cells #[.string ⟨(identR l (sortP l s).2).1.toArray⟩] 9))).setCell (p := ⟨Bn, 1, none⟩) (Or.inl (by simp)) (.slice (some ⟨w5.heap.size, 0, none⟩) 1 1)
    have hn6 := set_same hn5a 1 (.slice (some ⟨w5.heap.size, 0, none⟩) 1 1)
    simp only [List.setIfInBounds_toArray, List.set_cons_zero, List.set_cons_succ] at hn6
    have hR6 := (hR5.ext hua).other hn5a (nd_no_string (by simp) (by simp)) hs6 HBn.out.1
    have HU6 : Hid (Upto [p] (w.alloc (.cells #[.int .i64 0, .slice none 0 0, .int .i64 0, .int .i64 0, .int .i64 0, .slice none 0 0] 34)) ((w5.alloc (.cells #[.string ⟨(identR l (sortP l s).2).1.toArray⟩] 9)).setCell ⟨Bn, 1, none⟩ (.slice (some ⟨w5.heap.size, 0, none⟩) 1 1))) := Lib.hid (((HU4.out.trans_same hu5).trans_ext hua).setCell (Or.inr (by have h1 := HB4.out; simp; omega)) _)
    have hnx : (w5.alloc (.cells #[.string ⟨(identR l (sortP l s).2).1.toArray⟩] 9)).heap[w5.heap.size]? = some (.cells #[.string ⟨(identR l (sortP l s).2).1.toArray⟩] 9 (0, 0)) := new_at _ _
    have hnx6 := hs6.at hnx (by have h1 := lt_of_heap hn5; simp; omega)
    have r6 := cell_of (HU6.out.at HBR.out (by simpa using HNE.out.2)) 0
    simp only [List.getElem?_toArray, List.getElem?_cons_zero] at r6
    have HN6 := Lib.hid hn6
    have HR6 := Lib.hid hR6
    have HNX6 := Lib.hid hnx6
    have HL5 := Lib.hid (Nat.lt_of_lt_of_le (lt_of_heap HN4.out) hu5.size)
    have HW4 := Lib.hid (Nat.le_trans HU4.out.size hu5.size)
    clear hn5 hua hn5a hs6 hn6 hR6 hnx hnx6 hR5 hu5
    go_wp2_with fail
    refine (need_calls _ p l _ [58] HR6.out HX0.out.len).mono ?_
    clear r6 z0 y0 z1 y1 z2 y2 z3 y3 z4 y4 z5 y5
    rintro e w7 ⟨rfl, hR7, hu7⟩
    have HU7 := Lib.hid (HU6.out.trans_same hu7)
    have r7 := cell_of (HU7.out.at HBR.out (by simpa using HNE.out.2)) 0
    simp only [List.getElem?_toArray, List.getElem?_cons_zero] at r7
    have HN7 := Lib.hid (hu7.at HN6.out (by simpa using HBn.out.1))
    have HNX7 := Lib.hid (hu7.at HNX6.out (by have h1 := HL5.out; have h2 := HW4.out; have h3 := HpB.out; have h4 := lt_of_heap HNew.out; simp; omega))
    have HR7 := Lib.hid hR7
    have HS7 := Lib.hid hu7.size
    clear hR7 hu7
    go_wp2_with fail
    obtain ⟨m, t, he1, hn1, hs1⟩ := HV.out
    refine (HFM.out w7 _ m t HU7.out HR7.out (by have h1 := ((sortP_adv HF.out hin).trans ((identR_adv HF.out (sortP_adv HF.out hin).lt).1.trans (needF_adv HF.out (x := [58]) (identR_adv HF.out (sortP_adv HF.out hin).lt).1.lt))); rw [h1.dp]; exact hd) he1).mono ?_
    clear r7
    rintro e w8 ⟨vv, rfl, hn, hR8, hu8, ha8⟩
    obtain ⟨oa, na1, na2, na3, sa, ma, qa, la1, la2, la3, rfl⟩ := hn.six
    have hub := (Upto.refl [] w8).alloc (.cells #[.int .i64 oa, .slice na1 na2 na3, .int .i64 sa, .int .i64 ma, .int .i64 qa, .slice la1 la2 la3] 34)
    have hn8 := hub.at (hu8.at HN7.out (by simpa using HBn.out.1)) (by simp)
    obtain ⟨c0, c1, c2, c3, c4, c5⟩ := cells6 hn8
    obtain ⟨d0, d1, d2, d3, d4, d5⟩ := frees6 hn8
    have hz8 := hub.at ((HU7.out.trans_same hu8).at HNew.out (by have h1 := HpB.out; simp; omega)) (by simp)
    have hnx8 := hub.at (hu8.at HNX7.out (by have h1 := HL5.out; have h2 := HW4.out; have h3 := HpB.out; have h4 := lt_of_heap HNew.out; simp; omega)) (by simp)
    have hs9 := (Upto.refl [Bn] (w8.alloc (.cells #[.int .i64 oa, .slice na1 na2 na3, .int .i64 sa, .int .i64 ma, .int .i64 qa, .slice la1 la2 la3] 34))).setCell (p := ⟨Bn, 5, none⟩) (Or.inl (by simp)) (.slice (some ⟨w8.heap.size, 0, none⟩) 1 1)
    have hn9 := set_same hn8 5 (.slice (some ⟨w8.heap.size, 0, none⟩) 1 1)
    simp only [List.setIfInBounds_toArray, List.set_cons_zero, List.set_cons_succ] at hn9
    have hz9 := hs9.at hz8 (by have h1 := HBn.out.2.2; simp; omega)
    have hR9 := (hR8.ext hub).other hn8 (nd_no_string (by simp) (by simp)) hs9 HBn.out.1
    have hg8 : (w8.alloc (.cells #[.int .i64 oa, .slice na1 na2 na3, .int .i64 sa, .int .i64 ma, .int .i64 qa, .slice la1 la2 la3] 34)).heap[w8.heap.size]? = some (.cells #[.int .i64 oa, .slice na1 na2 na3, .int .i64 sa, .int .i64 ma, .int .i64 qa, .slice la1 la2 la3] 34 (0, 0)) := new_at _ _
    have hl8 := lt_of_heap (hu8.at HN7.out (by simpa using HBn.out.1))
    have hg9 := hs9.at hg8 (by simp; omega)
    have hx9 := hs9.at hnx8 (by have h1 := HL5.out; simp; omega)
    have HU9 := Lib.hid (((HU7.out.trans_same hu8).trans_ext hub).setCell (p := ⟨Bn, 5, none⟩) (Or.inr (by have h1 := HB4.out; simp; omega)) (.slice (some ⟨w8.heap.size, 0, none⟩) 1 1))
    have HND : Hid (NdV ((w8.alloc (.cells #[.int .i64 oa, .slice na1 na2 na3, .int .i64 sa, .int .i64 ma, .int .i64 qa, .slice la1 la2 la3] 34)).setCell ⟨Bn, 5, none⟩ (.slice (some ⟨w8.heap.size, 0, none⟩) 1 1)) (fun b => New w b ∧ b ≠ w.heap.size) (Nd.mk op [(identR l (sortP l s).2).1] (sortP l s).1 0 0 [m]) (.agg #[.int .i64 op, .slice (some ⟨w5.heap.size, 0, none⟩) 1 1, .int .i64 (sortP l s).1, .int .i64 0, .int .i64 0, .slice (some ⟨w8.heap.size, 0, none⟩) 1 1])) := Lib.hid (by
      have h1 := HL5.out
      have h2 := HW4.out
      have h4 := lt_of_heap HNew.out
      have h5 := HS7.out
      simp only [World.setCell, World.size_alloc, Array.size_modify] at h5
      have h6 := hu8.size
      refine NdV.one (names := [(identR l (sortP l s).2).1]) (SlP.block (xs := [sV (identR l (sortP l s).2).1]) ⟨by unfold New; omega, by omega⟩ hx9 1 1 (fun j u hj => by match j, hj with | 0, hj => simpa [sV] using hj)) (((hn.ext hub).upto hs9 (fun b hb _ => by have h7 := lt_of_heap HN7.out; unfold New at hb; simp; omega)).mono (fun b hb _ => ⟨by have h8 := HU7.out.size; unfold New at hb ⊢; omega, by have h8 := HU7.out.size; unfold New at hb; omega⟩)) ⟨by have h8 := HU7.out.size; unfold New; omega, by have h8 := HU7.out.size; omega⟩ hg9)
    obtain ⟨x0, x1, x2, x3, x4, x5⟩ := cells6 hn9
    obtain ⟨u0, u1, u2, u3, u4, u5⟩ := frees6 hn9
    obtain ⟨z0, z1, z2, z3, z4, z5⟩ := cells6 hz9
    obtain ⟨y0, y1, y2, y3, y4, y5⟩ := frees6 hz9
    have HZ9 := Lib.hid hz9
    have HR9 := Lib.hid hR9
    have HA8 := Lib.hid ha8
    clear hn hub hn8 hz8 hnx8 hs9 hn9 hz9 hR9 hg8 hg9 hx9 ha8 hR8 hu8 hl8 he1
    go_wp2_with fail
    subst hn1 hs1
    have hst := nd_store HZ9.out (.int .i64 op) (.slice (some ⟨w5.heap.size, 0, none⟩) 1 1) (.int .i64 (sortP l s).1) (.int .i64 0) (.int .i64 0) (.slice (some ⟨w8.heap.size, 0, none⟩) 1 1)
    obtain ⟨q0, q1, q2, q3, q4, q5⟩ := cells6 hst
    exact bodyPost_ret (v := .agg #[.int .i64 op, .slice (some ⟨w5.heap.size, 0, none⟩) 1 1, .int .i64 (sortP l s).1, .int .i64 0, .int .i64 0, .slice (some ⟨w8.heap.size, 0, none⟩) 1 1]) (by simp [results, Tryz.results192, go_sem, q0, q1, q2, q3, q4, q5]) rfl (rdpost_at (Nat.le_refl _) HpB.out (HU0.out.trans_same HU9.out) HR9.out HZ9.out (((sortP_adv HF.out hin).trans ((identR_adv HF.out (sortP_adv HF.out hin).lt).1.trans (needF_adv HF.out (x := [58]) (identR_adv HF.out (sortP_adv HF.out hin).lt).1.lt))).trans HA8.out) HND.out (fun b hb _ => hb)))
end Go.Proofs.YtkhbpebpljdifaaGreatDoor
