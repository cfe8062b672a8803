/- Tokenize. -/
import Derived.Test.YtkhbpebpljdifaaDoorTokA
import Derived.Deep.RegionHeld3
namespace Go.Proofs.YtkhbpebpljdifaaDoor
open Go.RowKit Go.PL Go.Maps

theorem info36 : (Tryd.prog.info? 36).map (fun i => (i.zero, i.size, i.bytes)) = some (some (.agg #[.int .i64 0, .string ⟨#[]⟩, .int .i64 0, .int .i64 0, .int .i64 0]), 5, 48) := by kernel_rfl

set_option maxRecDepth 100000 in
set_option maxHeartbeats 12800000 in
theorem tokenize_calls (s : List UInt8) (w : World) (he : Env w) (hmax : s.length ≤ 281474976710656) :
    Calls Tryd.prog 13 #[.string ⟨s.toArray⟩] w fun e w' => TokR s e w' ∧ Upto [] w w' := by
  have hsz : (ByteArray.mk s.toArray).size = s.length := rfl
  by_cases hbig : 65536 < s.length
  · have hbig' : (65536 : Int) < s.length := by omega
    clear he
    have b3 := new_at w (.cells #[.int .i64 0, .int .i64 0] 24)
    have q0 := cell_of b3 0
    have q1 := cell_of b3 1
    simp only [List.getElem?_toArray, List.getElem?_cons_zero, List.getElem?_cons_succ] at q0 q1
    go_enter Tryd.func13, Tryd.ntmps13
    go_wp2_with fail
    go_step3
    go_wp2_with fail
    rw [Exit.noGoto_ret]
    refine bodyPost_ret (v := .tuple #[.slice none 0 0, .agg #[.int .i64 0, .int .i64 0], .int .i64 2]) (by simp [results, Tryd.results13, go_sem, q0, q1]) rfl ⟨?_, (Upto.refl _ _).alloc _⟩
    exact Or.inr ⟨0, 0, 2, by rw [lexT, if_pos hbig], by decide, rfl⟩
  · have hbig' : ¬ (65536 : Int) < s.length := by omega
    have hlt : lexT s = lexS s 1 1 := by rw [lexT, if_neg hbig]
    have hlen : s.length ≤ 65536 := by omega
    have hu0 : Upto [] w (w.alloc (.cells #[.int .i64 0, .int .i64 0] 24)) := (Upto.refl [] w).alloc _
    have b3 := new_at w (.cells #[.int .i64 0, .int .i64 0] 24)
    have HK := Lib.hid (known_calls _ (he.ext hu0))
    have HLT := Lib.hid hlt
    clear hlt
    obtain ⟨i0, hi0, hz0, hz1, hz2⟩ := info_parts info36
    have HI := Lib.hid hi0
    have HZ0 := Lib.hid hz0
    have HZ1 := Lib.hid hz1
    have HZ2 := Lib.hid hz2
    clear hi0 hz0 hz1 hz2
    have HB := Lib.hid blank_calls
    have HX := Lib.hid Tryd.strings_IndexByte
    have HN := Lib.hid inner_calls
    have HC := Lib.hid (fun x h w => cut_calls 35 lxInner (run_enter Tryd.func35 (by kernel_rfl) rfl) inner_calls x h w)
    have HR := Lib.hid run_calls
    go_enter Tryd.func13, Tryd.ntmps13
    go_wp2_with fail
    go_step3
    go_wp2_with fail
    refine HK.out.mono ?_
    rintro e w1 ⟨m, rfl, hkeys, hu1⟩
    have hb3 := hu1.at b3 (by simp)
    have hs1 := hu1.size
    have hup1 := hu0.trans_ext hu1
    have hM : TkM w w.heap.size w1.heap.size m [] (.slice none 0 0) 1 1 (w1.alloc (.cells #[.int .i64 1, .int .i64 1] 24)) := by
      have hul : Upto [] w1 (w1.alloc (.cells #[.int .i64 1, .int .i64 1] 24)) := (Upto.refl [] w1).alloc _
      refine ⟨⟨rfl, Or.inl ⟨rfl, rfl⟩⟩, fun g hg => (by cases hg), hul.at hb3 (by simp), new_at _ _, hup1.trans_ext hul, hkeys.ext hul, (he.ext hup1).ext hul, Nat.le_refl _, hup1.size, ?_⟩
      simp only [World.size_alloc] at hs1
      omega
    have h0 := Lib.hid he
    clear HK b3 hb3 hkeys hu0 hu1 hup1 hs1 he hbig hbig'
    go_wp2_with fail
    go_step3
    go_wp2_with fail
    generalize w1.alloc (.cells #[.int .i64 1, .int .i64 1] 24) = W0 at *
    generalize w1.heap.size = B7 at *
    generalize hB3 : w.heap.size = B3 at *
    go_loopw [5, 8, 9] (fun l p i wr => ∃ (k ls L c : Nat) (acc : List Tok), k ≤ s.length ∧ ls ≤ k ∧ i = .int .i64 k ∧ p = .int .i64 ls ∧ TkM w B3 B7 m acc l L c wr ∧ Hid (acc.length ≤ k ∧ L ≤ k + 1) ∧ Hid (lexS s 1 1 = Go.PL.ahead acc (lexS (s.drop k) L (k - ls + 1)))) (fun _ _ i _ => s.length + 1 - (intOf i).toNat)
    case atStart => exact ⟨0, 0, 1, 1, [], by omega, by omega, rfl, rfl, hM, Lib.hid ⟨by simp, by omega⟩, Lib.hid (by rw [ahead_nil]; rfl)⟩
    case round =>
      obtain ⟨k, ls, L, c, acc, hk, hls, rfl, rfl, hM', HL, HE⟩ := hrel
      clear hM
      obtain ⟨va, vc, rfl, -⟩ := ownsRow_len hM'.row
      have hcol : (k : Int) - ls + 1 = ((k - ls + 1 : Nat) : Int) := by omega
      have hcs : Hid (∀ j, k + j - ls + 1 = (k - ls + 1) + j) := Lib.hid (by intro j; omega)
      have hccb : k - ls + 1 ≤ k + 1 := by omega
      generalize k - ls + 1 = cc at *
      have hMa := hM'.at h0.out cc
      have hb7 := hM'.b7
      have q0 := cell_of hb7 0
      have q1 := cell_of hb7 1
      have f0 := free_of hb7 0
      have f1 := free_of hb7 1
      simp only [List.getElem?_toArray, List.getElem?_cons_zero, List.getElem?_cons_succ] at q0 q1
      obtain ⟨hacc, hLk⟩ := HL.out
      have hkb : (k : Int) ≤ 65536 := by omega
      have hk0 : (0 : Int) ≤ k := by omega
      have hls0 : (0 : Int) ≤ ls := by omega
      have hlsk : (ls : Int) ≤ k := by omega
      have hL0 : (0 : Int) ≤ L := by omega
      have hLb : (L : Int) ≤ 65537 := by omega
      have HA := Lib.hid hMa
      clear hM' hMa hb7 HL
      rcases Nat.lt_or_ge k s.length with hlt | hge
      · obtain ⟨b, hb⟩ : ∃ b, s[k]? = some b := ⟨s[k], List.getElem?_eq_getElem hlt⟩
        have hat := str_at hb
        have hd := Lib.hid (drop_at hb)
        clear hb
        have hlt' : ((k : Int) == s.length) = false := by rw [beq_eq_false_iff_ne]; omega
        have hlt2 : (k : Int) < s.length := by omega
        go_wp2_with fail
        generalize (wr.setCell ⟨B7, 0, none⟩ (.int .i64 L)).setCell ⟨B7, 1, none⟩ (.int .i64 cc) = wa at *
        clear q0 q1 f0 f1
        have hA := HA.out
        have a0 := cell_of hA.b7 0
        have a1 := cell_of hA.b7 1
        have fa0 := free_of hA.b7 0
        have fa1 := free_of hA.b7 1
        simp only [List.getElem?_toArray, List.getElem?_cons_zero, List.getElem?_cons_succ] at a0 a1
        clear hA
        refine (HB.out _ _).mono ?_
        rintro e wb ⟨rfl, hwb⟩
        have hwb' := hwb.symm
        subst hwb'
        cases hbl : lxBlank b with
        | true =>
          have HBL := Lib.hid hbl
          by_cases h10 : b.toNat = 10
          · have t10 : ((b.toNat : Int) == 10) = true := by simp [h10]
            have HM2 : Hid (TkM w B3 B7 m acc (.slice va acc.length vc) (L + 1) cc (wa.setCell ⟨B7, 0, none⟩ (.int .i64 ((L : Int) + 1)))) := Lib.hid (HA.out.line h0.out (L + 1))
            have H10 := Lib.hid h10
            clear HA h10
            go_wp2_with fail
            go_roundw
            case rel => exact ⟨k + 1, k + 1, L + 1, cc, acc, by omega, by omega, by go_num, by go_num, HM2.out, Lib.hid ⟨by omega, by omega⟩, Lib.hid (by rw [HE.out, hd.out, lexS_line H10.out, Nat.sub_self])⟩
            case measure => simp [intOf]; omega
          · have t10 : ((b.toNat : Int) == 10) = false := by rw [beq_eq_false_iff_ne]; omega
            have H10 := Lib.hid h10
            clear h10
            go_wp2_with fail
            go_roundw
            case rel => exact ⟨k + 1, ls, L, cc, acc, by omega, by omega, by go_num, rfl, HA.out, Lib.hid ⟨by omega, by omega⟩, Lib.hid (by rw [HE.out, hd.out, lexS_blank HBL.out H10.out, hcs.out 1])⟩
            case measure => simp [intOf]; omega
        | false =>
          have HBL := Lib.hid hbl
          go_wp2_with fail
          refine (HX.out ⟨#[61, 40, 41, 44, 58, 59]⟩ b.toNat _).mono ?_
          rintro e wb ⟨rfl, hwb⟩
          have hwb' := hwb.symm
          subst hwb'
          rw [byte_back]
          have him := idx_mark b
          generalize Go.Lib.indexByte [61, 40, 41, 44, 58, 59] b = kk at *
          cases hmk : lxMark b with
          | true =>
            have HMK := Lib.hid hmk
            rw [hmk] at him
            have hkk : (0 : Int) ≤ kk := of_decide_eq_true him
            clear him
            go_wp2_with fail
            have hx3 : (ByteArray.mk s.toArray).extract k (k + 1) = ⟨[b].toArray⟩ := by rw [ext_to, hd.out]; rfl
            have e0 : ∀ u : Ext wa, u.w.cell? ⟨B7, 0, none⟩ = some (.int .i64 L) := fun u => u.cell a0
            have e1 : ∀ u : Ext wa, u.w.cell? ⟨B7, 1, none⟩ = some (.int .i64 cc) := fun u => u.cell a1
            refine wp_region_noPanic ?_
            refine wp_region_segP_at [] [] [0] [1, 2, 3, 4, 5, 6, 7] [8, 9, 10] 8 (fun _ _ _ _ _ h => h) (by kernel_rfl) (by kernel_rfl) (by kernel_rfl) ?_
            refine pre_plain rfl rfl rfl ?_
            intro K' hK'
            go_big_quiet_op
            go_big_quiet_on
            refine seg_plain rfl rfl rfl rfl rfl ?_
            intro K' hK'
            go_big_quiet_op
            go_big_quiet_on
            refine seg_plain rfl rfl rfl rfl rfl ?_
            intro K' hK'
            go_big_quiet_op
            go_big_quiet_on
            refine seg_plain rfl rfl rfl rfl rfl ?_
            intro K' hK'
            go_big_quiet_op
            go_big_quiet_on
            refine seg_plain rfl rfl rfl rfl rfl ?_
            intro K' hK'
            go_big_quiet_op
            go_big_quiet_on
            refine seg_plain rfl rfl rfl rfl rfl ?_
            intro K' hK'
            go_big_quiet_op
            go_big_quiet_on
            refine seg_plain rfl rfl rfl rfl rfl ?_
            intro K' hK'
            go_big_quiet_op
            go_big_quiet_on
            refine seg_plain rfl rfl rfl rfl rfl ?_
            intro K' hK'
            go_big_quiet_op
            go_big_quiet_on
            intro w9 hg
            have hv := hg.up
            clear hg e0 e1
            simp only [List.drop_succ_cons, List.drop_zero]
            have hM9 := HA.out.ext hv
            have H9 := Lib.hid hM9
            have hrow := (hM9.ext ((Upto.refl [] w9).alloc (.cells #[.int .i64 4, .string ⟨[b].toArray⟩, .int .i64 0, .int .i64 L, .int .i64 cc] 36))).row
            have hsrc := cells_at (l := tkC ⟨4, [b], 0, L, cc⟩) (new_at w9 (.cells #[.int .i64 4, .string ⟨[b].toArray⟩, .int .i64 0, .int .i64 L, .int .i64 cc] 36))
            clear hM9 hv a0 a1
            go_wp2_with (at_builtin; refine wpList_app _ rfl (.tmp 60) (.tmp 68) 22 rfl 36 i0 (.agg #[.int .i64 0, .string ⟨#[]⟩, .int .i64 0, .int .i64 0, .int .i64 0]) 5 48 Tryd.underlying22 HI.out HZ0.out HZ1.out HZ2.out rfl (by decide) (.slice va acc.length vc) acc.length _ rfl hrow ⟨w9.heap.size, 0, none⟩ 1 1 (tkC ⟨4, [b], 0, L, cc⟩) rfl rfl hsrc tkC_one (by unfold maxLen; omega) (by omega) ?_; intro vb vd w4 ho4 hu4 hw4; have hM4 := H9.out.app (t := ⟨4, [b], 0, L, cc⟩) h0.out rfl ho4 hu4 hw4; clear hrow hsrc ho4 hu4 hw4)
            refine NoPanic.normal ?_
            have HM4 := Lib.hid hM4
            clear hM4
            go_wp2_with fail
            go_roundw
            case rel => exact ⟨k + 1, ls, L, cc, acc ++ [⟨4, [b], 0, L, cc⟩], by omega, by omega, by go_num, rfl, HM4.out, Lib.hid ⟨by simp; omega, by omega⟩, Lib.hid (by rw [HE.out, hd.out, lexS_mark HBL.out HMK.out, hcs.out 1, ahead_snoc])⟩
            case measure => simp [intOf]; omega
          | false =>
            have HMK := Lib.hid hmk
            rw [hmk] at him
            have hkk : kk < 0 := by have := of_decide_eq_false him; omega
            clear him
            go_wp2_with fail
            refine (HN.out _ _).mono ?_
            rintro e wb ⟨rfl, hwb⟩
            have hwb' := hwb.symm
            subst hwb'
            cases hin : lxInner b with
            | false =>
              have HIN := Lib.hid hin
              go_wp2_with fail
              have e0 : ∀ u : Ext wa, u.w.cell? ⟨B7, 0, none⟩ = some (.int .i64 L) := fun u => u.cell a0
              have e1 : ∀ u : Ext wa, u.w.cell? ⟨B7, 1, none⟩ = some (.int .i64 cc) := fun u => u.cell a1
              refine wp_region_seg_at [] [] [0, 1] [2, 3] 2 (by kernel_rfl) (by kernel_rfl) (by kernel_rfl) ?_
              refine seg_plain rfl rfl rfl rfl rfl ?_
              intro K' hK'
              go_big_quiet_op
              go_big_quiet_on
              refine seg_plain rfl rfl rfl rfl rfl ?_
              intro K' hK'
              go_big_quiet_op
              go_big_quiet_on
              intro w9 hg
              have hv := hg.up
              clear hg e0 e1
              simp only [List.drop_succ_cons, List.drop_zero]
              have hM9 := HA.out.ext hv
              have d0 := cell_of hM9.b3 0
              have d1 := cell_of hM9.b3 1
              have g0 := free_of hM9.b3 0
              have g1 := free_of hM9.b3 1
              simp only [List.getElem?_toArray, List.getElem?_cons_zero, List.getElem?_cons_succ] at d0 d1
              obtain ⟨-, z2⟩ := hM9.fin (.int .i64 L) (.int .i64 cc)
              clear hv hM9 a0 a1
              go_wp2_with fail
              rw [Exit.noGoto_ret]
              refine bodyPost_ret (v := .tuple #[.slice none 0 0, .agg #[.int .i64 L, .int .i64 cc], .int .i64 3]) (by simp [results, Tryd.results13, go_sem, d0, d1]) rfl ⟨Or.inr ⟨L, cc, 3, ?_, by decide, rfl⟩, z2⟩
              rw [HLT.out, HE.out, hd.out, lexS_bad HBL.out HMK.out HIN.out, ahead_error]
            | true =>
              have HIN := Lib.hid hin
              have hx1 := ext_from (s := s) k
              go_wp2_with fail
              have hdl : (s.drop k).length ≤ 4611686018427387904 := by rw [List.length_drop]; omega
              with_reducible refine (HC.out (s.drop k) hdl _).mono ?_
              rintro e wb ⟨rfl, hwb⟩
              have hwb' := hwb.symm
              subst hwb'
              obtain ⟨r, q, hrq, hrn, hri, hq, -⟩ := lex_split (s.drop k) ⟨b, s.drop (k + 1), hd.out, hin⟩
              obtain ⟨hr1, hr2⟩ := run_split hri hq
              rw [← hrq] at hr1 hr2
              obtain ⟨r', hr'⟩ : ∃ r', r = b :: r' := by
                cases r with
                | nil => exact absurd rfl hrn
                | cons y r' =>
                  have := hrq.symm.trans hd.out
                  rw [List.cons_append] at this
                  injection this with h1 h2
                  rw [h1]
                  exact ⟨r', rfl⟩
              have hlr : k + r.length + q.length = s.length := by
                have := congrArg List.length hrq
                simp only [List.length_drop, List.length_append] at this
                omega
              have hqd : s.drop (k + r.length) = q := by
                rw [← List.drop_drop, hrq, List.drop_left]
              clear hx1
              have hx2 : (ByteArray.mk s.toArray).extract k (k + r.length) = ⟨r.toArray⟩ := by
                rw [ext_to, hrq, List.take_left]
              have hrl : r.length ≠ 0 := by rw [hr']; simp
              have hkr : (k : Int) + r.length ≤ s.length := by omega
              have hr0 : (0 : Int) ≤ r.length := by omega
              have hrI : (ByteArray.mk r.toArray).size = r.length := rfl
              rw [hr1]
              have HS := Lib.hid (lexS_runs hrn hri hq)
              have HRR := Lib.hid hr'
              clear hr'
              have HQ := Lib.hid hqd
              have HRQ := Lib.hid hrq
              clear hrq hqd hr1 hr2 hri hq hrn hat hdl
              go_wp2_with fail
              have HRC := HR.out b r' m wa (by rw [← HRR.out]; omega) HA.out.env HA.out.keys
              rw [← HRR.out] at HRC
              refine HRC.mono ?_
              rintro e w2 ⟨⟨kk, v, n, x, rfl, hcase⟩, hu2⟩
              clear HRC
              unfold tkV
              have hM2 := HA.out.ext hu2
              have hM3 := hM2.ext ((Upto.refl [] w2).alloc (.cells #[.int .i64 kk, .string ⟨x.toArray⟩, .int .i64 v, .int .i64 0, .int .i64 0] 36))
              rcases hcase with ⟨rfl, rfl, hc⟩ | ⟨hn, hc⟩
              · simp only [show ((0 : Nat) : Int) = 0 from rfl]
                have a0 := cell_of hM3.b7 0
                have a1 := cell_of hM3.b7 1
                have hn5 := new_at w2 (.cells #[.int .i64 kk, .string ⟨x.toArray⟩, .int .i64 v, .int .i64 0, .int .i64 0] 36)
                have g3 := free_of hn5 3
                have g4 := free_of hn5 4
                simp only [List.getElem?_toArray, List.getElem?_cons_zero, List.getElem?_cons_succ] at a0 a1
                have H2 := Lib.hid hM2
                have hMX := hM2.ext ((Upto.refl [] w2).alloc (.cells #[.int .i64 kk, .string ⟨x.toArray⟩, .int .i64 v, .int .i64 L, .int .i64 cc] 36))
                have HMX := Lib.hid hMX
                have hrow := (hMX.ext ((Upto.refl [] _).alloc (.cells #[.int .i64 kk, .string ⟨x.toArray⟩, .int .i64 v, .int .i64 L, .int .i64 cc] 36))).row
                have hsrc := cells_at (l := tkC ⟨kk, x, v, L, cc⟩) (new_at1 w2 (.cells #[.int .i64 kk, .string ⟨x.toArray⟩, .int .i64 v, .int .i64 L, .int .i64 cc] 36) (.cells #[.int .i64 kk, .string ⟨x.toArray⟩, .int .i64 v, .int .i64 L, .int .i64 cc] 36))
                clear hM3 hn5 hu2 HA fa0 fa1 hM2 hMX
                go_wp2_with (at_builtin; refine wpList_app _ rfl (.tmp 98) (.tmp 100) 22 rfl 36 i0 (.agg #[.int .i64 0, .string ⟨#[]⟩, .int .i64 0, .int .i64 0, .int .i64 0]) 5 48 Tryd.underlying22 HI.out HZ0.out HZ1.out HZ2.out rfl (by decide) (.slice va acc.length vc) acc.length _ rfl hrow ⟨w2.heap.size + 1, 0, none⟩ 1 1 (tkC ⟨kk, x, v, L, cc⟩) rfl rfl hsrc tkC_one (by unfold maxLen; omega) (by omega) ?_; intro vb vd w4 ho4 hu4 hw4; have HM4 := Lib.hid (HMX.out.app (t := ⟨kk, x, v, L, cc⟩) h0.out rfl ho4 hu4 hw4); clear hrow hsrc ho4 hu4 hw4)
                go_roundw
                case rel =>
                  refine ⟨k + x.length, ls, L, cc, acc ++ [⟨kk, x, v, L, cc⟩], by omega, by omega, by go_num, rfl, HM4.out, Lib.hid ⟨by simp; omega, by omega⟩, Lib.hid ?_⟩
                  rw [HE.out, HRQ.out, HS.out, hc, hcs.out x.length, HQ.out]
                  exact ahead_snoc _ _ _
                case measure => simp [intOf]; omega
              · have hn' : ((n : Int) == 0) = false := by rw [beq_eq_false_iff_ne]; omega
                have H3 := Lib.hid hM3
                have hb7 := hM3.b7
                clear hM2 hM3 hu2 a0 a1 fa0 fa1 HA
                go_wp2_with fail
                generalize w2.alloc (.cells #[.int .i64 kk, .string ⟨x.toArray⟩, .int .i64 v, .int .i64 0, .int .i64 0] 36) = wc at *
                have a0 := cell_of hb7 0
                have a1 := cell_of hb7 1
                simp only [List.getElem?_toArray, List.getElem?_cons_zero, List.getElem?_cons_succ] at a0 a1
                clear hb7
                have e0 : ∀ u : Ext wc, u.w.cell? ⟨B7, 0, none⟩ = some (.int .i64 L) := fun u => u.cell a0
                have e1 : ∀ u : Ext wc, u.w.cell? ⟨B7, 1, none⟩ = some (.int .i64 cc) := fun u => u.cell a1
                refine wp_region_noPanic ?_
                refine wp_region_segP_at [] [] [1] [0, 2] [3, 4] 3 (fun _ _ _ _ _ h => h) (by kernel_rfl) (by kernel_rfl) (by kernel_rfl) ?_
                refine pre_plain rfl rfl rfl ?_
                intro K' hK'
                go_big_quiet_op
                go_big_quiet_on
                refine seg_plain rfl rfl rfl rfl rfl ?_
                intro K' hK'
                go_big_quiet_op
                go_big_quiet_on
                refine seg_plain rfl rfl rfl rfl rfl ?_
                intro K' hK'
                go_big_quiet_op
                go_big_quiet_on
                intro w9 hg
                have hv := hg.up
                clear hg e0 e1
                simp only [List.drop_succ_cons, List.drop_zero]
                have hM9 := H3.out.ext hv
                have d0 := cell_of hM9.b3 0
                have d1 := cell_of hM9.b3 1
                have g0 := free_of hM9.b3 0
                have g1 := free_of hM9.b3 1
                simp only [List.getElem?_toArray, List.getElem?_cons_zero, List.getElem?_cons_succ] at d0 d1
                obtain ⟨-, z2⟩ := hM9.fin (.int .i64 L) (.int .i64 cc)
                clear hv hM9 a0 a1
                go_wp2_with fail
                refine NoPanic.normal ?_
                go_wp2_with fail
                rw [Exit.noGoto_ret]
                refine bodyPost_ret (v := .tuple #[.slice none 0 0, .agg #[.int .i64 L, .int .i64 cc], .int .i64 n]) (by simp [results, Tryd.results13, go_sem, d0, d1]) rfl ⟨Or.inr ⟨L, cc, n, ?_, hn, rfl⟩, z2⟩
                rw [HLT.out, HE.out, HRQ.out, HS.out, hc, ahead_error]
      · have hge' : ((k : Int) == s.length) = true := by rw [beq_iff_eq]; omega
        go_upto_region 9 with fail
        generalize (wr.setCell ⟨B7, 0, none⟩ (.int .i64 L)).setCell ⟨B7, 1, none⟩ (.int .i64 cc) = wa at *
        clear q0 q1 f0 f1
        have hA := HA.out
        have a0 := cell_of hA.b7 0
        have a1 := cell_of hA.b7 1
        simp only [List.getElem?_toArray, List.getElem?_cons_zero, List.getElem?_cons_succ] at a0 a1
        have hrow := (hA.ext ((Upto.refl [] wa).alloc (.cells #[.int .i64 0, .string ⟨#[]⟩, .int .i64 0, .int .i64 L, .int .i64 cc] 36))).row
        have hsrc := cells_at (l := tkC ⟨0, [], 0, L, cc⟩) (new_at wa (.cells #[.int .i64 0, .string ⟨#[]⟩, .int .i64 0, .int .i64 L, .int .i64 cc] 36))
        clear hA
        go_wp2_with (at_builtin; refine wpList_app _ rfl (.tmp 32) (.tmp 35) 22 rfl 36 i0 (.agg #[.int .i64 0, .string ⟨#[]⟩, .int .i64 0, .int .i64 0, .int .i64 0]) 5 48 Tryd.underlying22 HI.out HZ0.out HZ1.out HZ2.out rfl (by decide) (.slice va acc.length vc) acc.length _ rfl hrow ⟨wa.heap.size, 0, none⟩ 1 1 (tkC ⟨0, [], 0, L, cc⟩) rfl rfl hsrc tkC_one (by unfold maxLen; omega) (by omega) ?_; intro vb vd w4 ho4 hu4 hw4; have hM4 := HA.out.app (t := ⟨0, [], 0, L, cc⟩) h0.out rfl ho4 hu4 hw4; have d0 := cell_of hM4.b3 0; have d1 := cell_of hM4.b3 1; have g0 := free_of hM4.b3 0; have g1 := free_of hM4.b3 1; simp only [List.getElem?_toArray, List.getElem?_cons_zero, List.getElem?_cons_succ] at d0 d1; clear hrow hsrc ho4 hu4 hw4)
        rw [Exit.noGoto_ret]
        obtain ⟨z1, z2⟩ := hM4.fin (.int .i64 0) (.int .i64 0)
        have hks : k = s.length := by omega
        refine bodyPost_ret (v := .tuple #[.slice vb (acc.length + 1) vd, .agg #[.int .i64 0, .int .i64 0], .int .i64 0]) (by simp [results, Tryd.results13, go_sem, d0, d1]) rfl ⟨Or.inl ⟨acc ++ [⟨0, [], 0, L, cc⟩], _, ?_, rfl, z1⟩, z2⟩
        rw [HLT.out, HE.out, hks, List.drop_length, lexS_nil, ahead_ok]
end Go.Proofs.YtkhbpebpljdifaaDoor
