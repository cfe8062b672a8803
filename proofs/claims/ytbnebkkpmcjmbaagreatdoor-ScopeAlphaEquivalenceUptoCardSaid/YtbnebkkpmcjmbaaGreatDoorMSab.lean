/- Texts merged, in build order: Tok, Lc0, Lx, One, FmF, FmG, FmA, FmP, Fr, Sh2, Nv, Sa, Pi, Sb, Fm1, Fm6, Fm7, Fm8, Fm14, Fm15, Se, Ha, FmQ, Na, Fm18, Fm19, Fm20, Fm22, Fm23, Fm24, Fm28, Fm25, Fm29, Fm33, Cl, Cm, Cn. -/
import Derived.Test.YtbnebkkpmcjmbaaGreatDoorMSaa
import Derived.Test.YtbnebkkpmcjmbaaGreatDoorRows
import Derived.WalkKit
import Derived.WalkSpells
import Derived.WalkLawsBesides
import Derived.Maps.OwnSet
import Derived.Lib.Hide
import Derived.Laws.BytesArg
import Derived.Deep.QuietTactic
import Derived.BigQuiet
import Derived.Test.YtbnebkkpmcjmbaaGreatDoorProg
import Derived.Shelf.Small.Strs
import Derived.Shelf.LaysM
import Derived.Shelf.Strings.SplitShaped
import Derived.Deep.DeepCutAuto
import Derived.Deep.CutBlock
import Derived.Lib.Strings
import Derived.Lib.Walk
import Derived.Lib.ConvBytes
import Derived.Lib.ParseIntBMem
import Derived.Lib.AtoiErrMem
import Derived.Lib.BufferWrite
import Derived.Lib.UnsafeStr
import Derived.Lib.IfaceEq
import Derived.Laws.MakeOwn
import Derived.Laws.Strings3
import Derived.Laws.Closers25
import Derived.Laws.Closers25b
import Derived.RegionTactic
import Derived.Deep.RegionWith
import Derived.BigCall
import Derived.BigGuard
import Derived.Lib.AppendIntMem
import Derived.Carry
import Derived.OrdersHeld
import Derived.Deep.RegionHeld3
import Derived.Shelf.Strconv.Itoa3
import Derived.Shelf.Slices.Turned
import Derived.Shelf.Slices.Clone
import Derived.Deep.RegionLaw
import Derived.Lib.ItoaNum
import Derived.RangeFuncNested
import Derived.RangeFuncBound
import Derived.RangeFuncCalls
import Derived.RangeFuncLeaves
import Derived.RangeFuncBox
import Derived.Shelf.Abstract
import Derived.OwnWalkIn
import Derived.TacticsInMore
import Derived.LoopNIn
import Derived.LoopIn
import Derived.Laws.EntriesVeiled
import Derived.Laws.AppendOwn
namespace Go.Proofs.YtbnebkkpmcjmbaaGreatDoor
open Go.RowKit Go.PL Go.Maps

theorem info36 : (Tryz.prog.info? 104).map (fun i => (i.zero, i.size, i.bytes)) = some (some (.agg #[.int .i64 0, .string ⟨#[]⟩, .int .i64 0, .int .i64 0, .int .i64 0]), 5, 48) := by kernel_rfl

set_option maxRecDepth 100000 in
set_option maxHeartbeats 12800000 in
theorem tokenize_calls (s : List UInt8) (w : World) (he : Env w) (hmax : s.length ≤ 281474976710656) :
    Calls Tryz.prog 95 #[.string ⟨s.toArray⟩] w fun e w' => TokR s e w' ∧ Upto [] w w' := by
  have hsz : (ByteArray.mk s.toArray).size = s.length := rfl
  by_cases hbig : 65536 < s.length
  · have hbig' : (65536 : Int) < s.length := by omega
    clear he
    have b3 := new_at w (.cells #[.int .i64 0, .int .i64 0] 102)
    obtain ⟨q0, q1⟩ := cells2 b3
    go_enter Tryz.func95, Tryz.ntmps95
    go_wp2_with fail
    go_step3
    go_wp2_with fail
    rw [Exit.noGoto_ret]
    refine bodyPost_ret (v := .tuple #[.slice none 0 0, .agg #[.int .i64 0, .int .i64 0], .int .i64 2]) (by simp [results, Tryz.results95, go_sem, q0, q1]) rfl ⟨?_, (Upto.refl _ _).alloc _⟩
    exact Or.inr ⟨0, 0, 2, by rw [lexT, if_pos hbig], by decide, rfl⟩
  · have hbig' : ¬ (65536 : Int) < s.length := by omega
    have hlt : lexT s = lexS s 1 1 := by rw [lexT, if_neg hbig]
    have hlen : s.length ≤ 65536 := by omega
    have hu0 : Upto [] w (w.alloc (.cells #[.int .i64 0, .int .i64 0] 102)) := (Upto.refl [] w).alloc _
    have b3 := new_at w (.cells #[.int .i64 0, .int .i64 0] 102)
    have HK := Lib.hid (known_calls _ (he.ext hu0))
    have HLT := Lib.hid hlt
    clear hlt
    obtain ⟨i0, hi0, hz0, hz1, hz2⟩ := info_parts info36
    have HI := Lib.hid hi0
    have HZ0 := Lib.hid hz0
    have HZ1 := Lib.hid hz1
    have HZ2 := Lib.hid hz2
    clear hi0 hz0 hz1 hz2
    have HB := Lib.hid blank_calls
    have HX := Lib.hid Tryz.strings_IndexByte
    have HN := Lib.hid inner_calls
    have HC := Lib.hid (fun x h w => cut_calls 104 lxInner (run_enter Tryz.func104 (by kernel_rfl) rfl) inner_calls x h w)
    have HR := Lib.hid run_calls
    go_enter Tryz.func95, Tryz.ntmps95
    go_wp2_with fail
    go_step3
    go_wp2_with fail
    refine HK.out.mono ?_
    rintro e w1 ⟨m, rfl, hkeys, hu1⟩
    have hb3 := hu1.at b3 (by simp)
    have hs1 := hu1.size
    have hup1 := hu0.trans_ext hu1
    have hM : TkM w w.heap.size w1.heap.size m [] (.slice none 0 0) 1 1 (w1.alloc (.cells #[.int .i64 1, .int .i64 1] 102)) := by
      have hul : Upto [] w1 (w1.alloc (.cells #[.int .i64 1, .int .i64 1] 102)) := (Upto.refl [] w1).alloc _
      refine ⟨⟨rfl, Or.inl ⟨rfl, rfl⟩⟩, fun g hg => (by cases hg), hul.at hb3 (by simp), new_at _ _, hup1.trans_ext hul, hkeys.ext hul, (he.ext hup1).ext hul, Nat.le_refl _, hup1.size, ?_⟩
      simp only [World.size_alloc] at hs1
      omega
    have h0 := Lib.hid he
    clear HK b3 hb3 hkeys hu0 hu1 hup1 hs1 he hbig hbig'
    go_wp2_with fail
    go_step3
    go_wp2_with fail
    generalize w1.alloc (.cells #[.int .i64 1, .int .i64 1] 102) = W0 at *
    generalize w1.heap.size = B7 at *
    generalize hB3 : w.heap.size = B3 at *
    go_loopw [5, 8, 9] (fun l p i wr => ∃ (k ls L c : Nat) (acc : List Tok), k ≤ s.length ∧ ls ≤ k ∧ i = .int .i64 k ∧ p = .int .i64 ls ∧ TkM w B3 B7 m acc l L c wr ∧ Hid (acc.length ≤ k ∧ L ≤ k + 1) ∧ Hid (lexS s 1 1 = Go.PL.ahead acc (lexS (s.drop k) L (k - ls + 1)))) (fun _ _ i _ => s.length + 1 - (intOf i).toNat)
    case atStart => exact ⟨0, 0, 1, 1, [], by omega, by omega, rfl, rfl, hM, Lib.hid ⟨by simp, by omega⟩, Lib.hid (by rw [ahead_nil]; rfl)⟩
    case round =>
      obtain ⟨k, ls, L, c, acc, hk, hls, rfl, rfl, hM', HL, HE⟩ := hrel
      clear hM
      obtain ⟨va, vc, rfl, -⟩ := ownsRow_len hM'.row
      have hcol : (k : Int) - ls + 1 = ((k - ls + 1 : Nat) : Int) := by omega
      have hcs : Hid (∀ j, k + j - ls + 1 = (k - ls + 1) + j) := Lib.hid (by intro j; omega)
      have hccb : k - ls + 1 ≤ k + 1 := by omega
      generalize k - ls + 1 = cc at *
      have hMa := hM'.at h0.out cc
      have hb7 := hM'.b7
      obtain ⟨q0, q1⟩ := cells2 hb7
      obtain ⟨f0, f1⟩ := frees2 hb7
      obtain ⟨hacc, hLk⟩ := HL.out
      have hkb : (k : Int) ≤ 65536 := by omega
      have hk0 : (0 : Int) ≤ k := by omega
      have hls0 : (0 : Int) ≤ ls := by omega
      have hlsk : (ls : Int) ≤ k := by omega
      have hL0 : (0 : Int) ≤ L := by omega
      have hLb : (L : Int) ≤ 65537 := by omega
      have HA := Lib.hid hMa
      clear hM' hMa hb7 HL
      rcases Nat.lt_or_ge k s.length with hlt | hge
      · obtain ⟨b, hb⟩ : ∃ b, s[k]? = some b := ⟨s[k], List.getElem?_eq_getElem hlt⟩
        have hat := str_at hb
        have hd := Lib.hid (drop_at hb)
        clear hb
        have hlt' : ((k : Int) == s.length) = false := by rw [beq_eq_false_iff_ne]; omega
        have hlt2 : (k : Int) < s.length := by omega
        go_wp2_with fail
        generalize (wr.setCell ⟨B7, 0, none⟩ (.int .i64 L)).setCell ⟨B7, 1, none⟩ (.int .i64 cc) = wa at *
        clear q0 q1 f0 f1
        have hA := HA.out
        obtain ⟨a0, a1⟩ := cells2 hA.b7
        obtain ⟨fa0, fa1⟩ := frees2 hA.b7
        clear hA
        refine (HB.out _ _).mono ?_
        rintro e wb ⟨rfl, hwb⟩
        have hwb' := hwb.symm
        subst hwb'
        cases hbl : lxBlank b with
        | true =>
          have HBL := Lib.hid hbl
          by_cases h10 : b.toNat = 10
          · have t10 : ((b.toNat : Int) == 10) = true := by simp [h10]
            have HM2 : Hid (TkM w B3 B7 m acc (.slice va acc.length vc) (L + 1) cc (wa.setCell ⟨B7, 0, none⟩ (.int .i64 ((L : Int) + 1)))) := Lib.hid (HA.out.line h0.out (L + 1))
            have H10 := Lib.hid h10
            clear HA h10
            go_wp2_with fail
            go_roundw
            case rel => exact ⟨k + 1, k + 1, L + 1, cc, acc, by omega, by omega, by go_num, by go_num, HM2.out, Lib.hid ⟨by omega, by omega⟩, Lib.hid (by rw [HE.out, hd.out, lexS_line H10.out, Nat.sub_self])⟩
            case measure => simp [intOf]; omega
          · have t10 : ((b.toNat : Int) == 10) = false := by rw [beq_eq_false_iff_ne]; omega
            have H10 := Lib.hid h10
            clear h10
            go_wp2_with fail
            go_roundw
            case rel => exact ⟨k + 1, ls, L, cc, acc, by omega, by omega, by go_num, rfl, HA.out, Lib.hid ⟨by omega, by omega⟩, Lib.hid (by rw [HE.out, hd.out, lexS_blank HBL.out H10.out, hcs.out 1])⟩
            case measure => simp [intOf]; omega
        | false =>
          have HBL := Lib.hid hbl
          go_wp2_with fail
          refine (HX.out ⟨#[61, 40, 41, 44, 58, 59]⟩ b.toNat _).mono ?_
          rintro e wb ⟨rfl, hwb⟩
          have hwb' := hwb.symm
          subst hwb'
          rw [byte_back]
          have him := idx_mark b
          generalize Go.Lib.indexByte [61, 40, 41, 44, 58, 59] b = kk at *
          cases hmk : lxMark b with
          | true =>
            have HMK := Lib.hid hmk
            rw [hmk] at him
            have hkk : (0 : Int) ≤ kk := of_decide_eq_true him
            clear him
            go_wp2_with fail
            have hx3 : (ByteArray.mk s.toArray).extract k (k + 1) = ⟨[b].toArray⟩ := by rw [ext_to, hd.out]; rfl
            have e0 : ∀ u : Ext wa, u.w.cell? ⟨B7, 0, none⟩ = some (.int .i64 L) := fun u => u.cell a0
            have e1 : ∀ u : Ext wa, u.w.cell? ⟨B7, 1, none⟩ = some (.int .i64 cc) := fun u => u.cell a1
            refine wp_region_noPanic ?_
            refine wp_region_segP_at [] [] [0] [1, 2, 3, 4, 5, 6, 7] [8, 9, 10] 8 (fun _ _ _ _ _ h => h) (by kernel_rfl) (by kernel_rfl) (by kernel_rfl) ?_
            refine pre_plain rfl rfl rfl ?_
            intro K' hK'
            go_big_quiet_op
            go_big_quiet_on
            iterate 7 (refine seg_plain rfl rfl rfl rfl rfl ?_; intro K' hK'; go_big_quiet_op; go_big_quiet_on)
            intro w9 hg
            have hv := hg.up
            clear hg e0 e1
            simp only [List.drop_succ_cons, List.drop_zero]
            have hM9 := HA.out.ext hv
            have H9 := Lib.hid hM9
            have hrow := (hM9.ext ((Upto.refl [] w9).alloc (.cells #[.int .i64 4, .string ⟨[b].toArray⟩, .int .i64 0, .int .i64 L, .int .i64 cc] 104))).row
            have hsrc := cells_at (l := tkC ⟨4, [b], 0, L, cc⟩) (new_at w9 (.cells #[.int .i64 4, .string ⟨[b].toArray⟩, .int .i64 0, .int .i64 L, .int .i64 cc] 104))
            clear hM9 hv a0 a1
            go_wp2_with (at_builtin; refine wpList_app _ rfl (.tmp 60) (.tmp 68) 120 rfl 104 i0 (.agg #[.int .i64 0, .string ⟨#[]⟩, .int .i64 0, .int .i64 0, .int .i64 0]) 5 48 Tryz.underlying120 HI.out HZ0.out HZ1.out HZ2.out rfl (by decide) (.slice va acc.length vc) acc.length _ rfl hrow ⟨w9.heap.size, 0, none⟩ 1 1 (tkC ⟨4, [b], 0, L, cc⟩) rfl rfl hsrc tkC_one (by unfold maxLen; omega) (by omega) ?_; intro vb vd w4 ho4 hu4 hw4; have hM4 := H9.out.app (t := ⟨4, [b], 0, L, cc⟩) h0.out rfl ho4 hu4 hw4; clear hrow hsrc ho4 hu4 hw4)
            refine NoPanic.normal ?_
            have HM4 := Lib.hid hM4
            clear hM4
            go_wp2_with fail
            go_roundw
            case rel => exact ⟨k + 1, ls, L, cc, acc ++ [⟨4, [b], 0, L, cc⟩], by omega, by omega, by go_num, rfl, HM4.out, Lib.hid ⟨by simp; omega, by omega⟩, Lib.hid (by rw [HE.out, hd.out, lexS_mark HBL.out HMK.out, hcs.out 1, ahead_snoc])⟩
            case measure => simp [intOf]; omega
          | false =>
            have HMK := Lib.hid hmk
            rw [hmk] at him
            have hkk : kk < 0 := by have := of_decide_eq_false him; omega
            clear him
            go_wp2_with fail
            refine (HN.out _ _).mono ?_
            rintro e wb ⟨rfl, hwb⟩
            have hwb' := hwb.symm
            subst hwb'
            cases hin : lxInner b with
            | false =>
              have HIN := Lib.hid hin
              go_wp2_with fail
              have e0 : ∀ u : Ext wa, u.w.cell? ⟨B7, 0, none⟩ = some (.int .i64 L) := fun u => u.cell a0
              have e1 : ∀ u : Ext wa, u.w.cell? ⟨B7, 1, none⟩ = some (.int .i64 cc) := fun u => u.cell a1
              refine wp_region_seg_at [] [] [0, 1] [2, 3] 2 (by kernel_rfl) (by kernel_rfl) (by kernel_rfl) ?_
              iterate 2 (refine seg_plain rfl rfl rfl rfl rfl ?_; intro K' hK'; go_big_quiet_op; go_big_quiet_on)
              intro w9 hg
              have hv := hg.up
              clear hg e0 e1
              simp only [List.drop_succ_cons, List.drop_zero]
              have hM9 := HA.out.ext hv
              obtain ⟨d0, d1⟩ := cells2 hM9.b3
              obtain ⟨g0, g1⟩ := frees2 hM9.b3
              obtain ⟨-, z2⟩ := hM9.fin (.int .i64 L) (.int .i64 cc)
              clear hv hM9 a0 a1
              go_wp2_with fail
              rw [Exit.noGoto_ret]
              refine bodyPost_ret (v := .tuple #[.slice none 0 0, .agg #[.int .i64 L, .int .i64 cc], .int .i64 3]) (by simp [results, Tryz.results95, go_sem, d0, d1]) rfl ⟨Or.inr ⟨L, cc, 3, ?_, by decide, rfl⟩, z2⟩
              rw [HLT.out, HE.out, hd.out, lexS_bad HBL.out HMK.out HIN.out, ahead_error]
            | true =>
              have HIN := Lib.hid hin
              have hx1 := ext_from (s := s) k
              go_wp2_with fail
              have hdl : (s.drop k).length ≤ 4611686018427387904 := by rw [List.length_drop]; omega
              with_reducible refine (HC.out (s.drop k) hdl _).mono ?_
              rintro e wb ⟨rfl, hwb⟩
              have hwb' := hwb.symm
              subst hwb'
              obtain ⟨r, q, hrq, hrn, hri, hq, -⟩ := lex_split (s.drop k) ⟨b, s.drop (k + 1), hd.out, hin⟩
              obtain ⟨hr1, hr2⟩ := run_split hri hq
              rw [← hrq] at hr1 hr2
              obtain ⟨r', hr'⟩ : ∃ r', r = b :: r' := by
                cases r with
                | nil => exact absurd rfl hrn
                | cons y r' =>
                  have := hrq.symm.trans hd.out
                  rw [List.cons_append] at this
                  injection this with h1 h2
                  rw [h1]
                  exact ⟨r', rfl⟩
              have hlr : k + r.length + q.length = s.length := by
                have := congrArg List.length hrq
                simp only [List.length_drop, List.length_append] at this
                omega
              have hqd : s.drop (k + r.length) = q := by
                rw [← List.drop_drop, hrq, List.drop_left]
              clear hx1
              have hx2 : (ByteArray.mk s.toArray).extract k (k + r.length) = ⟨r.toArray⟩ := by
                rw [ext_to, hrq, List.take_left]
              have hrl : r.length ≠ 0 := by rw [hr']; simp
              have hkr : (k : Int) + r.length ≤ s.length := by omega
              have hr0 : (0 : Int) ≤ r.length := by omega
              have hrI : (ByteArray.mk r.toArray).size = r.length := rfl
              rw [hr1]
              have HS := Lib.hid (lexS_runs hrn hri hq)
              have HRR := Lib.hid hr'
              clear hr'
              have HQ := Lib.hid hqd
              have HRQ := Lib.hid hrq
              clear hrq hqd hr1 hr2 hri hq hrn hat hdl
              go_wp2_with fail
              have HRC := HR.out b r' m wa (by rw [← HRR.out]; omega) HA.out.env HA.out.keys
              rw [← HRR.out] at HRC
              refine HRC.mono ?_
              rintro e w2 ⟨⟨kk, v, n, x, rfl, hcase⟩, hu2⟩
              clear HRC
              unfold tkV
              have hM2 := HA.out.ext hu2
              have hM3 := hM2.ext ((Upto.refl [] w2).alloc (.cells #[.int .i64 kk, .string ⟨x.toArray⟩, .int .i64 v, .int .i64 0, .int .i64 0] 104))
              rcases hcase with ⟨rfl, rfl, hc⟩ | ⟨hn, hc⟩
              · simp only [show ((0 : Nat) : Int) = 0 from rfl]
                have a0 := cell_of hM3.b7 0
                have a1 := cell_of hM3.b7 1
                have hn5 := new_at w2 (.cells #[.int .i64 kk, .string ⟨x.toArray⟩, .int .i64 v, .int .i64 0, .int .i64 0] 104)
                have g3 := free_of hn5 3
                have g4 := free_of hn5 4
                simp only [List.getElem?_toArray, List.getElem?_cons_zero, List.getElem?_cons_succ] at a0 a1
                have H2 := Lib.hid hM2
                have hMX := hM2.ext ((Upto.refl [] w2).alloc (.cells #[.int .i64 kk, .string ⟨x.toArray⟩, .int .i64 v, .int .i64 L, .int .i64 cc] 104))
                have HMX := Lib.hid hMX
                have hrow := (hMX.ext ((Upto.refl [] _).alloc (.cells #[.int .i64 kk, .string ⟨x.toArray⟩, .int .i64 v, .int .i64 L, .int .i64 cc] 104))).row
                have hsrc := cells_at (l := tkC ⟨kk, x, v, L, cc⟩) (new_at1 w2 (.cells #[.int .i64 kk, .string ⟨x.toArray⟩, .int .i64 v, .int .i64 L, .int .i64 cc] 104) (.cells #[.int .i64 kk, .string ⟨x.toArray⟩, .int .i64 v, .int .i64 L, .int .i64 cc] 104))
                clear hM3 hn5 hu2 HA fa0 fa1 hM2 hMX
                go_wp2_with (at_builtin; refine wpList_app _ rfl (.tmp 98) (.tmp 100) 120 rfl 104 i0 (.agg #[.int .i64 0, .string ⟨#[]⟩, .int .i64 0, .int .i64 0, .int .i64 0]) 5 48 Tryz.underlying120 HI.out HZ0.out HZ1.out HZ2.out rfl (by decide) (.slice va acc.length vc) acc.length _ rfl hrow ⟨w2.heap.size + 1, 0, none⟩ 1 1 (tkC ⟨kk, x, v, L, cc⟩) rfl rfl hsrc tkC_one (by unfold maxLen; omega) (by omega) ?_; intro vb vd w4 ho4 hu4 hw4; have HM4 := Lib.hid (HMX.out.app (t := ⟨kk, x, v, L, cc⟩) h0.out rfl ho4 hu4 hw4); clear hrow hsrc ho4 hu4 hw4)
                go_roundw
                case rel =>
                  refine ⟨k + x.length, ls, L, cc, acc ++ [⟨kk, x, v, L, cc⟩], by omega, by omega, by go_num, rfl, HM4.out, Lib.hid ⟨by simp; omega, by omega⟩, Lib.hid ?_⟩
                  rw [HE.out, HRQ.out, HS.out, hc, hcs.out x.length, HQ.out]
                  exact ahead_snoc _ _ _
                case measure => simp [intOf]; omega
              · have hn' : ((n : Int) == 0) = false := by rw [beq_eq_false_iff_ne]; omega
                have H3 := Lib.hid hM3
                have hb7 := hM3.b7
                clear hM2 hM3 hu2 a0 a1 fa0 fa1 HA
                go_wp2_with fail
                generalize w2.alloc (.cells #[.int .i64 kk, .string ⟨x.toArray⟩, .int .i64 v, .int .i64 0, .int .i64 0] 104) = wc at *
                obtain ⟨a0, a1⟩ := cells2 hb7
                clear hb7
                have e0 : ∀ u : Ext wc, u.w.cell? ⟨B7, 0, none⟩ = some (.int .i64 L) := fun u => u.cell a0
                have e1 : ∀ u : Ext wc, u.w.cell? ⟨B7, 1, none⟩ = some (.int .i64 cc) := fun u => u.cell a1
                refine wp_region_noPanic ?_
                refine wp_region_segP_at [] [] [1] [0, 2] [3, 4] 3 (fun _ _ _ _ _ h => h) (by kernel_rfl) (by kernel_rfl) (by kernel_rfl) ?_
                refine pre_plain rfl rfl rfl ?_
                intro K' hK'
                go_big_quiet_op
                go_big_quiet_on
                iterate 2 (refine seg_plain rfl rfl rfl rfl rfl ?_; intro K' hK'; go_big_quiet_op; go_big_quiet_on)
                intro w9 hg
                have hv := hg.up
                clear hg e0 e1
                simp only [List.drop_succ_cons, List.drop_zero]
                have hM9 := H3.out.ext hv
                obtain ⟨d0, d1⟩ := cells2 hM9.b3
                obtain ⟨g0, g1⟩ := frees2 hM9.b3
                obtain ⟨-, z2⟩ := hM9.fin (.int .i64 L) (.int .i64 cc)
                clear hv hM9 a0 a1
                go_wp2_with fail
                refine NoPanic.normal ?_
                go_wp2_with fail
                rw [Exit.noGoto_ret]
                refine bodyPost_ret (v := .tuple #[.slice none 0 0, .agg #[.int .i64 L, .int .i64 cc], .int .i64 n]) (by simp [results, Tryz.results95, go_sem, d0, d1]) rfl ⟨Or.inr ⟨L, cc, n, ?_, hn, rfl⟩, z2⟩
                rw [HLT.out, HE.out, HRQ.out, HS.out, hc, ahead_error]
      · have hge' : ((k : Int) == s.length) = true := by rw [beq_iff_eq]; omega
        go_upto_region 9 with fail
        generalize (wr.setCell ⟨B7, 0, none⟩ (.int .i64 L)).setCell ⟨B7, 1, none⟩ (.int .i64 cc) = wa at *
        clear q0 q1 f0 f1
        have hA := HA.out
        obtain ⟨a0, a1⟩ := cells2 hA.b7
        have hrow := (hA.ext ((Upto.refl [] wa).alloc (.cells #[.int .i64 0, .string ⟨#[]⟩, .int .i64 0, .int .i64 L, .int .i64 cc] 104))).row
        have hsrc := cells_at (l := tkC ⟨0, [], 0, L, cc⟩) (new_at wa (.cells #[.int .i64 0, .string ⟨#[]⟩, .int .i64 0, .int .i64 L, .int .i64 cc] 104))
        clear hA
        go_wp2_with (at_builtin; refine wpList_app _ rfl (.tmp 32) (.tmp 35) 120 rfl 104 i0 (.agg #[.int .i64 0, .string ⟨#[]⟩, .int .i64 0, .int .i64 0, .int .i64 0]) 5 48 Tryz.underlying120 HI.out HZ0.out HZ1.out HZ2.out rfl (by decide) (.slice va acc.length vc) acc.length _ rfl hrow ⟨wa.heap.size, 0, none⟩ 1 1 (tkC ⟨0, [], 0, L, cc⟩) rfl rfl hsrc tkC_one (by unfold maxLen; omega) (by omega) ?_; intro vb vd w4 ho4 hu4 hw4; have hM4 := HA.out.app (t := ⟨0, [], 0, L, cc⟩) h0.out rfl ho4 hu4 hw4; have d0 := cell_of hM4.b3 0; have d1 := cell_of hM4.b3 1; have g0 := free_of hM4.b3 0; have g1 := free_of hM4.b3 1; simp only [List.getElem?_toArray, List.getElem?_cons_zero, List.getElem?_cons_succ] at d0 d1; clear hrow hsrc ho4 hu4 hw4)
        rw [Exit.noGoto_ret]
        obtain ⟨z1, z2⟩ := hM4.fin (.int .i64 0) (.int .i64 0)
        have hks : k = s.length := by omega
        refine bodyPost_ret (v := .tuple #[.slice vb (acc.length + 1) vd, .agg #[.int .i64 0, .int .i64 0], .int .i64 0]) (by simp [results, Tryz.results95, go_sem, d0, d1]) rfl ⟨Or.inl ⟨acc ++ [⟨0, [], 0, L, cc⟩], _, ?_, rfl, z1⟩, z2⟩
        rw [HLT.out, HE.out, hks, List.drop_length, lexS_nil, ahead_ok]
end Go.Proofs.YtbnebkkpmcjmbaaGreatDoor


namespace Go.Proofs.YtbnebkkpmcjmbaaGreatDoor
open Go.RowKit Go.PL Go.Maps
theorem tok_up {v w : World} {B : Nat} (h : Upto [] v w) (hB : v.heap.size ≤ B) (a' b' c' d' e' : Value) :
    Upto [] v (((((w.setCell ⟨B, 0, none⟩ a').setCell ⟨B, 1, none⟩ b').setCell ⟨B, 2, none⟩ c').setCell ⟨B, 3, none⟩ d').setCell ⟨B, 4, none⟩ e') :=
  ((((h.setCell (Or.inr hB) _).setCell (Or.inr hB) _).setCell (Or.inr hB) _).setCell (Or.inr hB) _).setCell (Or.inr hB) _

def outT : Except (Nat × Nat × Nat) (List Tok) → List Tok × Nat × Nat × Nat
  | .ok ts => (ts, 0, 0, 0)
  | .error (l, c, n) => ([], l, c, n)
theorem toks_nil (w : World) : Toks w (.slice none 0 0) [] := ⟨rfl, Or.inl ⟨rfl, none, 0, rfl⟩⟩
theorem TokR.out {s : List UInt8} {e : Ending} {w : World} (h : TokR s e w) : ∃ v, e = .returned (.tuple #[v, .agg #[.int .i64 (outT (lexT s)).2.1, .int .i64 (outT (lexT s)).2.2.1], .int .i64 (outT (lexT s)).2.2.2]) ∧ Toks w v (outT (lexT s)).1 := by
  rcases h with ⟨ts, v, hl, rfl, hT⟩ | ⟨l, c, n, hl, _, rfl⟩
  · rw [hl]; exact ⟨v, rfl, hT⟩
  · rw [hl]; exact ⟨_, rfl, toks_nil w⟩
end Go.Proofs.YtbnebkkpmcjmbaaGreatDoor


namespace Go.Proofs.YtbnebkkpmcjmbaaGreatDoor
open Go.RowKit Go.PL Go.Maps

theorem tok_ok {s : List UInt8} {ts : List Tok} (h : lexT s = .ok ts) (hl : s.length ≤ 281474976710656) (u : World) (he : Env u) : Calls Tryz.prog 95 #[.string ⟨s.toArray⟩] u fun e w' => ∃ v, e = .returned (.tuple #[v, .agg #[.int .i64 0, .int .i64 0], .int .i64 0]) ∧ Toks w' v ts ∧ Upto [] u w' :=
  (tokenize_calls s u he hl).mono fun e w' hr => by
    obtain ⟨hr, hu⟩ := hr
    rcases hr with ⟨ts', v, hl', rfl, hT⟩ | ⟨l, c, n, hl', _⟩
    · rw [h] at hl'
      cases hl'
      exact ⟨v, rfl, hT, hu⟩
    · rw [h] at hl'
      cases hl'
theorem tok_err {s : List UInt8} {l c n : Nat} (h : lexT s = .error (l, c, n)) (hl : s.length ≤ 281474976710656) (li ci ni : Int) (h1 : li = l) (h2 : ci = c) (h3 : ni = n) (u : World) (he : Env u) : Calls Tryz.prog 95 #[.string ⟨s.toArray⟩] u fun e w' => e = .returned (.tuple #[.slice none 0 0, .agg #[.int .i64 li, .int .i64 ci], .int .i64 ni]) ∧ Upto [] u w' :=
  (tokenize_calls s u he hl).mono fun e w' hr => by
    obtain ⟨hr, hu⟩ := hr
    subst h1 h2 h3
    rcases hr with ⟨ts', v, hl', rfl, hT⟩ | ⟨l, c, n, hl', _, rfl⟩
    · rw [h] at hl'
      cases hl'
    · rw [h] at hl'
      cases hl'
      exact ⟨rfl, hu⟩
/-- an error is a range or a format -/
theorem classify_err {r : List UInt8} {n : Nat} (h : classify r = .error n) : n = 2 ∨ n = 3 := by
  cases r with
  | nil => cases h; simp
  | cons b t =>
    simp only [classify] at h
    split at h
    · split at h
      · cases h; simp
      · split at h
        · cases h; simp
        · cases h
    · split at h
      · cases h; simp
      · split at h
        · cases h
        · split at h
          · cases h; simp
          · cases h
theorem lexT_err {s : List UInt8} {l c n : Nat} (h : lexT s = .error (l, c, n)) : n = 2 ∨ n = 3 := by
  unfold lexT at h
  split at h
  · cases h; simp
  · refine lex_ind (M := fun s l c R => ∀ l' c' n', R = .error (l', c', n') → n' = 2 ∨ n' = 3) ?_ ?_ ?_ ?_ ?_ ?_ ?_ s.length s (Nat.le_refl _) 1 1 l c n h
    · intro l c l' c' n' h; cases h
    · intro b s l c _ _ ih; exact ih
    · intro b s l c _ _ ih; exact ih
    · intro b s l c _ ih l' c' n' h
      cases hR : lexS s l (c + 1) with
      | error e =>
        rw [hR] at h ih
        cases h
        exact ih _ _ _ rfl
      | ok ts => rw [hR] at h; cases h
    · intro r s l c k v _ _ _ _ ih l' c' n' h
      cases hR : lexS s l (c + r.length) with
      | error e =>
        rw [hR] at h ih
        cases h
        exact ih _ _ _ rfl
      | ok ts => rw [hR] at h; cases h
    · intro r s l c e _ _ _ hc l' c' n' h
      cases h
      exact classify_err hc
    · intro b s l c _ _ _ l' c' n' h
      cases h
      simp
end Go.Proofs.YtbnebkkpmcjmbaaGreatDoor


namespace Go.Proofs.YtbnebkkpmcjmbaaGreatDoor
open Go.RowKit Go.PL Go.Maps

/-- what one comes to -/
def OneR (s : List UInt8) (e : Ending) : Prop :=
  (∃ k v l c : Nat, oneF s = some (k, v) ∧ e = .returned (.tuple #[.agg #[.int .i64 k, .string ⟨s.toArray⟩, .int .i64 v, .int .i64 l, .int .i64 c], .bool true])) ∨
  (oneF s = none ∧ e = .returned (.tuple #[.agg #[.int .i64 0, .string ⟨#[]⟩, .int .i64 0, .int .i64 0, .int .i64 0], .bool false]))
theorem oneF_len {s : List UInt8} {ts : List Tok} (h : lexT s = .ok ts) (hn : ts.length ≠ 2) : oneF s = none := by
  unfold oneF
  rw [h]
  match ts, hn with
  | [], _ => rfl
  | [a], _ => rfl
  | [a, b], hn => exact absurd rfl hn
  | a :: b :: c :: l, _ => rfl
theorem oneF_two {s : List UInt8} {t t' : Tok} (h : lexT s = .ok [t, t']) : oneF s = if t.text = s then some (t.kind, t.val) else none := by
  unfold oneF
  rw [h]
theorem oneF_err {s : List UInt8} {e : Nat × Nat × Nat} (h : lexT s = .error e) : oneF s = none := by
  unfold oneF
  rw [h]

set_option maxRecDepth 100000 in
set_option maxHeartbeats 6400000 in
theorem lexone_calls (s : List UInt8) (w : World) (he : Env w) (hmax : s.length ≤ 281474976710656) : Calls Tryz.prog 72 #[.string ⟨s.toArray⟩] w fun e w' => OneR s e ∧ Upto [] w w' := by
  have hu0 : Upto [] w (w.alloc (.cells #[.int .i64 0, .string ⟨#[]⟩, .int .i64 0, .int .i64 0, .int .i64 0] 104)) := (Upto.refl [] w).alloc _
  have hb0 := new_at w (.cells #[.int .i64 0, .string ⟨#[]⟩, .int .i64 0, .int .i64 0, .int .i64 0] 104)
  have hB0 : w.heap.size ≤ w.heap.size := Nat.le_refl _
  have he0 := he.ext hu0
  cases hl : lexT s with
  | error lcn =>
    obtain ⟨l, c, n⟩ := lcn
    have HT := Lib.hid (tok_err hl hmax l c n rfl rfl rfl _ he0)
    have HNO := Lib.hid (oneF_err hl)
    have hn : ((n : Int) == 0) = false := by
      rw [beq_eq_false_iff_ne]
      rcases lexT_err hl with h | h <;> omega
    have hn2 : ((n : Int) != 0) = true := by rw [bne, hn]; rfl
    clear hl he he0
    go_enter Tryz.func72, Tryz.ntmps72
    go_wp2_with fail
    refine HT.out.mono ?_
    rintro e w1 ⟨rfl, hu1⟩
    have hb := (hu1.alloc (.cells #[.int .i64 l, .int .i64 c] 102)).at hb0 (by simp)
    have hup := (hu0.trans_ext hu1).alloc (.cells #[.int .i64 l, .int .i64 c] 102)
    clear hu0 hb0 hu1 HT
    go_upto_region 2 with fail
    generalize w1.alloc (.cells #[.int .i64 l, .int .i64 c] 102) = w2 at *
    generalize hBe : w.heap.size = B at *
    have hB : w.heap.size ≤ B := by omega
    obtain ⟨q0, q1, q2, q3, q4⟩ := cells5 hb
    obtain ⟨f0, f1, f2, f3, f4⟩ := frees5 hb
    go_wp2_with fail
    refine bodyPost_ret (v := .tuple #[.agg #[.int .i64 0, .string ⟨#[]⟩, .int .i64 0, .int .i64 0, .int .i64 0], .bool false]) (by simp [results, Tryz.results72, go_sem, q0, q1, q2, q3, q4]) rfl ⟨Or.inr ⟨HNO.out, rfl⟩, tok_up hup hB _ _ _ _ _⟩
  | ok ts =>
    have HT := Lib.hid (tok_ok hl hmax _ he0)
    by_cases hn : ts.length = 2
    · obtain ⟨t, t', rfl⟩ : ∃ t t', ts = [t, t'] := by
        match ts, hn with
        | [a, b], _ => exact ⟨a, b, rfl⟩
      have HF := Lib.hid (oneF_two hl)
      clear hl he he0 hn
      have hone : Hid (t.text = s → oneF s = some (t.kind, t.val)) := Lib.hid (fun h => by rw [HF.out, if_pos h])
      have hnone : Hid (t.text ≠ s → oneF s = none) := Lib.hid (fun h => by rw [HF.out, if_neg h])
      go_enter Tryz.func72, Tryz.ntmps72
      go_wp2_with fail
      refine HT.out.mono ?_
      rintro e w1 ⟨v, rfl, hv, hu1⟩
      have hb := (hu1.alloc (.cells #[.int .i64 0, .int .i64 0] 102)).at hb0 (by simp)
      have hup := (hu0.trans_ext hu1).alloc (.cells #[.int .i64 0, .int .i64 0] 102)
      have hv2 := hv.ext ((Upto.refl [] w1).alloc (.cells #[.int .i64 0, .int .i64 0] 102))
      have hbs := lt_of_heap (hu1.at hb0 (by simp))
      clear hu0 hb0 hu1 HT hv
      go_upto_region 2 with fail
      generalize w1.alloc (.cells #[.int .i64 0, .int .i64 0] 102) = w2 at *
      generalize hBe : w.heap.size = B at *
      have hB : w.heap.size ≤ B := by omega
      obtain ⟨q0, q1, q2, q3, q4⟩ := cells5 hb
      obtain ⟨f0, f1, f2, f3, f4⟩ := frees5 hb
      rcases hv2.at with ⟨h1, _⟩ | ⟨g, o, c, rfl, hat⟩
      · cases h1
      · obtain ⟨c0, c1, c2, c3, c4⟩ := hat 0 _ rfl
        simp only [Nat.zero_mul, Nat.add_zero, bs] at c0 c1 c2 c3 c4
        simp only [List.length_cons, List.length_nil]
        clear hat hv2 HF
        by_cases hx : t.text = s
        · have hx2 : (t.text == s) = true := by simpa using hx
          have HONE := Lib.hid (hone.out hx)
          rw [hx] at c1
          clear hone hnone
          rw [hx] at hx2
          clear hx
          go_wp2_with fail
          refine bodyPost_ret (v := .tuple #[.agg #[.int .i64 t.kind, .string ⟨s.toArray⟩, .int .i64 t.val, .int .i64 t.line, .int .i64 t.col], .bool true]) (by simp [results, Tryz.results72, go_sem, q0, q1, q2, q3, q4]) rfl ⟨Or.inl ⟨t.kind, t.val, t.line, t.col, HONE.out, rfl⟩, tok_up hup hB _ _ _ _ _⟩
        · have hx2 : (t.text == s) = false := by simpa using hx
          have HNO := Lib.hid (hnone.out hx)
          clear hx hone hnone
          go_wp2_with fail
          refine bodyPost_ret (v := .tuple #[.agg #[.int .i64 0, .string ⟨#[]⟩, .int .i64 0, .int .i64 0, .int .i64 0], .bool false]) (by simp [results, Tryz.results72, go_sem, q0, q1, q2, q3, q4]) rfl ⟨Or.inr ⟨HNO.out, rfl⟩, tok_up hup hB _ _ _ _ _⟩
    · have HNO := Lib.hid (oneF_len hl hn)
      have hn2 : ((ts.length : Int) == 2) = false := by
        rw [beq_eq_false_iff_ne]
        omega
      have hn3 : ((ts.length : Int) != 2) = true := by rw [bne, hn2]; rfl
      clear hl he he0
      go_enter Tryz.func72, Tryz.ntmps72
      go_wp2_with fail
      refine HT.out.mono ?_
      rintro e w1 ⟨v, rfl, hv, hu1⟩
      have hb := (hu1.alloc (.cells #[.int .i64 0, .int .i64 0] 102)).at hb0 (by simp)
      have hup := (hu0.trans_ext hu1).alloc (.cells #[.int .i64 0, .int .i64 0] 102)
      obtain ⟨va, vc, rfl⟩ := hv.len
      clear hu0 hb0 hu1 HT hv hn
      go_upto_region 2 with fail
      generalize w1.alloc (.cells #[.int .i64 0, .int .i64 0] 102) = w2 at *
      generalize hBe : w.heap.size = B at *
      have hB : w.heap.size ≤ B := by omega
      obtain ⟨q0, q1, q2, q3, q4⟩ := cells5 hb
      obtain ⟨f0, f1, f2, f3, f4⟩ := frees5 hb
      go_wp2_with fail
      refine bodyPost_ret (v := .tuple #[.agg #[.int .i64 0, .string ⟨#[]⟩, .int .i64 0, .int .i64 0, .int .i64 0], .bool false]) (by simp [results, Tryz.results72, go_sem, q0, q1, q2, q3, q4]) rfl ⟨Or.inr ⟨HNO.out, rfl⟩, tok_up hup hB _ _ _ _ _⟩

/-- is s an identifier -/
def identF (s : List UInt8) : Bool := match oneF s with | some (k, _) => decide (k = 1) | none => false
set_option maxRecDepth 100000 in
set_option maxHeartbeats 6400000 in
theorem isIdent_calls (s : List UInt8) (w : World) (he : Env w) (hmax : s.length ≤ 281474976710656) : Calls Tryz.prog 41 #[.string ⟨s.toArray⟩] w fun e w' => e = .returned (.bool (identF s)) ∧ Upto [] w w' := by
  have H := Lib.hid (lexone_calls s w he hmax)
  go_enter Tryz.func41, Tryz.ntmps41
  go_wp2_with fail
  refine H.out.mono ?_
  rintro e w1 ⟨⟨k, v, l, c, ho, rfl⟩ | ⟨ho, rfl⟩, hu1⟩
  · have hf : Hid (identF s = ((k : Int) == 1)) := Lib.hid (by
      unfold identF
      rw [ho]
      rw [Bool.eq_iff_iff, beq_iff_eq]
      simp only [decide_eq_true_eq]
      omega)
    have hu2 := hu1.alloc (.cells #[.int .i64 k, .string ⟨s.toArray⟩, .int .i64 v, .int .i64 l, .int .i64 c] 104)
    obtain ⟨q0, -, -, -, -⟩ := tok_cells w1 (.int .i64 k) (.string ⟨s.toArray⟩) (.int .i64 v) (.int .i64 l) (.int .i64 c) 36
    clear ho hu1 H
    go_wp2_with fail
    go_ret
    refine ⟨ret_bool ?_, hu2⟩
    rw [hf.out]
  · have hf : Hid (identF s = false) := Lib.hid (by unfold identF; rw [ho])
    have hu2 := hu1.alloc (.cells #[.int .i64 0, .string ⟨#[]⟩, .int .i64 0, .int .i64 0, .int .i64 0] 104)
    clear ho hu1 H
    go_wp2_with fail
    go_ret
    refine ⟨ret_bool ?_, hu2⟩
    rw [hf.out]

/-- the reference's question -/
def nameF (s : List UInt8) : Bool := decide (s ≠ []) && s.all lxInner && (match classify s with | .ok (k, _) => decide (k = 1) | .error _ => false)
theorem ident_name {s : List UInt8} (h : s.length ≤ 65536) : identF s = nameF s := by
  rw [Bool.eq_iff_iff]
  constructor
  · intro hi
    unfold identF at hi
    cases ho : oneF s with
    | none => rw [ho] at hi; cases hi
    | some kv =>
      obtain ⟨k, v⟩ := kv
      rw [ho] at hi
      simp only [decide_eq_true_eq] at hi
      subst hi
      obtain ⟨-, hr⟩ := oneF_real.1 ho
      rcases hr with ⟨b, _, _, h4, _⟩ | ⟨h1, h2, h3⟩
      · cases h4
      · simp only [nameF, h3, Bool.and_eq_true, decide_eq_true_eq, List.all_eq_true]
        exact ⟨⟨h1, h2⟩, trivial⟩
  · intro hn
    simp only [nameF, Bool.and_eq_true, decide_eq_true_eq, List.all_eq_true] at hn
    obtain ⟨⟨h1, h2⟩, h3⟩ := hn
    cases hc : classify s with
    | error e => rw [hc] at h3; cases h3
    | ok kv =>
      obtain ⟨k, v⟩ := kv
      rw [hc] at h3
      simp only [decide_eq_true_eq] at h3
      subst h3
      unfold identF
      rw [oneF_real.2 ⟨h, Or.inr ⟨h1, h2, hc⟩⟩]
      rfl
theorem takeWhile_len {p : UInt8 → Bool} {s : List UInt8} : ((s.takeWhile p).length = s.length) ↔ s.all p = true := by
  constructor
  · intro h
    cases ha : s.all p with
    | true => rfl
    | false => have := take_not ha; omega
  · intro h
    rw [take_all h]

set_option maxRecDepth 100000 in
set_option maxHeartbeats 6400000 in
theorem isName_calls (s : List UInt8) (w : World) (hmax : s.length ≤ 281474976710656) : Calls Tryz.prog 14 #[.string ⟨s.toArray⟩] w fun e w' => e = .returned (.bool (nameF s)) ∧ Upto [] w w' := by
  have hsz : (ByteArray.mk s.toArray).size = s.length := rfl
  cases s with
  | nil =>
    go_enter Tryz.func14, Tryz.ntmps14
    go_wp2_with fail
    go_ret
    exact ⟨ret_bool rfl, Upto.refl _ _⟩
  | cons b t =>
    have HC := Lib.hid (runR_calls (b :: t) 0 (by omega) (by omega) w)
    rw [List.drop_zero] at HC
    have HT := Lib.hid (tokenR_calls b t w hmax)
    have HF := Lib.hid (show nameF (b :: t) = ((b :: t).all lxInner && (match classify (b :: t) with | .ok (k, _) => decide (k = 1) | .error _ => false)) by simp [nameF])
    have hlen : ((b :: t).length : Int) ≠ 0 := by simp only [List.length_cons]; omega
    have hl0 : (((b :: t).length : Int) == 0) = false := by rw [beq_eq_false_iff_ne]; exact hlen
    have htl := Lib.hid (takeWhile_len (p := lxInner) (s := b :: t))
    have hta : (b :: t).all lxInner = true → Hid ((b :: t).takeWhile lxInner = b :: t) := fun h => Lib.hid (take_all h)
    cases ha : (b :: t).all lxInner with
    | false =>
      have hne : (((b :: t).takeWhile lxInner).length : Int) ≠ (b :: t).length := by
        intro h
        have := htl.out.1 (by omega)
        rw [ha] at this
        cases this
      rw [ha] at HF
      have HFF : Hid (nameF (b :: t) = false) := Lib.hid (by rw [HF.out]; rfl)
      have hne2 : ((((b :: t).takeWhile lxInner).length : Int) == (b :: t).length) = false := by rw [beq_eq_false_iff_ne]; exact hne
      generalize ((b :: t).takeWhile lxInner).length = n at *
      generalize b :: t = s at *
      clear HT HF hta htl ha
      go_enter Tryz.func14, Tryz.ntmps14
      go_wp2_with fail
      refine HC.out.mono ?_
      rintro e w1 ⟨rfl, rfl⟩
      go_wp2_with fail
      go_ret
      exact ⟨ret_bool HFF.out.symm, Upto.refl _ _⟩
    | true =>
      rw [(hta ha).out] at HC
      rw [ha] at HF
      generalize b :: t = s at *
      clear hta htl ha
      go_enter Tryz.func14, Tryz.ntmps14
      go_wp2_with fail
      refine HC.out.mono ?_
      rintro e w1 ⟨rfl, rfl⟩
      go_wp2_with fail
      refine HT.out.mono ?_
      rintro e w2 ⟨⟨k, v, n, x, rfl, hcase⟩, hu2⟩
      unfold tkV
      have hu3 := hu2.alloc (.cells #[.int .i64 k, .string ⟨x.toArray⟩, .int .i64 v, .int .i64 0, .int .i64 0] 71)
      rcases hcase with ⟨rfl, rfl, hc⟩ | ⟨hn, hc⟩
      · have hf : Hid (nameF x = ((k : Int) == 1)) := Lib.hid (by
          rw [HF.out, hc, Bool.true_and, Bool.eq_iff_iff, beq_iff_eq]
          simp only [decide_eq_true_eq]
          omega)
        simp only [show ((0 : Nat) : Int) = 0 from rfl]
        clear HC HT HF hc hu2
        go_wp2_with fail
        go_ret
        exact ⟨ret_bool hf.out.symm, hu3⟩
      · have hn0 : ((n : Int) == 0) = false := by rw [beq_eq_false_iff_ne]; omega
        have hf : Hid (nameF s = false) := Lib.hid (by rw [HF.out, hc]; rfl)
        clear HC HT HF hc hu2
        go_wp2_with fail
        go_ret
        exact ⟨ret_bool hf.out.symm, hu3⟩
end Go.Proofs.YtbnebkkpmcjmbaaGreatDoor


namespace Go.Proofs.YtbnebkkpmcjmbaaGreatDoor
open Go.PL

/-- a formula -/
inductive Nd where
  | mk (op : Int) (names : List (List UInt8)) (sort n m : Int) (l : List Nd)
def Nd.zero : Nd := .mk 0 [] 0 0 0 []
/-- the reader's numbers: the next token, the error, the depth -/
structure PS where
  nx : Nat
  er : Nat
  dp : Nat

def tkAt (l : List Tok) (s : PS) : Tok := l.getD s.nx ⟨0, [], 0, 0, 0⟩
def wrongF (e : Nat) (s : PS) : PS := if s.er = 0 then { s with er := e } else s
def stepF (s : PS) : PS := { s with nx := s.nx + 1 }
def isF (l : List Tok) (x : List UInt8) (s : PS) : Bool := decide (s.er = 0) && (decide ((tkAt l s).kind = 3) || decide ((tkAt l s).kind = 4)) && decide ((tkAt l s).text = x)
abbrev Rd := PS → Option (Nd × PS)
def leftLoop (l : List Tok) (x : List UInt8) (op : Int) (of : Rd) : Nat → Nd → Rd
  | 0, _, _ => none
  | k + 1, n, s => if isF l x s = true then (of (stepF s)).bind fun (m, s2) => leftLoop l x op of k (.mk op [] 0 0 0 [n, m]) s2 else some (n, s)
def implFold : List Nd → Nd
  | [] => .zero
  | [n] => n
  | x :: y :: l => .mk 14 [] 0 0 0 [x, implFold (y :: l)]
end Go.Proofs.YtbnebkkpmcjmbaaGreatDoor


namespace Go.Proofs.YtbnebkkpmcjmbaaGreatDoor
open Go.PL

mutual
def sizeF : Nd → Nat
  | .mk _ _ _ _ _ l => 1 + sizesF l
def sizesF : List Nd → Nat
  | [] => 0
  | x :: xs => sizeF x + sizesF xs
end
mutual
def depthF : Nd → Nat
  | .mk _ _ _ _ _ l => depthsF l + 1
def depthsF : List Nd → Nat
  | [] => 0
  | x :: xs => max (depthF x) (depthsF xs)
end
theorem sizesF_append (a b : List Nd) : sizesF (a ++ b) = sizesF a + sizesF b := by
  induction a with
  | nil => simp [sizesF]
  | cons x xs ih => simp [sizesF, ih, Nat.add_assoc]
/-- the last token is the end -/
def Fin (l : List Tok) : Prop := ∀ i t, l[i]? = some t → t.kind ≠ 0 → i + 1 < l.length
/-- from s to s' the reader went on within the tokens, at its depth -/
structure Adv (l : List Tok) (s s' : PS) : Prop where
  le : s.nx ≤ s'.nx
  lt : s'.nx < l.length
  dp : s'.dp = s.dp
theorem tk_some {l : List Tok} {s : PS} (h : s.nx < l.length) : l[s.nx]? = some (tkAt l s) := by
  unfold tkAt
  rw [List.getD_eq_getElem?_getD, List.getElem?_eq_getElem h]
  rfl
theorem Adv.refl {l : List Tok} {s : PS} (h : s.nx < l.length) : Adv l s s := ⟨Nat.le_refl _, h, rfl⟩
theorem Adv.trans {l : List Tok} {a b c : PS} (h : Adv l a b) (k : Adv l b c) : Adv l a c := ⟨Nat.le_trans h.le k.le, k.lt, k.dp.trans h.dp⟩
theorem wrongF_nx (k : Nat) (s : PS) : (wrongF k s).nx = s.nx := by unfold wrongF; split <;> rfl
theorem wrongF_dp (k : Nat) (s : PS) : (wrongF k s).dp = s.dp := by unfold wrongF; split <;> rfl
theorem Adv.wrong {l : List Tok} {s : PS} (h : s.nx < l.length) (k : Nat) : Adv l s (wrongF k s) := ⟨by rw [wrongF_nx]; exact Nat.le_refl _, by rw [wrongF_nx]; exact h, wrongF_dp _ _⟩
theorem step_lt {l : List Tok} (hf : Fin l) {s : PS} (h : s.nx < l.length) (hk : (tkAt l s).kind ≠ 0) : (stepF s).nx < l.length := hf _ _ (tk_some h) hk
theorem Adv.step {l : List Tok} (hf : Fin l) {s : PS} (h : s.nx < l.length) (hk : (tkAt l s).kind ≠ 0) : Adv l s (stepF s) := ⟨Nat.le_succ _, step_lt hf h hk, rfl⟩

section
variable {l : List Tok} (hf : Fin l)
include hf
end
section
variable {l : List Tok} (hf : Fin l)
include hf
end

/-- what is asked: the free variables and the formula -/
structure Qn where
  free : List (List UInt8 × Int)
  body : Nd
def Qn.zero : Qn := ⟨[], .zero⟩
def greatF (n : Nd) : Nat := if 4096 < sizeF n then 8 else if 256 < depthF n then 16 else 0
mutual
theorem depth_le_size : ∀ n : Nd, depthF n ≤ sizeF n
  | .mk _ _ _ _ _ l => by have := depths_le_sizes l; simp only [depthF, sizeF]; omega
theorem depths_le_sizes : ∀ l : List Nd, depthsF l ≤ sizesF l
  | [] => by simp [depthsF]
  | x :: xs => by have := depth_le_size x; have := depths_le_sizes xs; simp only [depthsF, sizesF]; omega
end
end Go.Proofs.YtbnebkkpmcjmbaaGreatDoor


namespace Go.Proofs.YtbnebkkpmcjmbaaGreatDoor
open Go.PL

def Alike (l k : List Tok) : Prop := l.map Tok.key = k.map Tok.key
section
variable {l k : List Tok} (h : Alike l k)
include h
end
end Go.Proofs.YtbnebkkpmcjmbaaGreatDoor


namespace Go.Proofs.YtbnebkkpmcjmbaaGreatDoor
open Go.PL

section
variable {l : List Tok} {D i i1 j : Nat} {of : Rd} {x : List UInt8} {op : Int} {n a b : Nd}
/-- the digits of a number -/
def digF : Nat → Nat → List UInt8
  | 0, n => [UInt8.ofNat (48 + n)]
  | f + 1, n => if n < 10 then [UInt8.ofNat (48 + n)] else digF f (n / 10) ++ [UInt8.ofNat (48 + n % 10)]
end
end Go.Proofs.YtbnebkkpmcjmbaaGreatDoor


namespace Go.Proofs.YtbnebkkpmcjmbaaGreatDoor
open Go.RowKit Go.PL

def cand (s : List UInt8) (i : Nat) : List UInt8 := s.take (16 - (digF 3 i).length) ++ digF 3 i
/-- from i on, f at most: the first whose candidate is free -/
def freeFrom (s : List UInt8) (tk : List (List UInt8)) : Nat → Nat → Nat
  | 0, i => i
  | f + 1, i => if tk.contains (cand s i) then freeFrom s tk f (i + 1) else i
def freshF (s : List UInt8) (tk : List (List UInt8)) : List UInt8 :=
  if nameF s = false then [] else if tk.contains s = false then s else cand s (freeFrom s tk 98 2)
theorem freeFrom_spec (s : List UInt8) (tk : List (List UInt8)) : ∀ (f i : Nat), i ≤ freeFrom s tk f i ∧ freeFrom s tk f i ≤ i + f ∧ (∀ k, i ≤ k → k < freeFrom s tk f i → tk.contains (cand s k) = true) ∧ (freeFrom s tk f i < i + f → tk.contains (cand s (freeFrom s tk f i)) = false)
  | 0, i => ⟨Nat.le_refl _, Nat.le_refl _, fun k h1 h2 => by unfold freeFrom at h2; omega, fun h => by unfold freeFrom at h; omega⟩
  | f + 1, i => by
    obtain ⟨h1, h2, h3, h4⟩ := freeFrom_spec s tk f (i + 1)
    cases hc : tk.contains (cand s i) with
    | true =>
      have e : freeFrom s tk (f + 1) i = freeFrom s tk f (i + 1) := by rw [freeFrom, if_pos hc]
      rw [e]
      refine ⟨by omega, by omega, fun k k1 k2 => ?_, fun h => h4 (by omega)⟩
      rcases Nat.eq_or_lt_of_le k1 with rfl | k1
      · exact hc
      · exact h3 k k1 k2
    | false =>
      have e : freeFrom s tk (f + 1) i = i := by rw [freeFrom, if_neg (by rw [hc]; simp)]
      rw [e]
      exact ⟨Nat.le_refl _, by omega, fun k k1 k2 => by omega, fun _ => hc⟩
theorem len_of_sub {α : Type} [BEq α] [LawfulBEq α] : ∀ (l m : List α), l.Nodup → (∀ x ∈ l, x ∈ m) → l.length ≤ m.length
  | [], _, _, _ => by simp
  | x :: l, m, hn, hs => by
    have hx := hs x (by simp)
    have hn' := List.nodup_cons.1 hn
    have := len_of_sub l (m.erase x) hn'.2 (fun y hy => (List.mem_erase_of_ne (fun e => hn'.1 (by rw [← e]; exact hy))).2 (hs y (by simp [hy])))
    rw [List.length_erase_of_mem hx] at this
    have := List.length_pos_of_mem hx
    simp only [List.length_cons]
    omega
theorem digF_two (i : Nat) (h0 : 10 ≤ i) (h : i < 100) : digF 3 i = [UInt8.ofNat (48 + i / 10), UInt8.ofNat (48 + i % 10)] := by
  rw [digF, if_neg (by omega), digF, if_pos (by omega)]
  rfl
theorem digF_one (i : Nat) (h : i < 10) : digF 3 i = [UInt8.ofNat (48 + i)] := by
  rw [digF, if_pos h]
theorem ofNat_inj {a b : Nat} (ha : a < 256) (hb : b < 256) (h : UInt8.ofNat a = UInt8.ofNat b) : a = b := by
  have := congrArg UInt8.toNat h
  simp only [UInt8.toNat_ofNat'] at this
  omega
theorem cand_inj (s : List UInt8) (i j : Nat) (hi : 10 ≤ i ∧ i < 100) (hj : 10 ≤ j ∧ j < 100) (h : cand s i = cand s j) : i = j := by
  unfold cand at h
  rw [digF_two i hi.1 hi.2, digF_two j hj.1 hj.2] at h
  have h2 := List.append_cancel_left h
  simp only [List.cons.injEq, and_true] at h2
  have a := ofNat_inj (by omega) (by omega) h2.1
  have b := ofNat_inj (by omega) (by omega) h2.2
  omega
theorem free_lt (s : List UInt8) (tk : List (List UInt8)) (ht : tk.length ≤ 80) : freeFrom s tk 98 2 < 100 := by
  obtain ⟨h1, h2, h3, -⟩ := freeFrom_spec s tk 98 2
  apply Classical.byContradiction
  intro hge
  have hl := len_of_sub ((List.range' 10 90).map (cand s)) tk (by
    refine List.Pairwise.map _ (R := fun a b => a ≠ b ∧ (10 ≤ a ∧ a < 100) ∧ (10 ≤ b ∧ b < 100)) (fun a b hab e => hab.1 (cand_inj s a b hab.2.1 hab.2.2 e)) ?_
    have hn : (List.range' 10 90).Nodup := List.nodup_range'
    refine List.Pairwise.imp_of_mem (fun {a b} ha hb hab => ?_) hn
    have ha' := List.mem_range'_1.1 ha
    have hb' := List.mem_range'_1.1 hb
    exact ⟨hab, ⟨by omega, by omega⟩, ⟨by omega, by omega⟩⟩) (fun x hx => by
    obtain ⟨k, hk, rfl⟩ := List.mem_map.1 hx
    have hk' := List.mem_range'_1.1 hk
    have := h3 k (by omega) (by omega)
    simpa using this)
  simp only [List.length_map, List.length_range'] at hl
  omega
theorem free_is (s : List UInt8) (tk : List (List UInt8)) (ht : tk.length ≤ 80) : tk.contains (cand s (freeFrom s tk 98 2)) = false := (freeFrom_spec s tk 98 2).2.2.2 (by have := free_lt s tk ht; omega)
theorem digF_dig (i : Nat) (h : i < 100) : ∃ b t, digF 3 i = t ++ [b] ∧ t.length ≤ 1 ∧ lxDigit b = true ∧ ∀ x ∈ t, lxDigit x = true := by
  have hd : ∀ k : Nat, k < 10 → lxDigit (UInt8.ofNat (48 + k)) = true := by decide
  rcases Nat.lt_or_ge i 10 with h1 | h1
  · exact ⟨_, [], by rw [digF_one i h1]; rfl, by simp, hd i h1, by simp⟩
  · exact ⟨_, [UInt8.ofNat (48 + i / 10)], by rw [digF_two i h1 h]; rfl, by simp, hd (i % 10) (by omega), fun x hx => by
      simp only [List.mem_singleton] at hx
      rw [hx]
      exact hd (i / 10) (by omega)⟩
theorem word_last : ∀ w ∈ lxWords, ∀ b t, w = t ++ [b] → lxDigit b = false := by
  have h : ∀ w ∈ lxWords, (w.getLast?.map lxDigit).getD false = false := by decide
  intro w hw b t e
  have := h w hw
  rw [e] at this
  simpa using this
theorem classify_letter {b : UInt8} (t : List UInt8) (h : lxLetter b = true) : classify (b :: t) = if lxWords.contains (b :: t) then .ok (3, 0) else if 16 < (b :: t).length then .error 2 else .ok (1, 0) := by
  have hd : ¬ lxDigit b = true := fun hb => by
    simp only [lxDigit, lxLetter, Bool.or_eq_true, Bool.and_eq_true, decide_eq_true_eq] at hb h
    omega
  have hl : ¬ (!lxLetter b) = true := by rw [h]; simp
  rw [classify, if_neg hd, if_neg hl]
theorem classify_other {b : UInt8} (t : List UInt8) (h : lxLetter b = false) : (match classify (b :: t) with | .ok (k, _) => decide (k = 1) | .error _ => false) = false := by
  by_cases hd : lxDigit b = true
  · rw [classify, if_pos hd]
    by_cases c1 : (!((b :: t).all lxDigit) || (decide (t ≠ []) && decide (b.toNat = 48))) = true
    · rw [if_pos c1]
    · rw [if_neg c1]
      by_cases c2 : 2147483647 < lxNum (b :: t)
      · rw [if_pos c2]
      · rw [if_neg c2]
        rfl
  · have hl : (!lxLetter b) = true := by rw [h]; rfl
    rw [classify, if_neg hd, if_pos hl]
theorem name_parts {s : List UInt8} (h : nameF s = true) : ∃ b t, s = b :: t ∧ lxLetter b = true ∧ s.all lxInner = true ∧ s.length ≤ 16 := by
  simp only [nameF, Bool.and_eq_true, decide_eq_true_eq] at h
  obtain ⟨⟨h1, h2⟩, h3⟩ := h
  cases s with
  | nil => exact absurd rfl h1
  | cons b t =>
    have hb : lxLetter b = true := by
      cases hb : lxLetter b with
      | true => rfl
      | false => exact absurd (h3.symm.trans (classify_other t hb)) (by simp)
    refine ⟨b, t, rfl, hb, h2, ?_⟩
    rw [classify_letter t hb] at h3
    by_cases c1 : lxWords.contains (b :: t) = true
    · rw [if_pos c1] at h3
      cases h3
    · rw [if_neg c1] at h3
      by_cases c2 : 16 < (b :: t).length
      · rw [if_pos c2] at h3
        cases h3
      · omega
theorem name_of_parts {b : UInt8} {t : List UInt8} (h1 : lxLetter b = true) (h2 : (b :: t).all lxInner = true) (h3 : (b :: t).length ≤ 16) (h4 : lxWords.contains (b :: t) = false) : nameF (b :: t) = true := by
  have c1 : ¬ lxWords.contains (b :: t) = true := by rw [h4]; simp
  have hc : classify (b :: t) = .ok (1, 0) := by
    rw [classify_letter t h1, if_neg c1, if_neg (Nat.not_lt.2 h3)]
  unfold nameF
  rw [hc, h2]
  simp
theorem cand_name (s : List UInt8) (h : nameF s = true) (i : Nat) (hi : i < 100) : nameF (cand s i) = true := by
  obtain ⟨b, t, rfl, hb, ha, hl⟩ := name_parts h
  obtain ⟨c, u, hd, hu, hc, hx⟩ := digF_dig i hi
  have hdl : (digF 3 i).length ≤ 2 := by rw [hd]; simp; omega
  unfold cand
  obtain ⟨m, hm⟩ : ∃ m, 16 - (digF 3 i).length = m + 1 := ⟨15 - (digF 3 i).length, by omega⟩
  have hin : ∀ x, lxDigit x = true → lxInner x = true := fun x hx => by simp [lxInner, hx]
  rw [hm, List.take_succ_cons, List.cons_append]
  refine name_of_parts hb ?_ ?_ ?_
  · rw [← List.cons_append, ← List.take_succ_cons, List.all_append, Bool.and_eq_true]
    refine ⟨?_, ?_⟩
    · rw [List.all_eq_true] at ha ⊢
      exact fun x hx => ha x (List.mem_of_mem_take hx)
    · rw [hd, List.all_append, Bool.and_eq_true]
      refine ⟨List.all_eq_true.2 fun x hxu => hin x (hx x hxu), by simp [hin c hc]⟩
  · rw [← List.cons_append, ← List.take_succ_cons, List.length_append, ← hm]
    have := List.length_take_le (16 - (digF 3 i).length) (b :: t)
    omega
  · cases hw : lxWords.contains (b :: (t.take m ++ digF 3 i)) with
    | false => rfl
    | true =>
      have hmem : (b :: (t.take m ++ digF 3 i)) ∈ lxWords := by simpa using hw
      have := word_last _ hmem c (b :: (t.take m ++ u)) (by rw [hd]; simp)
      rw [hc] at this
      cases this
end Go.Proofs.YtbnebkkpmcjmbaaGreatDoor


namespace Go.Proofs
open Go.Shelf

def Tryz.laysM171_ren : Go.Shelf.Ren := ⟨fun | 171 => 53 | 243 => 83 | 246 => 97 | 283 => 107 | 284 => 108 | 285 => 109 | 286 => 110 | 129 => 118 | 317 => 117 | 318 => 119 | 319 => 120 | 320 => 121 | 337 => 125 | 338 => 126 | n => n, fun | 3 => 3 | 9 => 9 | 2 => 2 | 4 => 4 | 171 => 144 | 0 => 0 | 53 => 145 | 37 => 124 | 5 => 5 | 173 => 148 | 212 => 155 | 51 => 156 | 20 => 20 | 213 => 157 | 46 => 158 | 232 => 170 | 233 => 171 | n => n, fun | 17 => 3 | 18 => 6 | 19 => 7 | n => n⟩

theorem Tryz.laysM171 : Go.Proofs.LaysM.n171 Tryz.prog Tryz.laysM171_ren := {
  mixed := by kernel_rfl
  f129 := Tryz.func118.trans (congrArg some (by kernel_rfl))
  f171 := Tryz.func53.trans (congrArg some (by kernel_rfl))
  f243 := Tryz.func83.trans (congrArg some (by kernel_rfl))
  f246 := Tryz.func97.trans (congrArg some (by kernel_rfl))
  f283 := Tryz.func107.trans (congrArg some (by kernel_rfl))
  f284 := Tryz.func108.trans (congrArg some (by kernel_rfl))
  f285 := Tryz.func109.trans (congrArg some (by kernel_rfl))
  f286 := Tryz.func110.trans (congrArg some (by kernel_rfl))
  f317 := Tryz.func117.trans (congrArg some (by kernel_rfl))
  f318 := Tryz.func119.trans (congrArg some (by kernel_rfl))
  f319 := Tryz.func120.trans (congrArg some (by kernel_rfl))
  f320 := Tryz.func121.trans (congrArg some (by kernel_rfl))
  f337 := Tryz.func125.trans (congrArg some (by kernel_rfl))
  f338 := Tryz.func126.trans (congrArg some (by kernel_rfl))
  t0 := Tryz.underlying0
  a0 := Tryz.isAgg0
  z0 := Tryz.sizeOf0
  v0 := Tryz.zeroValue0
  t2 := Tryz.underlying2
  a2 := Tryz.isAgg2
  z2 := Tryz.sizeOf2
  v2 := Tryz.zeroValue2
  t3 := Tryz.underlying3
  a3 := Tryz.isAgg3
  z3 := Tryz.sizeOf3
  v3 := Tryz.zeroValue3
  t4 := Tryz.underlying4
  a4 := Tryz.isAgg4
  z4 := Tryz.sizeOf4
  v4 := Tryz.zeroValue4
  t5 := Tryz.underlying5
  a5 := Tryz.isAgg5
  z5 := Tryz.sizeOf5
  v5 := Tryz.zeroValue5
  t9 := Tryz.underlying9
  a9 := Tryz.isAgg9
  z9 := Tryz.sizeOf9
  v9 := Tryz.zeroValue9
  t20 := Tryz.underlying20
  a20 := Tryz.isAgg20
  z20 := Tryz.sizeOf20
  v20 := Tryz.zeroValue20
  t37 := Tryz.underlying124
  a37 := Tryz.isAgg124
  z37 := Tryz.sizeOf124
  v37 := Tryz.zeroValue124
  t46 := Tryz.underlying158
  a46 := Tryz.isAgg158
  z46 := Tryz.sizeOf158
  v46 := Tryz.zeroValue158
  t51 := Tryz.underlying156
  a51 := Tryz.isAgg156
  z51 := Tryz.sizeOf156
  v51 := Tryz.zeroValue156
  t53 := Tryz.underlying145
  a53 := Tryz.isAgg145
  z53 := Tryz.sizeOf145
  v53 := Tryz.zeroValue145
  t171 := Tryz.underlying144
  a171 := Tryz.isAgg144
  z171 := Tryz.sizeOf144
  v171 := Tryz.zeroValue144
  t173 := Tryz.underlying148
  a173 := Tryz.isAgg148
  z173 := Tryz.sizeOf148
  v173 := Tryz.zeroValue148
  t212 := Tryz.underlying155
  a212 := Tryz.isAgg155
  z212 := Tryz.sizeOf155
  v212 := Tryz.zeroValue155
  t213 := Tryz.underlying157
  a213 := Tryz.isAgg157
  z213 := Tryz.sizeOf157
  t232 := Tryz.underlying170
  a232 := Tryz.isAgg170
  z232 := Tryz.sizeOf170
  v232 := Tryz.zeroValue170
  t233 := Tryz.underlying171
  a233 := Tryz.isAgg171
  z233 := Tryz.sizeOf171
  v233 := Tryz.zeroValue171
  g17 := by kernel_rfl
  g18 := by kernel_rfl
  g19 := by kernel_rfl
  i0 := by kernel_rfl
  i2 := by kernel_rfl
  i3 := by kernel_rfl
  i4 := by kernel_rfl
  i5 := by kernel_rfl
  i9 := by kernel_rfl
  i20 := by kernel_rfl
  i37 := by kernel_rfl
  i46 := by kernel_rfl
  i51 := by kernel_rfl
  i53 := by kernel_rfl
  i171 := by kernel_rfl
  i173 := by kernel_rfl
  i212 := by kernel_rfl
  i232 := by kernel_rfl
  i233 := by kernel_rfl
  m17 := by kernel_rfl
  m18 := by kernel_rfl
  m19 := by kernel_rfl }

open Go.RowKit Go.Sort Go.Lib in
theorem Tryz.strconv_Itoa (n : Int) (h0 : -9223372036854775808 ≤ n) (h1 : n ≤ 9223372036854775807) (w : World) (htab : Lib.TabIs Tryz.prog w "internal/strconv.uint64pow10" .u64 Lib.pow10Tab) :
    Calls Tryz.prog 53 #[.int .i64 n] w fun e w' => e = .returned (.string ⟨(Lib.itoa n).toArray⟩) ∧ ∃ k os, w' = grow (w.drewN k) os := Any.strconv_Itoa Tryz.laysM171 n h0 h1 w htab

def Tryz.lays110_ren : Go.Shelf.Ren := ⟨fun | 110 => 52 | 109 => 82 | n => n, fun | 31 => 22 | 9 => 9 | 4 => 4 | 3 => 3 | 0 => 0 | n => n, fun | n => n⟩

theorem Tryz.lays110 : Go.Proofs.Lays.n110 Tryz.prog Tryz.lays110_ren := {
  mixed := by kernel_rfl
  f109 := Tryz.func82.trans (congrArg some (by kernel_rfl))
  f110 := Tryz.func52.trans (congrArg some (by kernel_rfl))
  t0 := Tryz.underlying0
  a0 := Tryz.isAgg0
  z0 := Tryz.sizeOf0
  v0 := Tryz.zeroValue0
  t3 := Tryz.underlying3
  a3 := Tryz.isAgg3
  z3 := Tryz.sizeOf3
  v3 := Tryz.zeroValue3
  t4 := Tryz.underlying4
  a4 := Tryz.isAgg4
  z4 := Tryz.sizeOf4
  v4 := Tryz.zeroValue4
  t9 := Tryz.underlying9
  a9 := Tryz.isAgg9
  z9 := Tryz.sizeOf9
  v9 := Tryz.zeroValue9
  t31 := Tryz.underlying22
  a31 := Tryz.isAgg22
  z31 := Tryz.sizeOf22
  v31 := Tryz.zeroValue22 }

open Go.Lib in
theorem Tryz.slices_Contains_string (b off n c : Nat) (zs : List ByteArray) (x : ByteArray) (w : World) (hz : n ≤ zs.length) (hbig : n ≤ 9223372036854775807) (hc : ∀ j, j < zs.length → w.cell? ⟨b, off + j, none⟩ = some (.string (zs.getD j ByteArray.empty))) :
    Calls Tryz.prog 52 #[.slice (some ⟨b, off, none⟩) n c, .string x] w fun e w' => e = .returned (.bool (Lib.containsS (zs.take n) x)) ∧ w' = w := Any.slices_Contains_string Tryz.lays110 b off n c zs x w hz hbig hc

open Go.Lib in
theorem Tryz.slices_Contains_string_empty (a : Option Addr) (c : Nat) (x : ByteArray) (w : World) :
    Calls Tryz.prog 52 #[.slice a 0 c, .string x] w fun e w' => e = .returned (.bool false) ∧ w' = w := Any.slices_Contains_string_empty Tryz.lays110 a c x w

end Go.Proofs


namespace Go.Proofs.YtbnebkkpmcjmbaaGreatDoor
open Go.RowKit Go.PL

/-- block b holds cells -/
def IsC (w : World) (b : Nat) : Prop := ∃ cs t z, w.heap[b]? = some (.cells cs t z)
theorem IsC.lt {w : World} {b : Nat} (h : IsC w b) : b < w.heap.size := by
  obtain ⟨cs, t, z, h⟩ := h
  exact lt_of_heap h
theorem IsC.stay {w w' : World} {b : Nat} (h : IsC w b) (he : w'.heap[b]? = w.heap[b]?) : IsC w' b := by
  obtain ⟨cs, t, z, h⟩ := h
  exact ⟨cs, t, z, he.trans h⟩
def sV (x : List UInt8) : Value := .string ⟨x.toArray⟩
/-- n elements whose cells read xs, in a block of P -/
def SlP (w : World) (P : Nat → Prop) (v : Value) (n : Nat) (xs : List Value) : Prop :=
  (n = 0 ∧ xs = [] ∧ ∃ a c, v = .slice a 0 c) ∨ ∃ g o c, v = .slice (some ⟨g, o, none⟩) n c ∧ (P g ∧ IsC w g ∧ n ≤ c) ∧ ∀ j u, xs[j]? = some u → w.cell? ⟨g, o + j, none⟩ = some u
theorem SlP.len {w : World} {P : Nat → Prop} {v : Value} {n : Nat} {xs : List Value} (h : SlP w P v n xs) : ∃ a c, v = .slice a n c := by
  rcases h with ⟨rfl, -, a, c, rfl⟩ | ⟨g, o, c, rfl, -⟩
  · exact ⟨a, c, rfl⟩
  · exact ⟨_, c, rfl⟩
/-- the blocks of P read in w' as in w, and are of Q -/
structure Keep (w w' : World) (P Q : Nat → Prop) : Prop where
  size : w.heap.size ≤ w'.heap.size
  of : ∀ b, P b → IsC w b → Q b ∧ w'.heap[b]? = w.heap[b]?
theorem Keep.upto {S : List Nat} {w w' : World} {P : Nat → Prop} (hu : Upto S w w') (hs : ∀ b, P b → IsC w b → b ∉ S) : Keep w w' P P := ⟨hu.size, fun b hb hl => ⟨hb, hu.block b hl.lt (hs b hb hl)⟩⟩
theorem Keep.mono {w : World} {P Q : Nat → Prop} (h : ∀ b, P b → IsC w b → Q b) : Keep w w P Q := ⟨Nat.le_refl _, fun b hb hl => ⟨h b hb hl, rfl⟩⟩
theorem SlP.keep {w w' : World} {P Q : Nat → Prop} (hk : Keep w w' P Q) {v : Value} {n : Nat} {xs : List Value} (h : SlP w P v n xs) : SlP w' Q v n xs := by
  rcases h with h | ⟨g, o, c, rfl, ⟨hg, hl, hnc⟩, hc⟩
  · exact Or.inl h
  · obtain ⟨h1, h2⟩ := hk.of g hg hl
    refine Or.inr ⟨g, o, c, rfl, ⟨h1, hl.stay h2, hnc⟩, fun j u hj => ?_⟩
    rw [World.cell?_of_block (w := w) h2]
    exact hc j u hj

mutual
/-- v is the formula nd -/
def NdV (w : World) (P : Nat → Prop) : Nd → Value → Prop
  | .mk op names sort n m l, v => ∃ vn vl, v = .agg #[.int .i64 op, vn, .int .i64 sort, .int .i64 n, .int .i64 m, vl] ∧ SlP w P vn names.length (names.map sV) ∧
      ((l = [] ∧ ∃ a c, vl = .slice a 0 c) ∨ ∃ g o c, vl = .slice (some ⟨g, o, none⟩) l.length c ∧ (P g ∧ IsC w g) ∧ NdsV w P g o l)
/-- from o on block g holds these formulas -/
def NdsV (w : World) (P : Nat → Prop) (g : Nat) : Nat → List Nd → Prop
  | _, [] => True
  | o, x :: xs => (∃ v0 v1 v2 v3 v4 v5, w.cell? ⟨g, o, none⟩ = some v0 ∧ w.cell? ⟨g, o + 1, none⟩ = some v1 ∧ w.cell? ⟨g, o + 2, none⟩ = some v2 ∧ w.cell? ⟨g, o + 3, none⟩ = some v3 ∧ w.cell? ⟨g, o + 4, none⟩ = some v4 ∧ w.cell? ⟨g, o + 5, none⟩ = some v5 ∧
      NdV w P x (.agg #[v0, v1, v2, v3, v4, v5])) ∧ NdsV w P g (o + 6) xs
end

mutual
theorem NdV.keep {w w' : World} {P Q : Nat → Prop} (hk : Keep w w' P Q) : ∀ (nd : Nd) (v : Value), NdV w P nd v → NdV w' Q nd v
  | .mk op names sort n m l, v, h => by
    unfold NdV at h ⊢
    obtain ⟨vn, vl, e, h1, h2⟩ := h
    refine ⟨vn, vl, e, h1.keep hk, ?_⟩
    rcases h2 with h2 | ⟨g, o, c, e2, ⟨hg, hl⟩, h3⟩
    · exact Or.inl h2
    · obtain ⟨k1, k2⟩ := hk.of g hg hl
      exact Or.inr ⟨g, o, c, e2, ⟨k1, hl.stay k2⟩, NdsV.keep hk g k2 l o h3⟩
theorem NdsV.keep {w w' : World} {P Q : Nat → Prop} (hk : Keep w w' P Q) (g : Nat) (hg : w'.heap[g]? = w.heap[g]?) : ∀ (l : List Nd) (o : Nat), NdsV w P g o l → NdsV w' Q g o l
  | [], _, _ => by unfold NdsV; trivial
  | x :: xs, o, h => by
    unfold NdsV at h ⊢
    obtain ⟨⟨v0, v1, v2, v3, v4, v5, c0, c1, c2, c3, c4, c5, h1⟩, h2⟩ := h
    have up : ∀ {i : Nat} {u : Value}, w.cell? ⟨g, i, none⟩ = some u → w'.cell? ⟨g, i, none⟩ = some u := fun h => (World.cell?_of_block (w := w) hg).trans h
    exact ⟨⟨v0, v1, v2, v3, v4, v5, up c0, up c1, up c2, up c3, up c4, up c5, NdV.keep hk x _ h1⟩, NdsV.keep hk g hg xs (o + 6) h2⟩
end
theorem NdV.upto {S : List Nat} {w w' : World} {P : Nat → Prop} {nd : Nd} {v : Value} (h : NdV w P nd v) (hu : Upto S w w') (hs : ∀ b, P b → IsC w b → b ∉ S) : NdV w' P nd v := NdV.keep (Keep.upto hu hs) nd v h
theorem NdV.ext {w w' : World} {P : Nat → Prop} {nd : Nd} {v : Value} (h : NdV w P nd v) (hu : Upto [] w w') : NdV w' P nd v := h.upto hu (by simp)
theorem NdV.mono {w : World} {P Q : Nat → Prop} {nd : Nd} {v : Value} (h : NdV w P nd v) (hpq : ∀ b, P b → IsC w b → Q b) : NdV w Q nd v := NdV.keep (Keep.mono hpq) nd v h
theorem SlP.upto {S : List Nat} {w w' : World} {P : Nat → Prop} {v : Value} {n : Nat} {xs : List Value} (h : SlP w P v n xs) (hu : Upto S w w') (hs : ∀ b, P b → IsC w b → b ∉ S) : SlP w' P v n xs := h.keep (Keep.upto hu hs)
theorem SlP.ext {w w' : World} {P : Nat → Prop} {v : Value} {n : Nat} {xs : List Value} (h : SlP w P v n xs) (hu : Upto [] w w') : SlP w' P v n xs := h.upto hu (by simp)
theorem SlP.mono {w : World} {P Q : Nat → Prop} {v : Value} {n : Nat} {xs : List Value} (h : SlP w P v n xs) (hpq : ∀ b, P b → IsC w b → Q b) : SlP w Q v n xs := h.keep (Keep.mono hpq)

/-- a formula's six cells -/
theorem NdV.six {w : World} {P : Nat → Prop} {nd : Nd} {v : Value} (h : NdV w P nd v) : ∃ (op : Int) (a1 : Option Addr) (n1 c1 : Nat) (so n m : Int) (a2 : Option Addr) (n2 c2 : Nat), v = .agg #[.int .i64 op, .slice a1 n1 c1, .int .i64 so, .int .i64 n, .int .i64 m, .slice a2 n2 c2] := by
  cases nd
  unfold NdV at h
  obtain ⟨vn, vl, e, h1, h2⟩ := h
  obtain ⟨a1, c1, rfl⟩ := h1.len
  rcases h2 with ⟨-, a2, c2, rfl⟩ | ⟨g, o, c, rfl, -⟩
  · exact ⟨_, a1, _, c1, _, _, _, a2, 0, c2, e⟩
  · exact ⟨_, a1, _, c1, _, _, _, _, _, c, e⟩
def zeroV : Value := .agg #[.int .i64 0, .slice none 0 0, .int .i64 0, .int .i64 0, .int .i64 0, .slice none 0 0]
theorem NdV.zero (w : World) (P : Nat → Prop) : NdV w P .zero zeroV := by
  unfold Nd.zero NdV
  exact ⟨_, _, rfl, Or.inl ⟨rfl, rfl, none, 0, rfl⟩, Or.inl ⟨rfl, none, 0, rfl⟩⟩
/-- an atom over names in a block of their own -/
theorem NdV.atom {w : World} {P : Nat → Prop} {op so n m : Int} {names : List (List UInt8)} {vn : Value} (h : SlP w P vn names.length (names.map sV)) : NdV w P (.mk op names so n m []) (.agg #[.int .i64 op, vn, .int .i64 so, .int .i64 n, .int .i64 m, .slice none 0 0]) := by
  unfold NdV
  exact ⟨_, _, rfl, h, Or.inl ⟨rfl, none, 0, rfl⟩⟩
/-- a node over a block that holds one formula, or two -/
theorem NdV.one {w : World} {P : Nat → Prop} {op so : Int} {names : List (List UInt8)} {vn : Value} {x : Nd} {a0 a1 a2 a3 a4 a5 : Value} {g : Nat} {t : TypeId} {z : Nat × Nat} (h : SlP w P vn names.length (names.map sV)) (hx : NdV w P x (.agg #[a0, a1, a2, a3, a4, a5])) (hg : P g)
    (hb : w.heap[g]? = some (.cells #[a0, a1, a2, a3, a4, a5] t z)) : NdV w P (.mk op names so 0 0 [x]) (.agg #[.int .i64 op, vn, .int .i64 so, .int .i64 0, .int .i64 0, .slice (some ⟨g, 0, none⟩) 1 1]) := by
  unfold NdV
  refine ⟨_, _, rfl, h, Or.inr ⟨g, 0, 1, rfl, ⟨hg, _, _, _, hb⟩, ?_⟩⟩
  unfold NdsV NdsV
  exact ⟨⟨a0, a1, a2, a3, a4, a5, by rw [cell_of hb]; rfl, by rw [cell_of hb]; rfl, by rw [cell_of hb]; rfl, by rw [cell_of hb]; rfl, by rw [cell_of hb]; rfl, by rw [cell_of hb]; rfl, hx⟩, trivial⟩
theorem NdV.two {w : World} {P : Nat → Prop} {op so : Int} {names : List (List UInt8)} {vn : Value} {x y : Nd} {a0 a1 a2 a3 a4 a5 b0 b1 b2 b3 b4 b5 : Value} {g : Nat} {t : TypeId} {z : Nat × Nat} (h : SlP w P vn names.length (names.map sV)) (hx : NdV w P x (.agg #[a0, a1, a2, a3, a4, a5])) (hy : NdV w P y (.agg #[b0, b1, b2, b3, b4, b5])) (hg : P g)
    (hb : w.heap[g]? = some (.cells #[a0, a1, a2, a3, a4, a5, b0, b1, b2, b3, b4, b5] t z)) : NdV w P (.mk op names so 0 0 [x, y]) (.agg #[.int .i64 op, vn, .int .i64 so, .int .i64 0, .int .i64 0, .slice (some ⟨g, 0, none⟩) 2 2]) := by
  unfold NdV
  refine ⟨_, _, rfl, h, Or.inr ⟨g, 0, 2, rfl, ⟨hg, _, _, _, hb⟩, ?_⟩⟩
  unfold NdsV NdsV NdsV
  exact ⟨⟨a0, a1, a2, a3, a4, a5, by rw [cell_of hb]; rfl, by rw [cell_of hb]; rfl, by rw [cell_of hb]; rfl, by rw [cell_of hb]; rfl, by rw [cell_of hb]; rfl, by rw [cell_of hb]; rfl, hx⟩,
    ⟨b0, b1, b2, b3, b4, b5, by rw [cell_of hb]; rfl, by rw [cell_of hb]; rfl, by rw [cell_of hb]; rfl, by rw [cell_of hb]; rfl, by rw [cell_of hb]; rfl, by rw [cell_of hb]; rfl, hy⟩, trivial⟩
theorem SlP.nil {w : World} {P : Nat → Prop} : SlP w P (.slice none 0 0) 0 [] := Or.inl ⟨rfl, rfl, none, 0, rfl⟩
theorem SlP.block {w : World} {P : Nat → Prop} {g : Nat} {cs : Array Value} {t : TypeId} {z : Nat × Nat} (hg : P g) (hb : w.heap[g]? = some (.cells cs t z)) (n c : Nat) (xs : List Value) (hx : ∀ (j : Nat) u, xs[j]? = some u → cs[j]? = some u) (hnc : n ≤ c := by omega) : SlP w P (.slice (some ⟨g, 0, none⟩) n c) n xs :=
  Or.inr ⟨g, 0, c, rfl, ⟨hg, ⟨_, _, _, hb⟩, hnc⟩, fun j u hj => by rw [Nat.zero_add, cell_of hb]; exact hx j u hj⟩
/-- new since w -/
def New (w : World) (b : Nat) : Prop := w.heap.size ≤ b
theorem New.mono {w w' : World} {S : List Nat} (h : Upto S w w') (b : Nat) (hb : New w' b) : New w b := Nat.le_trans h.size hb
theorem NdsV.get {w : World} {P : Nat → Prop} {g : Nat} : ∀ (l : List Nd) (o i : Nat) (x : Nd), NdsV w P g o l → l[i]? = some x → ∃ v0 v1 v2 v3 v4 v5, w.cell? ⟨g, o + i * 6, none⟩ = some v0 ∧ w.cell? ⟨g, o + i * 6 + 1, none⟩ = some v1 ∧ w.cell? ⟨g, o + i * 6 + 2, none⟩ = some v2 ∧ w.cell? ⟨g, o + i * 6 + 3, none⟩ = some v3 ∧ w.cell? ⟨g, o + i * 6 + 4, none⟩ = some v4 ∧ w.cell? ⟨g, o + i * 6 + 5, none⟩ = some v5 ∧ NdV w P x (.agg #[v0, v1, v2, v3, v4, v5])
  | [], o, i, x, _, h => by simp at h
  | y :: ys, o, 0, x, h, hi => by
    simp at hi
    subst hi
    unfold NdsV at h
    simpa using h.1
  | y :: ys, o, i + 1, x, h, hi => by
    unfold NdsV at h
    have := NdsV.get ys (o + 6) i x h.2 (by simpa using hi)
    rwa [show o + 6 + i * 6 = o + (i + 1) * 6 by omega] at this
theorem sizeF_pos (n : Nd) : 1 ≤ sizeF n := by
  cases n
  simp only [sizeF]
  omega
theorem sizesF_take (l : List Nd) (i : Nat) (x : Nd) (h : l[i]? = some x) : sizesF (l.take (i + 1)) = sizesF (l.take i) + sizeF x ∧ sizesF (l.take i) + sizeF x ≤ sizesF l := by
  obtain ⟨hi, rfl⟩ := List.getElem?_eq_some_iff.1 h
  have e : l.take (i + 1) = l.take i ++ [l[i]] := List.take_succ_eq_append_getElem hi
  have h1 : sizesF (l.take (i + 1)) = sizesF (l.take i) + sizeF l[i] := by rw [e, sizesF_append]; simp [sizesF]
  refine ⟨h1, ?_⟩
  have h2 : sizesF l = sizesF (l.take (i + 1)) + sizesF (l.drop (i + 1)) := by rw [← sizesF_append, List.take_append_drop]
  omega
theorem depthsF_append (a b : List Nd) : depthsF (a ++ b) = max (depthsF a) (depthsF b) := by
  induction a with
  | nil => simp [depthsF]
  | cons x xs ih => simp only [List.cons_append, depthsF, ih]; omega
theorem depthsF_take (l : List Nd) (i : Nat) (x : Nd) (h : l[i]? = some x) : depthsF (l.take (i + 1)) = max (depthsF (l.take i)) (depthF x) := by
  obtain ⟨hi, rfl⟩ := List.getElem?_eq_some_iff.1 h
  have e : l.take (i + 1) = l.take i ++ [l[i]] := List.take_succ_eq_append_getElem hi
  rw [e, depthsF_append]
  simp [depthsF]
end Go.Proofs.YtbnebkkpmcjmbaaGreatDoor


namespace Go.Proofs.YtbnebkkpmcjmbaaGreatDoor
open Go.RowKit Go.PL Go.Maps

theorem ident_is (s : List UInt8) : identF s = nameF s := by
  rcases Nat.lt_or_ge 65536 s.length with h | h
  · have h1 : nameF s = false := by
      cases hn : nameF s with
      | false => rfl
      | true => obtain ⟨b, t, -, -, -, h2⟩ := name_parts hn; omega
    rw [h1]
    cases hi : identF s with
    | false => rfl
    | true =>
      unfold identF at hi
      cases ho : oneF s with
      | none => rw [ho] at hi; cases hi
      | some kv =>
        obtain ⟨k, v⟩ := kv
        have := (oneF_real.1 ho).1
        omega
  · exact ident_name h
theorem containsS_calls (tk : List (List UInt8)) (x : List UInt8) (v : Value) (w : World) (P : Nat → Prop) (h : SlP w P v tk.length (tk.map sV)) (hl : tk.length ≤ 1000000) : Calls Tryz.prog 52 #[v, .string ⟨x.toArray⟩] w fun e w' => e = .returned (.bool (tk.contains x)) ∧ w' = w := by
  rcases h with ⟨h0, -, a, c, rfl⟩ | ⟨g, o, c, rfl, -, hc⟩
  · have ht : tk = [] := List.eq_nil_of_length_eq_zero h0
    subst ht
    refine (Tryz.slices_Contains_string_empty a c _ w).mono ?_
    rintro e w' ⟨rfl, rfl⟩
    exact ⟨rfl, rfl⟩
  · refine (Tryz.slices_Contains_string g o tk.length c (tk.map fun y => ⟨y.toArray⟩) ⟨x.toArray⟩ w (by simp) (by omega) ?_).mono ?_
    · intro j hj
      have hj' : j < tk.length := by simpa using hj
      rw [hc j (sV tk[j]) (by simp [hj'])]
      simp [sV, List.getD, hj']
    · rintro e w' ⟨rfl, rfl⟩
      refine ⟨?_, rfl⟩
      have : Lib.containsS ((tk.map fun y => (⟨y.toArray⟩ : ByteArray)).take tk.length) ⟨x.toArray⟩ = tk.contains x := by
        rw [List.take_of_length_le (by simp), Bool.eq_iff_iff, Lib.containsS_iff]
        simp only [List.mem_map, List.contains_iff_mem]
        constructor
        · rintro ⟨y, hy, e⟩
          have : y.toArray = x.toArray := ByteArray.mk.inj e
          have : y = x := by simpa using congrArg Array.toList this
          rwa [← this]
        · exact fun hx => ⟨x, hx, rfl⟩
      rw [this]
end Go.Proofs.YtbnebkkpmcjmbaaGreatDoor


namespace Go.Proofs.YtbnebkkpmcjmbaaGreatDoor
open Go.RowKit Go.PL Go.Maps
set_option maxRecDepth 100000 in
set_option maxHeartbeats 1600000 in
theorem smalld_calls (n : Nat) (h : n < 100) (w : World) : Calls Tryz.prog 107 #[.int .i64 n] w fun e w' => e = .returned (.string ⟨(digF 3 n).toArray⟩) ∧ Upto [] w w' := by
  have HU := Lib.hid (Upto.refl [] w)
  have hn0 : (0 : Int) ≤ n := by omega
  by_cases h1 : n < 10
  · have hI : (n : Int) < 10 := by omega
    go_enter Tryz.func107, Tryz.ntmps107
    go_wp2_with fail
    go_ret
    refine ⟨congrArg (fun b => Ending.returned (Value.string b)) (ByteArray.ext ?_), HU.out⟩
    try (rename_i hk; clear hk)
    clear hI hn0 HU h
    revert h1
    revert n
    decide +kernel
  · have hI : ¬ (n : Int) < 10 := by omega
    go_enter Tryz.func107, Tryz.ntmps107
    go_wp2_with fail
    go_ret
    refine ⟨congrArg (fun b => Ending.returned (Value.string b)) (ByteArray.ext ?_), HU.out⟩
    try (rename_i hk; clear hk)
    clear hI hn0 HU
    revert h1
    revert h
    revert n
    decide +kernel
set_option maxRecDepth 100000 in
set_option maxHeartbeats 1600000 in
theorem fmtint_calls (n : Nat) (h : n < 100) (w : World) : Calls Tryz.prog 97 #[.int .i64 n, .int .i64 10] w fun e w' => e = .returned (.string ⟨(digF 3 n).toArray⟩) ∧ Upto [] w w' := by
  have HC := Lib.hid (smalld_calls n h)
  have hn0 : (0 : Int) ≤ n := by omega
  have hI : (n : Int) < 100 := by omega
  generalize (digF 3 n) = R at *
  go_enter Tryz.func97, Tryz.ntmps97
  go_wp2_with fail
  refine (HC.out _).mono ?_
  rintro e w5 ⟨rfl, hu5⟩
  have HU5 := Lib.hid hu5
  clear hu5
  go_wp2_with fail
  go_ret
  exact ⟨rfl, HU5.out⟩
set_option maxRecDepth 100000 in
set_option maxHeartbeats 1600000 in
theorem itoa1_calls (n : Nat) (h : n < 100) (w : World) : Calls Tryz.prog 83 #[.int .i64 n] w fun e w' => e = .returned (.string ⟨(digF 3 n).toArray⟩) ∧ Upto [] w w' := by
  have HC := Lib.hid (fmtint_calls n h)
  have hn0 : (0 : Int) ≤ n := by omega
  have hI : (n : Int) < 100 := by omega
  generalize (digF 3 n) = R at *
  go_enter Tryz.func83, Tryz.ntmps83
  go_wp2_with fail
  refine (HC.out _).mono ?_
  rintro e w5 ⟨rfl, hu5⟩
  have HU5 := Lib.hid hu5
  clear hu5
  go_wp2_with fail
  go_ret
  exact ⟨rfl, HU5.out⟩
set_option maxRecDepth 100000 in
set_option maxHeartbeats 1600000 in
theorem itoa_calls (n : Nat) (h : n < 100) (w : World) : Calls Tryz.prog 53 #[.int .i64 n] w fun e w' => e = .returned (.string ⟨(digF 3 n).toArray⟩) ∧ Upto [] w w' := by
  have HC := Lib.hid (itoa1_calls n h)
  have hn0 : (0 : Int) ≤ n := by omega
  have hI : (n : Int) < 100 := by omega
  generalize (digF 3 n) = R at *
  go_enter Tryz.func53, Tryz.ntmps53
  go_wp2_with fail
  refine (HC.out _).mono ?_
  rintro e w5 ⟨rfl, hu5⟩
  have HU5 := Lib.hid hu5
  clear hu5
  go_wp2_with fail
  go_ret
  exact ⟨rfl, HU5.out⟩
end Go.Proofs.YtbnebkkpmcjmbaaGreatDoor


namespace Go.Proofs.YtbnebkkpmcjmbaaGreatDoor
open Go.RowKit Go.PL Go.Maps

theorem cand_get (s : List UInt8) (j d : Nat) (hd : (digF 3 j).length = d) (_hs : s.length ≤ 16) : cand s j = s.take (min s.length (16 - d)) ++ digF 3 j := by
  unfold cand
  rw [hd]
  congr 1
  rcases Nat.le_total s.length (16 - d) with h | h
  · rw [Nat.min_eq_left h, List.take_of_length_le h, List.take_of_length_le (Nat.le_refl _)]
  · rw [Nat.min_eq_right h]
theorem byte_app (a b : List UInt8) : (⟨(a ++ b).toArray⟩ : ByteArray) = ⟨a.toArray⟩ ++ ⟨b.toArray⟩ := by
  apply ByteArray.ext
  simp
theorem digF_len (j : Nat) (h : j < 100) : 1 ≤ (digF 3 j).length ∧ (digF 3 j).length ≤ 2 := by
  obtain ⟨b, t, e, ht, -⟩ := digF_dig j h
  rw [e]
  simp
  omega
theorem freshF_end {s o : List UInt8} {tk : List (List UInt8)} {K j : Nat} (hK : K = freeFrom s tk 98 2) (hn : nameF s = true) (hc : tk.contains o = false) (hsp : ∀ k, 2 ≤ k → k < K → tk.contains (cand s k) = true)
    (h : (j = 2 ∧ o = s) ∨ (2 < j ∧ o = cand s (j - 1) ∧ tk.contains s = true ∧ j - 1 ≤ K)) : freshF s tk = o := by
  have e1 : ¬ nameF s = false := by rw [hn]; simp
  unfold freshF
  rw [if_neg e1, ← hK]
  rcases h with ⟨h1, h2⟩ | ⟨h1, h2, h3, h4⟩
  · rw [h2] at hc
    rw [if_pos hc, h2]
  · have e2 : ¬ tk.contains s = false := by rw [h3]; simp
    rw [if_neg e2, h2]
    rcases Nat.eq_or_lt_of_le h4 with h5 | h5
    · rw [h5]
    · have := hsp (j - 1) (by omega) h5
      rw [← h2, hc] at this
      cases this
theorem meas_up {M j : Nat} {x : Int} (h : j < M) (hx : x = ((j + 1 : Nat) : Int)) : M - (intOf (.int .i64 x)).toNat < M - (intOf (.int .i64 (j : Int))).toNat := by
  subst hx
  simp only [intOf, Int.toNat_natCast]
  omega
theorem freshF_no {s : List UInt8} {tk : List (List UInt8)} (hn : nameF s = false) : freshF s tk = [] := by
  unfold freshF
  rw [if_pos hn]
set_option maxRecDepth 100000 in
set_option maxHeartbeats 3200000 in
theorem freshP_calls (s : List UInt8) (tk : List (List UInt8)) (v : Value) (w : World) (P : Nat → Prop) (h : SlP w P v tk.length (tk.map sV)) (hl : tk.length ≤ 80) (hs : s.length ≤ 281474976710656) (he : Env w) : Calls Tryz.prog 18 #[.string ⟨s.toArray⟩, v] w fun e w' => e = .returned (.string ⟨(freshF s tk).toArray⟩) ∧ Upto [] w w' := by
  have HID := Lib.hid (fun (x : List UInt8) (u : World) (hu : Upto [] w u) (hx : x.length ≤ 281474976710656) => isIdent_calls x u (he.ext hu) hx)
  have HCO := Lib.hid (fun (x : List UInt8) (u : World) (hu : Upto [] w u) => containsS_calls tk x v u P (h.ext hu) (by omega))
  have HF0 := freeFrom_spec s tk 98 2
  have HK0 := free_lt s tk hl
  have HI0 := free_is s tk hl
  have HFE0 := fun (o : List UInt8) (j : Nat) (hn : nameF s = true) (hc : tk.contains o = false) => freshF_end (o := o) (j := j) rfl hn hc HF0.2.2.1
  generalize freeFrom s tk 98 2 = K at *
  have HF := Lib.hid (And.intro HF0.1 HF0.2.2.1)
  have HK := Lib.hid HK0
  have HI := Lib.hid HI0
  have HFE := Lib.hid HFE0
  have HFN := Lib.hid (fun hn : nameF s = false => freshF_no (tk := tk) hn)
  generalize freshF s tk = R at *
  clear HF0 HK0 HI0 HFE0
  obtain ⟨a, c, rfl⟩ := h.len
  cases hn : nameF s with
  | false =>
    have HE : Hid (R = []) := Lib.hid (HFN.out hn)
    have HN : Hid (identF s = false) := Lib.hid (by rw [ident_is]; exact hn)
    clear h
    go_enter Tryz.func18, Tryz.ntmps18
    go_wp2_with fail
    refine (HID.out s _ (Upto.refl _ _) hs).mono ?_
    rintro e w1 ⟨rfl, hu1⟩
    rw [HN.out]
    have HU := Lib.hid hu1
    clear hu1
    go_wp2_with fail
    go_ret
    exact ⟨by rw [HE.out]; rfl, HU.out⟩
  | true =>
    have HN : Hid (identF s = true) := Lib.hid (by rw [ident_is]; exact hn)
    have HNN := Lib.hid hn
    obtain ⟨b, t, -, -, -, hl16⟩ := name_parts hn
    clear h b t hn
    generalize hS : s = s0 at *
    go_enter Tryz.func18, Tryz.ntmps18
    go_wp2_with fail
    refine (HID.out s0 _ (Upto.refl _ _) hs).mono ?_
    rintro e w1 ⟨rfl, hu1⟩
    rw [HN.out]
    have HU := Lib.hid hu1
    clear hu1
    go_wp2_with fail
    obtain ⟨M, hM⟩ : ∃ M : Nat, M = 200 := ⟨_, rfl⟩
    have HM := Lib.hid hM
    clear hM
    go_loopw [5, 6] (fun vo vi wr => ∃ (j : Nat) (o : List UInt8), vo = .string ⟨o.toArray⟩ ∧ vi = .int .i64 j ∧ Hid (2 ≤ j ∧ ((j = 2 ∧ o = s0) ∨ (2 < j ∧ o = cand s0 (j - 1) ∧ tk.contains s0 = true ∧ j - 1 ≤ K)) ∧ Upto [] w wr)) (fun _ vi _ => M - (intOf vi).toNat)
    case atStart => exact ⟨2, s0, rfl, rfl, Lib.hid ⟨Nat.le_refl _, Or.inl ⟨rfl, rfl⟩, HU.out⟩⟩
    case round =>
      obtain ⟨j, o, rfl, rfl, HJ⟩ := hrel
      have HOL : Hid (o.length ≤ 16 ∧ nameF o = true ∧ j < 101) := Lib.hid (by
        rcases HJ.out.2.1 with ⟨h1, rfl⟩ | ⟨h1, rfl, -, h2⟩
        · exact ⟨hl16, HNN.out, by omega⟩
        · have hc := cand_name s0 HNN.out (j - 1) (by have := HK.out; omega)
          obtain ⟨b, t, -, -, -, h3⟩ := name_parts hc
          exact ⟨h3, hc, by have := HK.out; omega⟩)
      go_wp2_with fail
      refine (HCO.out o _ HJ.out.2.2).mono ?_
      rintro e w2 ⟨rfl, rfl⟩
      cases hc : tk.contains o with
      | true =>
        have hjK : Hid (j ≤ K ∧ j < 100 ∧ tk.contains s0 = true) := Lib.hid (by
          rcases HJ.out.2.1 with ⟨h1, h2⟩ | ⟨h1, h2, h3, h4⟩
          · rw [h2] at hc
            exact ⟨by have := HF.out.1; omega, by omega, hc⟩
          · rcases Nat.eq_or_lt_of_le h4 with h5 | h5
            · rw [h2, h5, HI.out] at hc
              cases hc
            · exact ⟨by omega, by have := HK.out; omega, h3⟩)
        have hd := digF_len j hjK.out.2.1
        have HIT := Lib.hid (itoa_calls j hjK.out.2.1)
        have HCG := Lib.hid (cand_get s0 j _ rfl hl16)
        have HJ2 := HJ.out.1
        clear hc
        go_wp2_with fail
        refine (HIT.out _).mono ?_
        rintro e w3 ⟨rfl, hu3⟩
        have HU3 := Lib.hid hu3
        clear hu3
        generalize hD : digF 3 j = D at *
        have hDl0 : (D.length : Int) ≤ 2 := by omega
        have hDl1 : (1 : Int) ≤ D.length := by omega
        have hsl : (s0.length : Int) ≤ 16 := by omega
        go_wp2_with fail
        have hj100 := hjK.out.2.1
        have hw : wrap64 ((j : Int) + 1) = ((j + 1 : Nat) : Int) := by unfold wrap64; omega
        refine ⟨⟨j + 1, cand s0 j, ?_, by rw [hw], Lib.hid ⟨by omega, Or.inr ⟨by omega, by rw [Nat.add_sub_cancel], hjK.out.2.2, by rw [Nat.add_sub_cancel]; exact hjK.out.1⟩, HJ.out.2.2.trans_ext HU3.out⟩⟩, ?_⟩
        · have he := ext_to (s := s0) 0 (min s0.length (16 - D.length))
          rw [Nat.zero_add, List.drop_zero] at he
          rw [show (min (↑s0.length) (16 - (D.length : Int))).toNat = min s0.length (16 - D.length) by omega, he, ← byte_app, ← HCG.out]
        · exact meas_up (by have := HM.out; omega) hw
      | false =>
        have HE : Hid (R = o) := Lib.hid (HFE.out o j HNN.out hc HJ.out.2.1)
        have HNO : Hid (identF o = true) := Lib.hid (by rw [ident_is]; exact HOL.out.2.1)
        have HOI := Lib.hid (HID.out o w2 HJ.out.2.2 (by have := HOL.out.1; omega))
        clear hc
        go_wp2_with fail
        refine HOI.out.mono ?_
        rintro e w3 ⟨rfl, hu3⟩
        rw [HNO.out]
        have HU3 := Lib.hid hu3
        clear hu3
        go_wp2_with fail
        go_ret
        exact ⟨by rw [HE.out]; rfl, HJ.out.2.2.trans_ext HU3.out⟩
end Go.Proofs.YtbnebkkpmcjmbaaGreatDoor


namespace Go.Proofs.YtbnebkkpmcjmbaaGreatDoor
open Go.RowKit Go.PL Go.Maps

/-- the reader's cells -/
def rdC (v : Value) (s : PS) : Array Value := #[v, .int .i64 s.nx, .int .i64 s.er, .int .i64 s.dp]
structure RdAt (w : World) (p : Nat) (l : List Tok) (s : PS) : Prop where
  cells : ∃ v, w.heap[p]? = some (.cells (rdC v s) 3 (0, 0)) ∧ Toks w v l ∧ ∀ g o n c, v = .slice (some ⟨g, o, none⟩) n c → g < p
  inb : s.nx < l.length
  fin : ∀ i t, l[i]? = some t → t.kind ≠ 0 → i + 1 < l.length
theorem tkAt_some {l : List Tok} {s : PS} (h : s.nx < l.length) : l[s.nx]? = some (tkAt l s) := by
  unfold tkAt
  rw [List.getD_eq_getElem?_getD, List.getElem?_eq_getElem h]
  rfl

theorem RdAt.ext {w w' : World} {p : Nat} {l : List Tok} {s : PS} (h : RdAt w p l s) (hu : Upto [] w w') : RdAt w' p l s := by
  obtain ⟨⟨v, hb, hT, hg⟩, hin, hf⟩ := h
  exact ⟨⟨v, hu.at hb (by simp), hT.ext hu, hg⟩, hin, hf⟩
/-- the reader goes on by one token -/
theorem RdAt.step {w : World} {p : Nat} {l : List Tok} {s : PS} (h : RdAt w p l s) (hk : (tkAt l s).kind ≠ 0) : RdAt (w.setCell ⟨p, 1, none⟩ (.int .i64 ((s.nx : Int) + 1))) p l (stepF s) ∧ Upto [p] w (w.setCell ⟨p, 1, none⟩ (.int .i64 ((s.nx : Int) + 1))) := by
  obtain ⟨⟨v, hb, hT, hg⟩, hin, hf⟩ := h
  have hu := (Upto.refl [p] w).setCell (p := ⟨p, 1, none⟩) (Or.inl (by simp)) (.int .i64 ((s.nx : Int) + 1))
  refine ⟨⟨⟨v, ?_, hT.upto hu (fun g o n c e hm => by simp at hm; have := hg g o n c e; omega), hg⟩, hf _ _ (tkAt_some hin) hk, hf⟩, hu⟩
  rw [set_same hb 1]
  rfl

end Go.Proofs.YtbnebkkpmcjmbaaGreatDoor


namespace Go.Proofs.YtbnebkkpmcjmbaaGreatDoor
open Go.RowKit Go.PL Go.Maps

/-- the table of the sorts -/
structure SEnv (w : World) : Prop where
  c0 : w.cell? ⟨0, 0, none⟩ = some (.string ⟨[118, 101, 114, 116, 101, 120].toArray⟩)
  c1 : w.cell? ⟨0, 1, none⟩ = some (.string ⟨[101, 100, 103, 101].toArray⟩)
  c2 : w.cell? ⟨0, 2, none⟩ = some (.string ⟨[115, 101, 116].toArray⟩)
  c3 : w.cell? ⟨0, 3, none⟩ = some (.string ⟨[101, 100, 103, 101, 115].toArray⟩)
theorem SEnv.upto {S : List Nat} {w w' : World} (h : SEnv w) (hu : Upto S w w') (h2 : 0 ∉ S) : SEnv w' :=
  ⟨(hu.cell (World.block_lt_of_cell? w _ h.c0) h2).trans h.c0, (hu.cell (World.block_lt_of_cell? w _ h.c1) h2).trans h.c1, (hu.cell (World.block_lt_of_cell? w _ h.c2) h2).trans h.c2, (hu.cell (World.block_lt_of_cell? w _ h.c3) h2).trans h.c3⟩
/-- what stays while the reader at p reads l -/
structure Cx (w : World) (p : Nat) (l : List Tok) : Prop where
  srt : SEnv w
  p2 : p ≠ 0
  len : l.length ≤ 1000000
theorem Cx.upto {w w' : World} {p : Nat} {l : List Tok} (h : Cx w p l) (hu : Upto [p] w w') : Cx w' p l := ⟨h.srt.upto hu (by have := h.p2; simp; omega), h.p2, h.len⟩
theorem Cx.ext {w w' : World} {p : Nat} {l : List Tok} (h : Cx w p l) (hu : Upto [] w w') : Cx w' p l := h.upto (hu.mono (by simp))
theorem RdAt.lt {w : World} {p : Nat} {l : List Tok} {s : PS} (h : RdAt w p l s) : p < w.heap.size := by
  obtain ⟨⟨v, hb, -, -⟩, -, -⟩ := h
  exact lt_of_heap hb

/-- a block of six cells, stored whole -/
theorem nd_store {w : World} {B : Nat} {a b c d e f : Value} {T : TypeId} (h : w.heap[B]? = some (.cells #[a, b, c, d, e, f] T (0, 0))) (a' b' c' d' e' f' : Value) :
    ((((((w.setCell ⟨B, 0, none⟩ a').setCell ⟨B, 1, none⟩ b').setCell ⟨B, 2, none⟩ c').setCell ⟨B, 3, none⟩ d').setCell ⟨B, 4, none⟩ e').setCell ⟨B, 5, none⟩ f').heap[B]? = some (.cells #[a', b', c', d', e', f'] T (0, 0)) := by
  have := set_same (set_same (set_same (set_same (set_same (set_same h 0 a') 1 b') 2 c') 3 d') 4 e') 5 f'
  simpa using this
theorem nd_up {S : List Nat} {v w : World} {B : Nat} (h : Upto S v w) (hB : B ∈ S ∨ v.heap.size ≤ B) (a' b' c' d' e' f' : Value) :
    Upto S v ((((((w.setCell ⟨B, 0, none⟩ a').setCell ⟨B, 1, none⟩ b').setCell ⟨B, 2, none⟩ c').setCell ⟨B, 3, none⟩ d').setCell ⟨B, 4, none⟩ e').setCell ⟨B, 5, none⟩ f') :=
  (((((h.setCell hB _).setCell hB _).setCell hB _).setCell hB _).setCell hB _).setCell hB _
theorem nd_self (w : World) (B : Nat) (a' b' c' d' e' f' : Value) :
    Upto [B] w ((((((w.setCell ⟨B, 0, none⟩ a').setCell ⟨B, 1, none⟩ b').setCell ⟨B, 2, none⟩ c').setCell ⟨B, 3, none⟩ d').setCell ⟨B, 4, none⟩ e').setCell ⟨B, 5, none⟩ f') := nd_up (Upto.refl _ _) (Or.inl (by simp)) ..
end Go.Proofs.YtbnebkkpmcjmbaaGreatDoor


namespace Go.Proofs.YtbnebkkpmcjmbaaGreatDoor
open Go.RowKit Go.PL Go.Maps

/-- what reading a formula comes to -/
def RdPost (w : World) (p : Nat) (l : List Tok) (s : PS) (n : Nd) (s' : PS) (e : Ending) (w' : World) : Prop :=
  ∃ v, e = .returned v ∧ NdV w' (New w) n v ∧ RdAt w' p l s' ∧ Upto [p] w w' ∧ Adv l s s'
/-- function k, called with these arguments, reads as of does -/
def Rdr (w0 : World) (p : Nat) (l : List Tok) (k : FuncId) (args : Array Value) (of : Rd) : Prop :=
  ∀ w s n s', Upto [p] w0 w → RdAt w p l s → s.dp ≤ 256 → of s = some (n, s') → Calls Tryz.prog k args w (RdPost w p l s n s')
theorem Rdr.upto {w0 w1 : World} {p : Nat} {l : List Tok} {k : FuncId} {args : Array Value} {of : Rd} (h : Rdr w0 p l k args of) (hu : Upto [p] w0 w1) : Rdr w1 p l k args of :=
  fun w s n s' h1 h2 h3 h4 => h w s n s' (hu.trans_same h1) h2 h3 h4

/-- the reader at another depth -/
theorem RdAt.depth {w : World} {p : Nat} {l : List Tok} {s : PS} (h : RdAt w p l s) (d : Nat) : RdAt (w.setCell ⟨p, 3, none⟩ (.int .i64 d)) p l ⟨s.nx, s.er, d⟩ ∧ Upto [p] w (w.setCell ⟨p, 3, none⟩ (.int .i64 d)) := by
  obtain ⟨⟨v, hb, hT, hg⟩, hin, hf⟩ := h
  have hu := (Upto.refl [p] w).setCell (p := ⟨p, 3, none⟩) (Or.inl (by simp)) (.int .i64 d)
  refine ⟨⟨⟨v, ?_, hT.upto hu (fun g o n c e hm => by simp at hm; have := hg g o n c e; omega), hg⟩, hin, hf⟩, hu⟩
  rw [set_same hb 3]
  rfl
/-- a block that holds no tokens is written: the reader stays -/
theorem RdAt.other {w w' : World} {p B : Nat} {l : List Tok} {s : PS} {cs : Array Value} {T : TypeId} {z : Nat × Nat} (h : RdAt w p l s) (hb : w.heap[B]? = some (.cells cs T z)) (hc : ∀ (o : Nat) x, cs[o + 1]? = some (.string x) → cs[o + 4]? = none) (hu : Upto [B] w w') (hBp : B ≠ p) : RdAt w' p l s := by
  obtain ⟨⟨v, hp, hT, hg⟩, hin, hf⟩ := h
  refine ⟨⟨v, hu.at hp (by simp; omega), hT.upto hu ?_, hg⟩, hin, hf⟩
  intro g o n c e hm
  simp at hm
  subst hm
  rcases hT.at with ⟨h0, _⟩ | ⟨g', o', c', rfl, hat⟩
  · rw [h0] at hin; simp at hin
  · simp at e
    obtain ⟨⟨rfl, rfl⟩, -, -⟩ := e
    obtain ⟨t, ht⟩ : ∃ t, l[0]? = some t := ⟨_, List.getElem?_eq_getElem (by omega)⟩
    obtain ⟨c0, c1, c2, c3, c4⟩ := hat _ _ ht
    rw [cell_of hb] at c1 c4
    simp at c1 c4
    rw [hc _ _ c1] at c4
    cases c4
/-- blocks above the reader's are written: the reader stays -/
theorem RdAt.above {w w' : World} {p : Nat} {l : List Tok} {s : PS} {S : List Nat} (h : RdAt w p l s) (hu : Upto S w w') (hS : ∀ k ∈ S, p < k) : RdAt w' p l s := by
  obtain ⟨⟨v, hp, hT, hg⟩, hin, hf⟩ := h
  refine ⟨⟨v, hu.at hp (fun hm => Nat.lt_irrefl _ (hS _ hm)), hT.upto hu ?_, hg⟩, hin, hf⟩
  intro g o n c e hm
  have h1 := hg g o n c e
  have h2 := hS g hm
  omega
theorem nd_no_string {a c d e : Int} {b f : Value} (hb : ∀ x, b ≠ .string x) (_hf : ∀ x, f ≠ .string x) : ∀ (o : Nat) x, (#[.int .i64 a, b, .int .i64 c, .int .i64 d, .int .i64 e, f] : Array Value)[o + 1]? = some (.string x) → (#[.int .i64 a, b, .int .i64 c, .int .i64 d, .int .i64 e, f] : Array Value)[o + 4]? = none := by
  intro o x h
  match o, h with
  | 0, h => simp at h; exact absurd h (hb x)
  | 1, h => simp at h
  | 2, h => simp
  | 3, h => simp
  | 4, h => simp
  | o + 5, h => simp
end Go.Proofs.YtbnebkkpmcjmbaaGreatDoor


namespace Go.Proofs.YtbnebkkpmcjmbaaGreatDoor
open Go.RowKit Go.PL Go.Maps

/-- the number of the next token, as the reader at p holds it -/
def nxOf (w : World) (p : Nat) : Nat := match w.cell? ⟨p, 1, none⟩ with
  | some (.int _ x) => x.toNat
  | _ => 0
theorem RdAt.nx {w : World} {p : Nat} {l : List Tok} {s : PS} (h : RdAt w p l s) : nxOf w p = s.nx := by
  obtain ⟨⟨v, hb, -, -⟩, -, -⟩ := h
  unfold nxOf
  rw [cell_of hb 1]
  simp [rdC]
/-- blocks new since w, but for the result's and the variable's -/
def Lo (w : World) (B Bn : Nat) (b : Nat) : Prop := New w b ∧ b ≠ B ∧ b ≠ Bn
/-- what stands between two rounds -/
def LeftI (w : World) (p B Bn : Nat) (l : List Tok) (x : List UInt8) (op : Int) (of : Rd) (n : Nd) (s s' : PS) (wr : World) : Prop :=
  ∃ k m t, leftLoop l x op of k m t = some (n, s') ∧ RdAt wr p l t ∧ Upto [p] w wr ∧ Adv l s t ∧ wr.heap[B]? = some (.cells #[.int .i64 0, .slice none 0 0, .int .i64 0, .int .i64 0, .int .i64 0, .slice none 0 0] 30 (0, 0)) ∧
    ∃ (oa : Int) (na1 : Option Addr) (na2 na3 : Nat) (sa ma qa : Int) (la1 : Option Addr) (la2 la3 : Nat), wr.heap[Bn]? = some (.cells #[.int .i64 oa, .slice na1 na2 na3, .int .i64 sa, .int .i64 ma, .int .i64 qa, .slice la1 la2 la3] 30 (0, 0)) ∧ NdV wr (Lo w B Bn) m (.agg #[.int .i64 oa, .slice na1 na2 na3, .int .i64 sa, .int .i64 ma, .int .i64 qa, .slice la1 la2 la3])
theorem LeftI.next {w w4 : World} {p B Bn : Nat} {l : List Tok} {x : List UInt8} {op : Int} {of : Rd} {n m m2 : Nd} {s s' t2 : PS} {k : Nat} {a0 a1 a2 a3 a4 a5 b0 b1 b2 b3 b4 b5 : Value}
    (hB : w.heap.size = B) (hp : p < B) (hBn : B < Bn) (hu : Upto [p] w w4) (hR : RdAt w4 p l t2) (hz : w4.heap[B]? = some (.cells #[.int .i64 0, .slice none 0 0, .int .i64 0, .int .i64 0, .int .i64 0, .slice none 0 0] 30 (0, 0))) {T : TypeId} {x0 x2 x3 x4 : Int} {x1 x5 : Value} (h1 : ∀ x, x1 ≠ .string x) (h5 : ∀ x, x5 ≠ .string x)
    (hn : w4.heap[Bn]? = some (.cells #[.int .i64 x0, x1, .int .i64 x2, .int .i64 x3, .int .i64 x4, x5] 30 (0, 0)))
    (hm : NdV w4 (Lo w B Bn) m (.agg #[a0, a1, a2, a3, a4, a5])) (hm2 : NdV w4 (Lo w B Bn) m2 (.agg #[b0, b1, b2, b3, b4, b5])) (hl : leftLoop l x op of k (.mk op [] 0 0 0 [m, m2]) t2 = some (n, s')) (ha : Adv l s t2) :
    LeftI w p B Bn l x op of n s s' ((((((((w4.alloc (.cells #[a0, a1, a2, a3, a4, a5, b0, b1, b2, b3, b4, b5] T)).setCell ⟨Bn, 0, none⟩ (.int .i64 op)).setCell ⟨Bn, 1, none⟩ (.slice none 0 0)).setCell ⟨Bn, 2, none⟩ (.int .i64 0)).setCell ⟨Bn, 3, none⟩ (.int .i64 0)).setCell ⟨Bn, 4, none⟩ (.int .i64 0)).setCell ⟨Bn, 5, none⟩ (.slice (some ⟨w4.heap.size, 0, none⟩) 2 2))) ∧ nxOf ((((((((w4.alloc (.cells #[a0, a1, a2, a3, a4, a5, b0, b1, b2, b3, b4, b5] T)).setCell ⟨Bn, 0, none⟩ (.int .i64 op)).setCell ⟨Bn, 1, none⟩ (.slice none 0 0)).setCell ⟨Bn, 2, none⟩ (.int .i64 0)).setCell ⟨Bn, 3, none⟩ (.int .i64 0)).setCell ⟨Bn, 4, none⟩ (.int .i64 0)).setCell ⟨Bn, 5, none⟩ (.slice (some ⟨w4.heap.size, 0, none⟩) 2 2))) p = t2.nx := by
  have hua : Upto [] w4 (w4.alloc (.cells #[a0, a1, a2, a3, a4, a5, b0, b1, b2, b3, b4, b5] T)) := (Upto.refl [] w4).alloc _
  have hlt := lt_of_heap hn
  have hnew := new_at w4 (.cells #[a0, a1, a2, a3, a4, a5, b0, b1, b2, b3, b4, b5] T)
  have hg : Lo w B Bn w4.heap.size := ⟨hu.size, by omega, by omega⟩
  have htwo := NdV.two (w := w4.alloc (.cells #[a0, a1, a2, a3, a4, a5, b0, b1, b2, b3, b4, b5] T)) (P := Lo w B Bn) (op := op) (so := 0) (names := []) SlP.nil (hm.ext hua) (hm2.ext hua) hg hnew
  have hnA := hua.at hn (by simp)
  have hst := nd_self (w4.alloc (.cells #[a0, a1, a2, a3, a4, a5, b0, b1, b2, b3, b4, b5] T)) Bn (.int .i64 op) (.slice none 0 0) (.int .i64 0) (.int .i64 0) (.int .i64 0) (.slice (some ⟨w4.heap.size, 0, none⟩) 2 2)
  have hbn := nd_store hnA (.int .i64 op) (.slice none 0 0) (.int .i64 0) (.int .i64 0) (.int .i64 0) (.slice (some ⟨w4.heap.size, 0, none⟩) 2 2)
  have hRF := (hR.ext hua).other hnA (nd_no_string h1 h5) hst (by omega)
  refine ⟨⟨k, _, t2, hl, hRF, nd_up (hu.trans_ext hua) (Or.inr (by omega)) .., ha, hst.at (hua.at hz (by simp)) (by simp; omega), op, none, 0, 0, 0, 0, 0, _, 2, 2, hbn, ?_⟩, hRF.nx⟩
  exact htwo.upto hst (fun b hb _ => by simp; exact hb.2.2)

end Go.Proofs.YtbnebkkpmcjmbaaGreatDoor


namespace Go.Proofs.YtbnebkkpmcjmbaaGreatDoor
open Go.RowKit Go.PL Go.Maps

theorem SlP.of_row {w : World} {P : Nat → Prop} {e : TypeId} {v : Value} {n : Nat} {xs : List Value} (h : w.ownsRow 0 e 1 v n xs) (hP : ∀ g, v.ownBlock = some g → P g) : SlP w P v n xs := by
  rcases h.2 with ⟨rfl, rfl⟩ | ⟨g, cap, cur, rfl, _, hh, hnc, _, _, ht⟩
  · exact Or.inl ⟨rfl, List.eq_nil_of_length_eq_zero (by simpa using h.1), none, 0, rfl⟩
  · refine Or.inr ⟨g, 0, cap, rfl, ⟨hP g rfl, ⟨_, _, _, hh⟩, hnc⟩, ?_⟩
    intro j u hj
    rw [cell_of hh, Nat.zero_add]
    rw [← ht, List.getElem?_take] at hj
    split at hj
    · simpa using hj
    · cases hj
/-- what is held while the arguments are read -/
structure CallI (w : World) (p Bn : Nat) (l : List Tok) (s t : PS) (xs : List (List UInt8)) (v : Value) (wr : World) : Prop where
  rd : RdAt wr p l t
  up : Upto [p] w wr
  adv : Adv l s t
  z : wr.heap[w.heap.size]? = some (.cells #[.int .i64 0, .slice none 0 0, .int .i64 0, .int .i64 0, .int .i64 0, .slice none 0 0] 30 (0, 0))
  nb : wr.heap[Bn]? = some (.cells #[.int .i64 10, v, .int .i64 0, .int .i64 0, .int .i64 0, .slice none 0 0] 30 (0, 0))
  row : wr.ownsRow 0 9 1 v xs.length (xs.map sV)
  own : ∀ g, v.ownBlock = some g → w.heap.size < g ∧ g ≠ Bn
  ne : p < w.heap.size ∧ w.heap.size < Bn
/-- one argument more -/
theorem CallI.app {w : World} {p Bn : Nat} {l : List Tok} {s t : PS} {xs : List (List UInt8)} {v : Value} {wr w5 : World} {x : List UInt8} {b' : Option Addr} {n' c' : Nat} {T : TypeId} (h : CallI w p Bn l s t xs v wr) (hn : n' = xs.length + 1)
    (hg : Grew (wr.alloc (.cells #[.string ⟨x.toArray⟩] T)) w5 9 1 v (.slice b' n' c') n' (xs.map sV ++ [.string ⟨x.toArray⟩])) : CallI w p Bn l s t (xs ++ [x]) (.slice b' n' c') (w5.setCell ⟨Bn, 1, none⟩ (.slice b' n' c')) ∧ w5.heap[Bn]? = some (.cells #[.int .i64 10, v, .int .i64 0, .int .i64 0, .int .i64 0, .slice none 0 0] 30 (0, 0)) := by
  subst hn
  have h1 := h.ne
  have hua : Upto [] wr (wr.alloc (.cells #[.string ⟨x.toArray⟩] T)) := (Upto.refl [] wr).alloc _
  have hvs : ∀ g ∈ v.ownBlock.toList, w.heap.size < g ∧ g ≠ Bn := fun g hm => h.own g (Option.mem_toList.1 hm)
  have hu := hg.up
  have hnb := hu.at (hua.at h.nb (by simp)) (fun hm => (hvs _ hm).2 rfl)
  have hz := hu.at (hua.at h.z (by simp)) (fun hm => by have := (hvs _ hm).1; omega)
  have hst : Upto [Bn] w5 (w5.setCell ⟨Bn, 1, none⟩ (.slice b' (xs.length + 1) c')) := (Upto.refl [Bn] w5).setCell (p := ⟨Bn, 1, none⟩) (Or.inl (by simp)) _
  have hR5 : RdAt w5 p l t := (h.rd.ext hua).above hu (fun k hk => by have := (hvs k hk).1; omega)
  have hn2 := hg.own
  have hsz : w.heap.size < (wr.alloc (.cells #[.string ⟨x.toArray⟩] T)).heap.size := lt_of_heap (hua.at h.z (by simp))
  refine ⟨⟨hR5.above hst (fun k hk => by simp at hk; omega), ?_, h.adv, hst.at hz (by simp; omega), ?_, ?_, ?_, h.ne⟩, hnb⟩
  · exact ((h.up.trans_ext hua).trans hu (fun k hk => Or.inr (by have := (hvs k hk).1; omega))).setCell (Or.inr (by simp; omega)) _
  · have := set_same hnb 1 (.slice b' (xs.length + 1) c')
    simpa using this
  · have hr := hg.row
    rw [List.map_append, List.length_append]
    refine ownsRow_upto hr hst (fun g hgo => ?_)
    rcases hn2 g hgo with h2 | h2
    · have := (h.own g h2).2; simpa using this
    · have h3 := lt_of_heap (hua.at h.nb (by simp)); simp; omega
  · intro g hgo
    rcases hn2 g hgo with h2 | h2
    · exact h.own g h2
    · have h3 := lt_of_heap (hua.at h.nb (by simp)); exact ⟨by omega, by omega⟩
end Go.Proofs.YtbnebkkpmcjmbaaGreatDoor


namespace Go.Proofs.YtbnebkkpmcjmbaaGreatDoor
open Go.RowKit Go.PL Go.Maps

theorem info9 : (Tryz.prog.info? 9).map (fun i => (i.zero, i.size, i.bytes)) = some (some (.string ⟨#[]⟩), 1, 16) := by kernel_rfl
theorem info9' : ∃ i, Tryz.prog.info? 9 = some i ∧ i.zero = some (.string ⟨#[]⟩) ∧ i.size = 1 ∧ i.bytes = 16 := by
  have h := info9
  cases hi : Tryz.prog.info? 9 with
  | none => rw [hi] at h; cases h
  | some i =>
    rw [hi] at h
    simp only [Option.map_some, Option.some.injEq, Prod.mk.injEq] at h
    exact ⟨i, rfl, h.1, h.2.1, h.2.2⟩
end Go.Proofs.YtbnebkkpmcjmbaaGreatDoor


namespace Go.Proofs.YtbnebkkpmcjmbaaGreatDoor
open Go.RowKit Go.PL Go.Maps

/-- the texts so far, in a row of one's own that is new since w -/
structure TxI (w : World) (ls : List (List UInt8)) (l : Value) (wr : World) : Prop where
  row : wr.ownsRow 0 9 1 l ls.length (ls.map sV)
  own : ∀ g, l.ownBlock = some g → w.heap.size ≤ g
  up : Upto [] w wr
theorem TxI.ext {w wr wr' : World} {ls : List (List UInt8)} {l : Value} (h : TxI w ls l wr) (hu : Upto [] wr wr') : TxI w ls l wr' := ⟨ownsRow_upto h.row hu (by simp), h.own, h.up.trans_ext hu⟩
theorem TxI.app {w wr wr' : World} {ls : List (List UInt8)} {l : Value} {x : List UInt8} {n : Nat} {b' : Option Addr} {c' : Nat} (h : TxI w ls l wr) (hn : ls.length = n) (ho : wr'.ownsRow 0 9 1 (.slice b' (n + 1) c') (n + 1) (ls.map sV ++ [sV x])) (hu : Upto l.ownBlock.toList wr wr') (hw : ∀ g, (Value.slice b' (n + 1) c').ownBlock = some g → l.ownBlock = some g ∨ wr.heap.size ≤ g) :
    TxI w (ls ++ [x]) (.slice b' (n + 1) c') wr' := by
  subst hn
  refine ⟨?_, fun g hg => (hw g hg).elim (h.own g) (fun h2 => Nat.le_trans h.up.size h2), h.up.trans hu (fun k hk => Or.inr (h.own k (Option.mem_toList.1 hk)))⟩
  rw [List.map_append]
  simpa using ho
theorem TxI.nil (w wr : World) (hu : Upto [] w wr) : TxI w [] (.slice none 0 0) wr := ⟨by simpa using World.ownsRow_nil wr 0 9 1, fun g hg => by simp [Value.ownBlock] at hg, hu⟩
theorem TxI.slp {w wr : World} {ls : List (List UInt8)} {l : Value} (h : TxI w ls l wr) : SlP wr (fun _ => True) l ls.length (ls.map sV) := SlP.of_row h.row (fun _ _ => trivial)
end Go.Proofs.YtbnebkkpmcjmbaaGreatDoor


namespace Go.Proofs.YtbnebkkpmcjmbaaGreatDoor
open Go.RowKit Go.PL Go.Maps
open Go.Lib (decDigits decDigits_one)
theorem decDigits_more {i : Nat} (h : ¬ i < 10) : decDigits i = decDigits (i / 10) ++ [UInt8.ofNat (48 + i % 10)] := by
  rw [decDigits, dif_neg h]
theorem decDigits_four {i : Nat} (h0 : 1000 ≤ i) (h : i < 10000) : decDigits i = [UInt8.ofNat (48 + i / 10 / 10 / 10), UInt8.ofNat (48 + i / 10 / 10 % 10), UInt8.ofNat (48 + i / 10 % 10), UInt8.ofNat (48 + i % 10)] := by
  rw [decDigits_more (by omega), decDigits_more (by omega), decDigits_more (by omega), decDigits_one (by omega)]
  rfl
theorem decDigits_dig : ∀ (k i : Nat), i < 10 ^ (k + 1) → ∃ b t, decDigits i = t ++ [b] ∧ t.length ≤ k ∧ lxDigit b = true ∧ ∀ x ∈ t, lxDigit x = true
  | k, i, h => by
    have hd : ∀ k : Nat, k < 10 → lxDigit (UInt8.ofNat (48 + k)) = true := by decide
    rcases Nat.lt_or_ge i 10 with h1 | h1
    · exact ⟨_, [], by rw [decDigits_one h1]; rfl, by simp, hd i h1, by simp⟩
    · cases k with
      | zero => omega
      | succ k =>
        have h2 : i / 10 < 10 ^ (k + 1) := by
          rw [Nat.div_lt_iff_lt_mul (by omega)]
          rw [Nat.pow_succ] at h
          exact h
        obtain ⟨b, t, e, ht, hb, hx⟩ := decDigits_dig k (i / 10) h2
        refine ⟨_, decDigits (i / 10), decDigits_more (by omega), by rw [e]; simp; omega, hd (i % 10) (by omega), fun x hx2 => ?_⟩
        rw [e] at hx2
        rcases List.mem_append.1 hx2 with h3 | h3
        · exact hx x h3
        · simp only [List.mem_singleton] at h3
          rw [h3]; exact hb
def candG (s : List UInt8) (i : Nat) : List UInt8 := s.take (16 - (decDigits i).length) ++ decDigits i
/-- from i on, f at most: the first whose candidate is free -/
def freeFromG (s : List UInt8) (tk : List (List UInt8)) : Nat → Nat → Nat
  | 0, i => i
  | f + 1, i => if tk.contains (candG s i) then freeFromG s tk f (i + 1) else i
def freshG (s : List UInt8) (tk : List (List UInt8)) : List UInt8 :=
  if nameF s = false then [] else if tk.contains s = false then s else candG s (freeFromG s tk 9998 2)
theorem freeFromG_spec (s : List UInt8) (tk : List (List UInt8)) : ∀ (f i : Nat), i ≤ freeFromG s tk f i ∧ freeFromG s tk f i ≤ i + f ∧ (∀ k, i ≤ k → k < freeFromG s tk f i → tk.contains (candG s k) = true) ∧ (freeFromG s tk f i < i + f → tk.contains (candG s (freeFromG s tk f i)) = false)
  | 0, i => ⟨Nat.le_refl _, Nat.le_refl _, fun k h1 h2 => by unfold freeFromG at h2; omega, fun h => by unfold freeFromG at h; omega⟩
  | f + 1, i => by
    obtain ⟨h1, h2, h3, h4⟩ := freeFromG_spec s tk f (i + 1)
    cases hc : tk.contains (candG s i) with
    | true =>
      have e : freeFromG s tk (f + 1) i = freeFromG s tk f (i + 1) := by rw [freeFromG, if_pos hc]
      rw [e]
      refine ⟨by omega, by omega, fun k k1 k2 => ?_, fun h => h4 (by omega)⟩
      rcases Nat.eq_or_lt_of_le k1 with rfl | k1
      · exact hc
      · exact h3 k k1 k2
    | false =>
      have e : freeFromG s tk (f + 1) i = i := by rw [freeFromG, if_neg (by rw [hc]; simp)]
      rw [e]
      exact ⟨Nat.le_refl _, by omega, fun k k1 k2 => by omega, fun _ => hc⟩
theorem candG_inj (s : List UInt8) (i j : Nat) (hi : 1000 ≤ i ∧ i < 10000) (hj : 1000 ≤ j ∧ j < 10000) (h : candG s i = candG s j) : i = j := by
  unfold candG at h
  rw [decDigits_four hi.1 hi.2, decDigits_four hj.1 hj.2] at h
  have h2 := List.append_cancel_left h
  simp only [List.cons.injEq, and_true] at h2
  have a := ofNat_inj (by omega) (by omega) h2.1
  have b := ofNat_inj (by omega) (by omega) h2.2.1
  have c := ofNat_inj (by omega) (by omega) h2.2.2.1
  have d := ofNat_inj (by omega) (by omega) h2.2.2.2
  omega
theorem freeG_lt (s : List UInt8) (tk : List (List UInt8)) (ht : tk.length ≤ 8000) : freeFromG s tk 9998 2 < 10000 := by
  obtain ⟨h1, h2, h3, -⟩ := freeFromG_spec s tk 9998 2
  apply Classical.byContradiction
  intro hge
  have hl := len_of_sub ((List.range' 1000 9000).map (candG s)) tk (by
    refine List.Pairwise.map _ (R := fun a b => a ≠ b ∧ (1000 ≤ a ∧ a < 10000) ∧ (1000 ≤ b ∧ b < 10000)) (fun a b hab e => hab.1 (candG_inj s a b hab.2.1 hab.2.2 e)) ?_
    have hn : (List.range' 1000 9000).Nodup := List.nodup_range'
    refine List.Pairwise.imp_of_mem (fun {a b} ha hb hab => ?_) hn
    have ha' := List.mem_range'_1.1 ha
    have hb' := List.mem_range'_1.1 hb
    exact ⟨hab, ⟨by omega, by omega⟩, ⟨by omega, by omega⟩⟩) (fun x hx => by
    obtain ⟨k, hk, rfl⟩ := List.mem_map.1 hx
    have hk' := List.mem_range'_1.1 hk
    have := h3 k (by omega) (by omega)
    simpa using this)
  simp only [List.length_map, List.length_range'] at hl
  omega
theorem freeG_is (s : List UInt8) (tk : List (List UInt8)) (ht : tk.length ≤ 8000) : tk.contains (candG s (freeFromG s tk 9998 2)) = false := (freeFromG_spec s tk 9998 2).2.2.2 (by have := freeG_lt s tk ht; omega)
theorem candG_name (s : List UInt8) (h : nameF s = true) (i : Nat) (hi : i < 10000) : nameF (candG s i) = true := by
  obtain ⟨b, t, rfl, hb, ha, hl⟩ := name_parts h
  obtain ⟨c, u, hd, hu, hc, hx⟩ := decDigits_dig 3 i (by omega)
  have hdl : (decDigits i).length ≤ 4 := by rw [hd]; simp; omega
  unfold candG
  obtain ⟨m, hm⟩ : ∃ m, 16 - (decDigits i).length = m + 1 := ⟨15 - (decDigits i).length, by omega⟩
  have hin : ∀ x, lxDigit x = true → lxInner x = true := fun x hx => by simp [lxInner, hx]
  rw [hm, List.take_succ_cons, List.cons_append]
  refine name_of_parts hb ?_ ?_ ?_
  · rw [← List.cons_append, ← List.take_succ_cons, List.all_append, Bool.and_eq_true]
    refine ⟨?_, ?_⟩
    · rw [List.all_eq_true] at ha ⊢
      exact fun x hx => ha x (List.mem_of_mem_take hx)
    · rw [hd, List.all_append, Bool.and_eq_true]
      refine ⟨List.all_eq_true.2 fun x hxu => hin x (hx x hxu), by simp [hin c hc]⟩
  · rw [← List.cons_append, ← List.take_succ_cons, List.length_append, ← hm]
    have := List.length_take_le (16 - (decDigits i).length) (b :: t)
    omega
  · cases hw : lxWords.contains (b :: (t.take m ++ decDigits i)) with
    | false => rfl
    | true =>
      have hmem : (b :: (t.take m ++ decDigits i)) ∈ lxWords := by simpa using hw
      have := word_last _ hmem c (b :: (t.take m ++ u)) (by rw [hd]; simp)
      rw [hc] at this
      cases this
theorem freshG_self {s : List UInt8} {tk : List (List UInt8)} (hn : nameF s = true) (hc : tk.contains s = false) : freshG s tk = s := by
  have e1 : ¬ nameF s = false := by rw [hn]; simp
  unfold freshG
  rw [if_neg e1, if_pos hc]
theorem freshG_cand {s : List UInt8} {tk : List (List UInt8)} (hn : nameF s = true) (hc : tk.contains s = true) : freshG s tk = candG s (freeFromG s tk 9998 2) := by
  have e1 : ¬ nameF s = false := by rw [hn]; simp
  have e2 : ¬ tk.contains s = false := by rw [hc]; simp
  unfold freshG
  rw [if_neg e1, if_neg e2]
theorem freshG_no {s : List UInt8} {tk : List (List UInt8)} (hn : nameF s = false) : freshG s tk = [] := by
  unfold freshG
  rw [if_pos hn]
theorem freshG_not {s : List UInt8} {tk : List (List UInt8)} (hn : nameF s = true) (hl : tk.length ≤ 8000) : tk.contains (freshG s tk) = false ∧ nameF (freshG s tk) = true := by
  cases hc : tk.contains s with
  | false => rw [freshG_self hn hc]; exact ⟨hc, hn⟩
  | true => rw [freshG_cand hn hc]; exact ⟨freeG_is s tk hl, candG_name s hn _ (freeG_lt s tk hl)⟩
end Go.Proofs.YtbnebkkpmcjmbaaGreatDoor


namespace Go.Proofs.YtbnebkkpmcjmbaaGreatDoor
open Go.PL

/-- the numbers of names, least and most, and of operands, of an operation -/
def hasF (op : Int) : Nat × Nat × Nat :=
  if op < 2 then (0, 0, 0) else if op < 7 then (2, 2, 0) else if op < 10 then (1, 1, 0) else if op = 10 then (1, 17, 0) else if op = 11 then (0, 0, 1) else if op < 16 then (0, 0, 2) else (1, 1, 1)
def kindBad (op : Int) : Bool := decide (op < 0) || decide (17 < op)
def shapeBad (op : Int) (names len : Nat) : Bool := decide (names < (hasF op).1) || decide ((hasF op).2.1 < names) || decide (len ≠ (hasF op).2.2)
def zeroBad (op so n m : Int) : Bool := (decide (op ≠ 7) && decide (op ≠ 8) && decide (n ≠ 0)) || (decide (op ≠ 8) && decide (m ≠ 0)) || (decide (op < 16) && decide (so ≠ 0))
def rangeBad (op so n m : Int) : Bool := (decide (op = 7) && (decide (n < 0) || decide (7 < n))) || (decide (op = 8) && (decide (m < 1) || decide (64 < m) || decide (n < 0) || decide (m ≤ n))) || decide (so < 0) || decide (3 < so)
mutual
/-- the first error of a node and its operands; nm: whether a text is a name -/
def formF (nm : List UInt8 → Bool) : Nd → Nat
  | .mk op names so n m l => if kindBad op then 11 else if shapeBad op names.length l.length then 3 else if (names.all nm) = false then 3 else if zeroBad op so n m then 3 else if rangeBad op so n m then 2 else formsF nm l
def formsF (nm : List UInt8 → Bool) : List Nd → Nat
  | [] => 0
  | x :: xs => if formF nm x ≠ 0 then formF nm x else formsF nm xs
end
def checkF (nm : List UInt8 → Bool) (n : Nd) : Nat := if formF nm n ≠ 0 then formF nm n else greatF n
end Go.Proofs.YtbnebkkpmcjmbaaGreatDoor


namespace Go.Proofs.YtbnebkkpmcjmbaaGreatDoor
open Go.PL
def plusF (out : List (List UInt8)) (x : List UInt8) : List (List UInt8) := if out.contains x then out else out ++ [x]
def usesF (op : Int) (nms : List (List UInt8)) : List (List UInt8) := if op = 10 then nms.drop 1 else if 2 ≤ op ∧ op < 10 then nms else []
def bindsF (op : Int) (n : Nat) : Bool := (decide (op = 16) || decide (op = 17)) && decide (0 < n)
/-- the names of a node that are not bound and not yet listed, appended -/
def usesP (bs : List (List UInt8)) : List (List UInt8) → List (List UInt8) → List (List UInt8)
  | [], out => out
  | x :: xs, out => usesP bs xs (if bs.contains x = false ∧ out.contains x = false then out ++ [x] else out)
mutual
def freeP : Nd → List (List UInt8) → List (List UInt8) → List (List UInt8)
  | .mk op nms _ _ _ l, bs, out => freesP l (if bindsF op nms.length = true then bs ++ [nms.headD []] else bs) (usesP bs (usesF op nms) out)
def freesP : List Nd → List (List UInt8) → List (List UInt8) → List (List UInt8)
  | [], _, out => out
  | x :: xs, bs, out => freesP xs bs (freeP x bs out)
end
/-- what the reference takes over from an operand: all but the bound name -/
def takeR (b : Bool) (nm : List UInt8) : List (List UInt8) → List (List UInt8) → List (List UInt8)
  | [], out => out
  | y :: ys, out => takeR b nm ys (if b = false ∨ y ≠ nm then plusF out y else out)
mutual
def freeR : Nd → List (List UInt8)
  | .mk op nms _ _ _ l => freesR l (bindsF op nms.length) (nms.headD []) ((usesF op nms).foldl plusF [])
def freesR : List Nd → Bool → List UInt8 → List (List UInt8) → List (List UInt8)
  | [], _, _, out => out
  | x :: xs, b, nm, out => freesR xs b nm (takeR b nm (freeR x) out)
end
mutual
/-- all free occurrences, p: what is bound -/
def occ : Nd → (List UInt8 → Bool) → List (List UInt8)
  | .mk op nms _ _ _ l, p => (usesF op nms).filter (fun y => !p y) ++ occs l (if bindsF op nms.length = true then fun y => p y || y == nms.headD [] else p)
def occs : List Nd → (List UInt8 → Bool) → List (List UInt8)
  | [], _ => []
  | x :: xs, p => occ x p ++ occs xs p
end
theorem plus_mem {out : List (List UInt8)} {x y : List UInt8} : y ∈ plusF out x ↔ y ∈ out ∨ y = x := by
  unfold plusF
  split
  · rename_i h
    simp only [List.contains_iff_mem] at h
    constructor
    · exact Or.inl
    · rintro (h1 | rfl)
      · exact h1
      · exact h
  · simp
theorem folds_mem : ∀ (l out : List (List UInt8)) (y : List UInt8), y ∈ l.foldl plusF out ↔ y ∈ out ∨ y ∈ l
  | [], out, y => by simp
  | x :: xs, out, y => by
    rw [List.foldl_cons, folds_mem xs, plus_mem]
    simp [or_assoc]
theorem plus_in {out : List (List UInt8)} {x : List UInt8} (h : x ∈ out) : plusF out x = out := by
  unfold plusF
  rw [if_pos (by simpa using h)]
theorem plus_out {out : List (List UInt8)} {x : List UInt8} (h : x ∉ out) : plusF out x = out ++ [x] := by
  unfold plusF
  rw [if_neg (by simpa using h)]
theorem fold_plus (out acc : List (List UInt8)) (x : List UInt8) : (plusF acc x).foldl plusF out = plusF (acc.foldl plusF out) x := by
  by_cases h : x ∈ acc
  · rw [plus_in h, plus_in ((folds_mem acc out x).2 (Or.inr h))]
  · rw [plus_out h, List.foldl_append]
    rfl
theorem fold_fold (out : List (List UInt8)) : ∀ (l acc : List (List UInt8)), (l.foldl plusF acc).foldl plusF out = l.foldl plusF (acc.foldl plusF out)
  | [], acc => rfl
  | x :: xs, acc => by rw [List.foldl_cons, fold_fold out xs, fold_plus, List.foldl_cons]
theorem fold_filter (q : List UInt8 → Bool) : ∀ (l acc : List (List UInt8)), (l.foldl plusF acc).filter q = (l.filter q).foldl plusF (acc.filter q)
  | [], acc => rfl
  | x :: xs, acc => by
    rw [List.foldl_cons, fold_filter q xs]
    have : (plusF acc x).filter q = if q x = true then plusF (acc.filter q) x else acc.filter q := by
      by_cases h : x ∈ acc
      · rw [plus_in h]
        split
        · rename_i hq
          rw [plus_in (List.mem_filter.2 ⟨h, hq⟩)]
        · rfl
      · rw [plus_out h, List.filter_append]
        split
        · rename_i hq
          rw [plus_out (fun hm => h (List.mem_filter.1 hm).1)]
          simp [hq]
        · rename_i hq
          simp [hq]
    rw [this, List.filter_cons]
    split
    · rfl
    · rfl
theorem usesP_eq (bs : List (List UInt8)) : ∀ (l out : List (List UInt8)), usesP bs l out = (l.filter (fun y => !bs.contains y)).foldl plusF out
  | [], out => rfl
  | x :: xs, out => by
    unfold usesP
    rw [usesP_eq bs xs, List.filter_cons]
    cases hb : bs.contains x with
    | true => simp
    | false =>
      simp only [Bool.not_false, if_true, true_and, List.foldl_cons]
      congr 1
      unfold plusF
      cases out.contains x <;> simp
mutual
theorem freeP_eq : ∀ (n : Nd) (bs out : List (List UInt8)), freeP n bs out = (occ n (fun y => bs.contains y)).foldl plusF out
  | .mk op nms _ _ _ l, bs, out => by
    unfold freeP occ
    rw [List.foldl_append, freesP_eq l, usesP_eq]
    congr 2
    split
    · funext y
      rw [Bool.eq_iff_iff]
      simp
    · rfl
theorem freesP_eq : ∀ (l : List Nd) (bs out : List (List UInt8)), freesP l bs out = (occs l (fun y => bs.contains y)).foldl plusF out
  | [], bs, out => rfl
  | x :: xs, bs, out => by
    unfold freesP occs
    rw [List.foldl_append, freesP_eq xs, freeP_eq x]
end
mutual
theorem occ_bind (b : List UInt8) : ∀ (n : Nd) (p : List UInt8 → Bool), occ n (fun y => p y || y == b) = (occ n p).filter (fun y => y != b)
  | .mk op nms _ _ _ l, p => by
    unfold occ
    rw [List.filter_append, List.filter_filter]
    congr 1
    · congr 1
      funext y
      rw [Bool.eq_iff_iff]
      simp [and_comm]
    · split
      · rw [← occs_bind b l]
        congr 1
        funext y
        rw [Bool.eq_iff_iff]
        simp only [Bool.or_eq_true]
        generalize nms.headD [] = z
        constructor <;> (intro h; rcases h with (h | h) | h <;> simp only [h, true_or, or_true])
      · rw [← occs_bind b l]
theorem occs_bind (b : List UInt8) : ∀ (l : List Nd) (p : List UInt8 → Bool), occs l (fun y => p y || y == b) = (occs l p).filter (fun y => y != b)
  | [], p => rfl
  | x :: xs, p => by
    unfold occs
    rw [List.filter_append, occ_bind b x, occs_bind b xs]
end
theorem takeR_eq (b : Bool) (nm : List UInt8) : ∀ (l out : List (List UInt8)), takeR b nm l out = (l.filter (fun y => !(b && y == nm))).foldl plusF out
  | [], out => rfl
  | y :: ys, out => by
    unfold takeR
    rw [takeR_eq b nm ys, List.filter_cons]
    cases b with
    | false => simp
    | true =>
      by_cases h : y = nm
      · subst h
        simp
      · rw [if_pos (Or.inr h), if_pos (by simp [h])]
        rfl
mutual
theorem freeR_eq : ∀ (n : Nd), freeR n = (occ n (fun _ => false)).foldl plusF []
  | .mk op nms _ _ _ l => by
    unfold freeR occ
    rw [List.foldl_append, freesR_eq l]
    congr 1
    · congr 1
      exact (List.filter_eq_self.2 (by simp)).symm
    · cases bindsF op nms.length with
      | false => simp
      | true =>
        simp only [Bool.true_and, if_true]
        rw [occs_bind]
        rfl
theorem freesR_eq : ∀ (l : List Nd) (b : Bool) (nm : List UInt8) (out : List (List UInt8)), freesR l b nm out = ((occs l (fun _ => false)).filter (fun y => !(b && y == nm))).foldl plusF out
  | [], b, nm, out => rfl
  | x :: xs, b, nm, out => by
    unfold freesR occs
    rw [List.filter_append, List.foldl_append, freesR_eq xs, takeR_eq, freeR_eq x, fold_filter, fold_fold]
    rfl
end
/-- Free of the program and of the reference -/
theorem free_same (n : Nd) : freeP n [] [] = freeR n := by
  rw [freeP_eq, freeR_eq]
  rfl
end Go.Proofs.YtbnebkkpmcjmbaaGreatDoor


namespace Go.Proofs.YtbnebkkpmcjmbaaGreatDoor
open Go.RowKit Go.PL Go.Maps Go.Shelf

attribute [local go_sem] Oper.semAt_some

/-- these blocks read as they did -/
def KeepsL (L : List Nat) (W W' : World) : Prop := ∀ k ∈ L, W'.heap[k]? = W.heap[k]?
theorem KeepsL.trans {L : List Nat} {A B C : World} (h : KeepsL L A B) (k : KeepsL L B C) : KeepsL L A C := fun i hi => (k i hi).trans (h i hi)
end Go.Proofs.YtbnebkkpmcjmbaaGreatDoor


namespace Go.Proofs.YtbnebkkpmcjmbaaGreatDoor
open Go.RowKit Go.PL Go.Maps Go.Shelf

/-- the cells of n formulas -/
def cellsN (c : Nat → Nat → Value) (n : Nat) : List Value := (List.range n).flatMap fun i => [c i 0, c i 1, c i 2, c i 3, c i 4, c i 5]
theorem cellsN_at (c : Nat → Nat → Value) {n i j : Nat} (hi : i < n) (hj : j < 6) : (cellsN c n)[i * 6 + j]? = some (c i j) := by
  unfold cellsN
  rw [flatMap_at (fun i => [c i 0, c i 1, c i 2, c i 3, c i 4, c i 5]) 6 (fun _ => rfl) (List.range n) i j i (by rw [List.getElem?_range hi]) hj]
  have : j = 0 ∨ j = 1 ∨ j = 2 ∨ j = 3 ∨ j = 4 ∨ j = 5 := by omega
  rcases this with rfl | rfl | rfl | rfl | rfl | rfl <;> rfl
def addC (c : Nat → Nat → Value) (n : Nat) (v0 v1 v2 v3 v4 v5 : Value) : Nat → Nat → Value := fun i j => if i = n then (match j with | 0 => v0 | 1 => v1 | 2 => v2 | 3 => v3 | 4 => v4 | _ => v5) else c i j
theorem fm_congr {α β : Type} (f g : α → List β) : ∀ (L : List α), (∀ i ∈ L, f i = g i) → L.flatMap f = L.flatMap g
  | [], _ => rfl
  | x :: xs, h => by rw [List.flatMap_cons, List.flatMap_cons, h x (by simp), fm_congr f g xs fun i hi => h i (by simp [hi])]
theorem cellsN_add (c : Nat → Nat → Value) (n : Nat) (v0 v1 v2 v3 v4 v5 : Value) : cellsN (addC c n v0 v1 v2 v3 v4 v5) (n + 1) = cellsN c n ++ [v0, v1, v2, v3, v4, v5] := by
  unfold cellsN
  rw [List.range_succ, List.flatMap_append]
  congr 1
  · refine fm_congr _ _ _ fun i hi => ?_
    have := List.mem_range.1 hi
    simp [addC, Nat.ne_of_lt this]
  · simp [addC]
/-- blocks new since w0, but for the result's and the row's own -/
def Lr (w0 : World) (B : Nat) (v : Value) (b : Nat) : Prop := New w0 b ∧ b ≠ B ∧ v.ownBlock ≠ some b
/-- a slice of one's own that holds these formulas -/
structure NdRow (w0 w : World) (B : Nat) (c : Nat → Nat → Value) (v : Value) (ms : List Nd) : Prop where
  row : w.ownsRow 0 30 6 v ms.length (cellsN c ms.length)
  nd : ∀ i m, ms[i]? = some m → NdV w (Lr w0 B v) m (.agg #[c i 0, c i 1, c i 2, c i 3, c i 4, c i 5])
  own : ∀ g, v.ownBlock = some g → w0.heap.size ≤ g ∧ g ≠ B
theorem NdRow.upto {w0 w w' : World} {S : List Nat} {B : Nat} {c : Nat → Nat → Value} {v : Value} {ms : List Nd} (h : NdRow w0 w B c v ms) (hu : Upto S w w') (hS : ∀ k ∈ S, k < w0.heap.size ∨ k = B) : NdRow w0 w' B c v ms :=
  ⟨ownsRow_upto h.row hu (fun g hg hm => by have h1 := h.own g hg; rcases hS g hm with h2 | h2 <;> omega),
   fun i m hi => (h.nd i m hi).upto hu (fun b hb _ hm => by have h1 := hb.1; unfold New at h1; rcases hS b hm with h2 | h2; omega; exact hb.2.1 h2), h.own⟩
theorem six_at {w : World} {g : Nat} {v0 v1 v2 v3 v4 v5 : Value} {t : TypeId} {z : Nat × Nat} (h : w.heap[g]? = some (.cells #[v0, v1, v2, v3, v4, v5] t z)) : ∀ (j : Nat) u, [v0, v1, v2, v3, v4, v5][j]? = some u → w.cell? ((⟨g, 0, none⟩ : Addr).add j) = some u := by
  intro j u hj
  rw [Addr.add_lit, Nat.zero_add, cell_of h]
  simpa using hj
theorem row_six {w : World} {g : Nat} {v0 v1 v2 v3 v4 v5 : Value} (h : w.heap[g]? = some (.cells #[v0, v1, v2, v3, v4, v5] 30 (0, 0))) : w.ownsRow 0 30 6 (.slice (some ⟨g, 0, none⟩) 1 1) 1 [v0, v1, v2, v3, v4, v5] :=
  ⟨rfl, Or.inr ⟨g, 1, _, rfl, Nat.zero_le _, h, Nat.le_refl _, by unfold maxLen; omega, rfl, rfl⟩⟩
theorem NdRow.one {w0 w : World} {B g : Nat} {m : Nd} {v0 v1 v2 v3 v4 v5 : Value} (h : w.heap[g]? = some (.cells #[v0, v1, v2, v3, v4, v5] 30 (0, 0))) (hm : NdV w (fun b => New w0 b ∧ b ≠ B ∧ b ≠ g) m (.agg #[v0, v1, v2, v3, v4, v5])) (hg : w0.heap.size ≤ g ∧ g ≠ B) :
    NdRow w0 w B (addC (fun _ _ => undef) 0 v0 v1 v2 v3 v4 v5) (.slice (some ⟨g, 0, none⟩) 1 1) [m] := by
  refine ⟨?_, ?_, ?_⟩
  · have := cellsN_add (fun _ _ => undef) 0 v0 v1 v2 v3 v4 v5
    rw [List.length_singleton, this]
    exact row_six h
  · intro i x hi
    match i, hi with
    | 0, hi =>
      simp at hi
      subst hi
      exact hm.mono fun b hb _ => ⟨hb.1, hb.2.1, by simp [Value.ownBlock]; exact fun e => hb.2.2 e.symm⟩
  · intro g' hg'
    simp [Value.ownBlock] at hg'
    subst hg'
    exact hg
theorem NdRow.app {w0 w w5 : World} {B : Nat} {c : Nat → Nat → Value} {v : Value} {ms : List Nd} {m : Nd} {v0 v1 v2 v3 v4 v5 : Value} {b' : Option Addr} {c' : Nat} (h : NdRow w0 w B c v ms) (hsz : w0.heap.size ≤ w.heap.size) (hBw : B < w.heap.size)
    (hm : NdV w (Lr w0 B v) m (.agg #[v0, v1, v2, v3, v4, v5])) (ho : w5.ownsRow 0 30 6 (.slice b' (ms.length + 1) c') (ms.length + 1) (cellsN c ms.length ++ [v0, v1, v2, v3, v4, v5])) (hu : Upto v.ownBlock.toList w w5)
    (hw : ∀ g, (Value.slice b' (ms.length + 1) c').ownBlock = some g → v.ownBlock = some g ∨ w.heap.size ≤ g) : NdRow w0 w5 B (addC c ms.length v0 v1 v2 v3 v4 v5) (.slice b' (ms.length + 1) c') (ms ++ [m]) := by
  have key : ∀ x u, NdV w (Lr w0 B v) x u → NdV w5 (Lr w0 B (.slice b' (ms.length + 1) c')) x u := fun x u hx =>
    NdV.keep ⟨hu.size, fun b hb hl => ⟨⟨hb.1, hb.2.1, fun e => by
      rcases hw b e with h1 | h1
      · exact hb.2.2 h1
      · have := hl.lt; omega⟩, hu.block b hl.lt (fun hmm => hb.2.2 (Option.mem_toList.1 hmm))⟩⟩ x u hx
  refine ⟨?_, ?_, ?_⟩
  · rw [List.length_append, List.length_singleton, cellsN_add]
    exact ho
  · intro i x hi
    by_cases hlt : i < ms.length
    · rw [List.getElem?_append_left hlt] at hi
      have := key _ _ (h.nd i x hi)
      simpa [addC, Nat.ne_of_lt hlt] using this
    · rw [List.getElem?_append_right (by omega)] at hi
      cases hd : i - ms.length with
      | zero =>
        rw [hd] at hi
        simp at hi
        subst hi
        have : i = ms.length := by omega
        subst this
        simpa [addC] using key _ _ hm
      | succ z => rw [hd] at hi; simp at hi
  · intro g hg
    rcases hw g hg with h1 | h1
    · exact h.own g h1
    · exact ⟨by omega, by omega⟩
theorem NdRow.cells {w0 w : World} {B : Nat} {c : Nat → Nat → Value} {v : Value} {ms : List Nd} (h : NdRow w0 w B c v ms) (hne : ms ≠ []) : ∃ g cap, v = .slice (some ⟨g, 0, none⟩) ms.length cap ∧ ms.length ≤ cap ∧ g < w.heap.size ∧ ∀ i j, i < ms.length → j < 6 → w.cell? ⟨g, 0 + i * 6 + j, none⟩ = some (c i j) := by
  rcases h.row.2 with ⟨-, h0⟩ | ⟨g, cap, cur, rfl, _, hh, h1, _, _, ht⟩
  · exact absurd (List.eq_nil_of_length_eq_zero h0) hne
  · refine ⟨g, cap, rfl, h1, lt_of_heap hh, fun i j hi hj => ?_⟩
    rw [cell_of hh]
    have := cellsN_at c hi hj
    rw [← ht, List.getElem?_take] at this
    split at this
    · simpa using this
    · cases this

theorem info59 : (Tryz.prog.info? 30).map (fun i => (i.zero, i.size, i.bytes)) = some (some (.agg #[.int .i64 0, .slice none 0 0, .int .i64 0, .int .i64 0, .int .i64 0, .slice none 0 0]), 6, 80) := by kernel_rfl
theorem info59' : ∃ i, Tryz.prog.info? 30 = some i ∧ i.zero = some (.agg #[.int .i64 0, .slice none 0 0, .int .i64 0, .int .i64 0, .int .i64 0, .slice none 0 0]) ∧ i.size = 6 ∧ i.bytes = 80 := by
  have h := info59
  cases hi : Tryz.prog.info? 30 with
  | none => rw [hi] at h; cases h
  | some i =>
    rw [hi] at h
    simp only [Option.map_some, Option.some.injEq, Prod.mk.injEq] at h
    exact ⟨i, rfl, h.1, h.2.1, h.2.2⟩
end Go.Proofs.YtbnebkkpmcjmbaaGreatDoor


namespace Go.Proofs.YtbnebkkpmcjmbaaGreatDoor
open Go.RowKit Go.PL Go.Maps Go.Shelf

attribute [local go_sem] Oper.semAt_some

/-- what stands between two rounds of the range -/
structure ImB (w : World) (p B Bn Bs : Nat) (l : List Tok) (t : PS) (ms : List Nd) (c : Nat → Nat → Value) (sl : Value) (ok : Prop) (k : Nat) (W : World) : Prop where
  rd : RdAt W p l t
  up : Upto [p] w W
  z : W.heap[B]? = some (.cells #[.int .i64 0, .slice none 0 0, .int .i64 0, .int .i64 0, .int .i64 0, .slice none 0 0] 30 (0, 0))
  bs : W.heap[Bs]? = some (.cells #[sl] 28 (0, 0))
  nd : ∀ i m, ms[i]? = some m → NdV W (Lo w B Bn) m (.agg #[c i 0, c i 1, c i 2, c i 3, c i 4, c i 5])
  acc : ∃ (oa : Int) (na1 : Option Addr) (na2 na3 : Nat) (sa ma qa : Int) (la1 : Option Addr) (la2 la3 : Nat), W.heap[Bn]? = some (.cells #[.int .i64 oa, .slice na1 na2 na3, .int .i64 sa, .int .i64 ma, .int .i64 qa, .slice la1 la2 la3] 30 (0, 0)) ∧ (ok → NdV W (Lo w B Bn) (implFold (ms.drop k)) (.agg #[.int .i64 oa, .slice na1 na2 na3, .int .i64 sa, .int .i64 ma, .int .i64 qa, .slice la1 la2 la3]))
theorem keep_grown {W W' : World} {row : Option Nat} (hg : W.grownBy W' row) (hr : ∀ r, row = some r → ∃ o : Obj, W.heap[r]? = some o ∧ o.isCells = false) (P : Nat → Prop) : Keep W W' P P :=
  ⟨hg.size, fun b hb hl => ⟨hb, hg.block b hl.lt (fun e => by
    obtain ⟨cs, t, z, h⟩ := hl
    obtain ⟨o, ho, hc⟩ := hr b (by first | exact e | exact e.symm)
    rw [h] at ho
    cases ho
    cases hc)⟩⟩
theorem ImB.grown {w : World} {p B Bn Bs : Nat} {l : List Tok} {t : PS} {ms : List Nd} {c : Nat → Nat → Value} {sl : Value} {ok : Prop} {k b0 : Nat} {W W' : World} {row : Option Nat} (h : ImB w p B Bn Bs l t ms c sl ok k W) (hb : p < b0 ∧ w.heap.size ≤ b0) (hg : W.grownBy W' row)
    (hr : ∀ r, row = some r → b0 ≤ r ∧ ∃ o : Obj, W.heap[r]? = some o ∧ o.isCells = false) : ImB w p B Bn Bs l t ms c sl ok k W' := by
  have hr2 := fun r e => (hr r e).2
  have hu : Upto row.toList W W' := (Upto.refl _ W).grown hg (fun k e => Or.inl (by rw [e]; simp))
  have kc := fun (b : Nat) (cs : Array Value) (T : TypeId) (z : Nat × Nat) (h : W.heap[b]? = some (.cells cs T z)) => (grownBy_keeps_cells hg hr2 h rfl).trans h
  refine ⟨h.rd.above hu (fun k hk => ?_), h.up.grown hg (fun k e => Or.inr ?_), kc _ _ _ _ h.z, kc _ _ _ _ h.bs, fun i m hi => NdV.keep (keep_grown hg hr2 _) _ _ (h.nd i m hi), ?_⟩
  · have := (hr k (Option.mem_toList.1 hk)).1; omega
  · have := (hr k e).1; omega
  · obtain ⟨oa, na1, na2, na3, sa, ma, qa, la1, la2, la3, h1, h2⟩ := h.acc
    exact ⟨oa, na1, na2, na3, sa, ma, qa, la1, la2, la3, kc _ _ _ _ h1, fun hk => NdV.keep (keep_grown hg hr2 _) _ _ (h2 hk)⟩
theorem ImB.ext {w : World} {p B Bn Bs : Nat} {l : List Tok} {t : PS} {ms : List Nd} {c : Nat → Nat → Value} {sl : Value} {ok : Prop} {k : Nat} {W W' : World} (h : ImB w p B Bn Bs l t ms c sl ok k W) (hu : Upto [] W W') : ImB w p B Bn Bs l t ms c sl ok k W' := by
  obtain ⟨oa, na1, na2, na3, sa, ma, qa, la1, la2, la3, h1, h2⟩ := h.acc
  exact ⟨h.rd.ext hu, h.up.trans_ext hu, hu.at h.z (by simp), hu.at h.bs (by simp), fun i m hi => (h.nd i m hi).ext hu, oa, na1, na2, na3, sa, ma, qa, la1, la2, la3, hu.at h1 (by simp), fun hk => (h2 hk).ext hu⟩
theorem ImB.at {w : World} {p B Bn Bs : Nat} {l : List Tok} {t : PS} {ms : List Nd} {c : Nat → Nat → Value} {sl : Value} {ok : Prop} {k k' : Nat} {W : World} (h : ImB w p B Bn Bs l t ms c sl ok k W) (hk : ok → k = k') : ImB w p B Bn Bs l t ms c sl ok k' W := by
  obtain ⟨oa, na1, na2, na3, sa, ma, qa, la1, la2, la3, h1, h2⟩ := h.acc
  exact ⟨h.rd, h.up, h.z, h.bs, h.nd, oa, na1, na2, na3, sa, ma, qa, la1, la2, la3, h1, fun ho => by rw [← hk ho]; exact h2 ho⟩
theorem implFold_step (ms : List Nd) (q : Nat) (m : Nd) (h : ms[q]? = some m) (hl : q + 1 < ms.length) : implFold (ms.drop q) = .mk 14 [] 0 0 0 [m, implFold (ms.drop (q + 1))] := by
  obtain ⟨h1, rfl⟩ := List.getElem?_eq_some_iff.1 h
  rw [List.drop_eq_getElem_cons h1]
  cases hd : ms.drop (q + 1) with
  | nil => have := congrArg List.length hd; simp at this; omega
  | cons y ys => rfl
/-- a round: the node over the element and what has been built -/
theorem ImB.next {w : World} {p B Bn Bs : Nat} {l : List Tok} {t : PS} {ms : List Nd} {c : Nat → Nat → Value} {sl : Value} {ok ok2 : Prop} {k q : Nat} {m : Nd} {W : World} (h : ImB w p B Bn Bs l t ms c sl ok k W) (hB : w.heap.size = B) (hp : p < B) (hBn : B < Bn) (hsn : Bs ≠ Bn)
    (hq : ms[q]? = some m) (hok : ok2 → ok ∧ k = q + 1 ∧ q + 1 < ms.length) {x0 x1 x2 x3 x4 x5 : Value} (hx : x0 = c q 0 ∧ x1 = c q 1 ∧ x2 = c q 2 ∧ x3 = c q 3 ∧ x4 = c q 4 ∧ x5 = c q 5) {oa : Int} {na1 : Option Addr} {na2 na3 : Nat} {sa ma qa : Int} {la1 : Option Addr} {la2 la3 : Nat} (hn : W.heap[Bn]? = some (.cells #[.int .i64 oa, .slice na1 na2 na3, .int .i64 sa, .int .i64 ma, .int .i64 qa, .slice la1 la2 la3] 30 (0, 0))) (ha : ok → NdV W (Lo w B Bn) (implFold (ms.drop k)) (.agg #[.int .i64 oa, .slice na1 na2 na3, .int .i64 sa, .int .i64 ma, .int .i64 qa, .slice la1 la2 la3])) :
    ImB w p B Bn Bs l t ms c sl ok2 q ((((((((W.alloc (.cells #[x0, x1, x2, x3, x4, x5, .int .i64 oa, .slice na1 na2 na3, .int .i64 sa, .int .i64 ma, .int .i64 qa, .slice la1 la2 la3] 30)).setCell ⟨Bn, 0, none⟩ (.int .i64 14)).setCell ⟨Bn, 1, none⟩ (.slice none 0 0)).setCell ⟨Bn, 2, none⟩ (.int .i64 0)).setCell ⟨Bn, 3, none⟩ (.int .i64 0)).setCell ⟨Bn, 4, none⟩ (.int .i64 0)).setCell ⟨Bn, 5, none⟩ (.slice (some ⟨W.heap.size, 0, none⟩) 2 2))) ∧
    Upto [Bn] W ((((((((W.alloc (.cells #[x0, x1, x2, x3, x4, x5, .int .i64 oa, .slice na1 na2 na3, .int .i64 sa, .int .i64 ma, .int .i64 qa, .slice la1 la2 la3] 30)).setCell ⟨Bn, 0, none⟩ (.int .i64 14)).setCell ⟨Bn, 1, none⟩ (.slice none 0 0)).setCell ⟨Bn, 2, none⟩ (.int .i64 0)).setCell ⟨Bn, 3, none⟩ (.int .i64 0)).setCell ⟨Bn, 4, none⟩ (.int .i64 0)).setCell ⟨Bn, 5, none⟩ (.slice (some ⟨W.heap.size, 0, none⟩) 2 2))) := by
  obtain ⟨rfl, rfl, rfl, rfl, rfl, rfl⟩ := hx
  have hua : Upto [] W (W.alloc (.cells #[c q 0, c q 1, c q 2, c q 3, c q 4, c q 5, .int .i64 oa, .slice na1 na2 na3, .int .i64 sa, .int .i64 ma, .int .i64 qa, .slice la1 la2 la3] 30)) := (Upto.refl [] W).alloc _
  have hlt := lt_of_heap hn
  have hnew := new_at W (.cells #[c q 0, c q 1, c q 2, c q 3, c q 4, c q 5, .int .i64 oa, .slice na1 na2 na3, .int .i64 sa, .int .i64 ma, .int .i64 qa, .slice la1 la2 la3] 30)
  have hus := h.up.size
  have hg : Lo w B Bn W.heap.size := ⟨hus, by omega, by omega⟩
  have hnA := hua.at hn (by simp)
  have hst := nd_self (W.alloc (.cells #[c q 0, c q 1, c q 2, c q 3, c q 4, c q 5, .int .i64 oa, .slice na1 na2 na3, .int .i64 sa, .int .i64 ma, .int .i64 qa, .slice la1 la2 la3] 30)) Bn (.int .i64 14) (.slice none 0 0) (.int .i64 0) (.int .i64 0) (.int .i64 0) (.slice (some ⟨W.heap.size, 0, none⟩) 2 2)
  have hbn := nd_store hnA (.int .i64 14) (.slice none 0 0) (.int .i64 0) (.int .i64 0) (.int .i64 0) (.slice (some ⟨W.heap.size, 0, none⟩) 2 2)
  refine ⟨⟨(h.rd.ext hua).above hst (fun k hk => by simp at hk; omega), nd_up (h.up.trans_ext hua) (Or.inr (by omega)) .., hst.at (hua.at h.z (by simp)) (by simp; omega), hst.at (hua.at h.bs (by simp)) (by simpa using hsn), fun i x hi => ((h.nd i x hi).ext hua).upto hst (fun b hb _ => by simp; exact hb.2.2), 14, none, 0, 0, 0, 0, 0, _, 2, 2, hbn, fun hk2 => ?_⟩, (hua.mono (by simp)).trans_same hst⟩
  obtain ⟨hk, rfl, hl⟩ := hok hk2
  rw [implFold_step ms q m hq hl]
  exact (NdV.two (op := 14) (so := 0) (names := []) SlP.nil ((h.nd q m hq).ext hua) ((ha hk).ext hua) hg hnew).upto hst (fun b hb _ => by simp; exact hb.2.2)
theorem RdPost.put {w W W' : World} {p D : Nat} {l : List Tok} {s s' : PS} {n : Nd} {e : Ending} (h : RdPost w p l s n s' e W) (hu : Upto [D] W W') (hD : p < D ∧ w.heap.size ≤ D) (hc : ¬ IsC W D) : RdPost w p l s n s' e W' := by
  obtain ⟨v, he, hn, hR, hup, ha⟩ := h
  exact ⟨v, he, hn.upto hu (fun b _ hl => by simp; rintro rfl; exact hc hl), hR.above hu (fun k hk => by simp at hk; omega), hup.trans hu (fun k hk => Or.inr (by simp at hk; omega)), ha⟩
end Go.Proofs.YtbnebkkpmcjmbaaGreatDoor


namespace Go.Proofs.YtbnebkkpmcjmbaaGreatDoor
open Go.RowKit Go.PL Go.Maps

theorem sizes_len : ∀ l : List Nd, l.length ≤ sizesF l
  | [] => by simp
  | x :: xs => by have := sizes_len xs; have := sizeF_pos x; simp only [List.length_cons, sizesF]; omega
set_option maxRecDepth 100000 in
set_option maxHeartbeats 6400000 in
theorem sizeN_calls : ∀ (k : Nat) (nd : Nd), sizeF nd ≤ k → k ≤ 10000000 → ∀ (v : Value) (w : World) (P : Nat → Prop), NdV w P nd v → Calls Tryz.prog 93 #[v] w fun e w' => e = .returned (.int .i64 (sizeF nd)) ∧ Upto [] w w'
  | 0, nd, hk, _, _, _, _, _ => by have := sizeF_pos nd; omega
  | k + 1, .mk op nms so nn mm l, hk, hk7, v, w, P, h => by
    unfold NdV at h
    obtain ⟨vn, vl, rfl, h1, h2⟩ := h
    obtain ⟨n1, n3, rfl⟩ := h1.len
    obtain ⟨av, cv, hvl, hg⟩ : ∃ av cv, vl = .slice av l.length cv ∧ ∀ i x, l[i]? = some x → ∃ g o v0 v1 v2 v3 v4 v5, av = some ⟨g, o, none⟩ ∧ w.cell? ⟨g, o + i * 6, none⟩ = some v0 ∧ w.cell? ⟨g, o + i * 6 + 1, none⟩ = some v1 ∧ w.cell? ⟨g, o + i * 6 + 2, none⟩ = some v2 ∧ w.cell? ⟨g, o + i * 6 + 3, none⟩ = some v3 ∧ w.cell? ⟨g, o + i * 6 + 4, none⟩ = some v4 ∧ w.cell? ⟨g, o + i * 6 + 5, none⟩ = some v5 ∧ NdV w P x (.agg #[v0, v1, v2, v3, v4, v5]) := by
      rcases h2 with ⟨rfl, a, c, rfl⟩ | ⟨g, o, c, rfl, -, h3⟩
      · exact ⟨a, c, rfl, fun i x h => by simp at h⟩
      · exact ⟨_, c, rfl, fun i x hi => by
          obtain ⟨v0, v1, v2, v3, v4, v5, h⟩ := h3.get l o i x hi
          exact ⟨g, o, v0, v1, v2, v3, v4, v5, rfl, h⟩⟩
    subst hvl
    have HG := Lib.hid hg
    have hsz : sizesF l ≤ k := by simp only [sizeF] at hk; omega
    have HSZ := Lib.hid hsz
    have HE : Hid (sizeF (.mk op nms so nn mm l) = 1 + sizesF l) := Lib.hid (by simp only [sizeF])
    have HLEN : Hid (l.length ≤ 10000000) := Lib.hid (by have := sizes_len l; omega)
    have hlen := HLEN.out
    generalize hll : l.length = ll at *
    have HLL := Lib.hid hll
    have hL0 : (0 : Int) ≤ ll := by omega
    have hL1 : (ll : Int) ≤ 10000000 := by omega
    clear h1 h2 hg hsz hll hlen hk
    go_enter Tryz.func93, Tryz.ntmps93
    go_wp2_with fail
    go_loopw [3, 9] (fun s i wr => ∃ j : Nat, j ≤ ll ∧ i = .int .i64 j ∧ s = .int .i64 (1 + (sizesF (l.take j) : Int)) ∧ Hid (Upto [] w wr)) (fun _ i _ => ll - (intOf i).toNat)
    case atStart => exact ⟨0, by omega, rfl, by simp [sizesF], Lib.hid ((Upto.refl [] w).alloc _)⟩
    case round =>
      obtain ⟨j, hj, rfl, rfl, HU⟩ := hrel
      rcases Nat.lt_or_ge j ll with hlt | hge
      · obtain ⟨x, hx⟩ : ∃ x, l[j]? = some x := ⟨_, List.getElem?_eq_getElem (by have := HLL.out; omega)⟩
        obtain ⟨g, o, v0, v1, v2, v3, v4, v5, rfl, c0, c1, c2, c3, c4, c5, hnx⟩ := HG.out j x hx
        obtain ⟨xo, xn1, xn2, xn3, xs, xm, xq, xl1, xl2, xl3, hsix⟩ := hnx.six
        simp only [Value.agg.injEq, Array.mk.injEq, List.cons.injEq, and_true] at hsix
        obtain ⟨rfl, rfl, rfl, rfl, rfl, rfl⟩ := hsix
        have hlb := World.block_lt_of_cell? w _ c0
        replace c0 := (HU.out.cell (p := ⟨g, o + j * 6, none⟩) hlb (by simp)).trans c0
        replace c1 := (HU.out.cell (p := ⟨g, o + j * 6 + 1, none⟩) hlb (by simp)).trans c1
        replace c2 := (HU.out.cell (p := ⟨g, o + j * 6 + 2, none⟩) hlb (by simp)).trans c2
        replace c3 := (HU.out.cell (p := ⟨g, o + j * 6 + 3, none⟩) hlb (by simp)).trans c3
        replace c4 := (HU.out.cell (p := ⟨g, o + j * 6 + 4, none⟩) hlb (by simp)).trans c4
        replace c5 := (HU.out.cell (p := ⟨g, o + j * 6 + 5, none⟩) hlb (by simp)).trans c5
        have hst := sizesF_take l j x hx
        have HST := Lib.hid hst
        have hua : Upto [] wr (wr.alloc (.cells #[.int .i64 xo, .slice xn1 xn2 xn3, .int .i64 xs, .int .i64 xm, .int .i64 xq, .slice xl1 xl2 xl3] 30)) := (Upto.refl [] wr).alloc _
        have HC := Lib.hid (sizeN_calls k x (by have := HSZ.out; omega) (by omega) _ (wr.alloc (.cells #[.int .i64 xo, .slice xn1 xn2 xn3, .int .i64 xs, .int .i64 xm, .int .i64 xq, .slice xl1 xl2 xl3] 30)) P ((hnx.ext HU.out).ext hua))
        have HUA := Lib.hid (HU.out.trans_ext hua)
        have hltI : (j : Int) < ll := by omega
        have hj0 : (0 : Int) ≤ j := by omega
        have hb1 := HSZ.out
        have hb2 := sizeF_pos x
        have hb3 := depth_le_size x
        have hb4 := depths_le_sizes (l.take j)
        generalize hA : sizesF (l.take j) = A at *
        generalize hB : sizeF x = B at *
        have hA0 : (0 : Int) ≤ A := by omega
        have hA1 : (A : Int) ≤ 10000000 := by omega
        have hB0 : (0 : Int) ≤ B := by omega
        have hB1 : (B : Int) ≤ 10000000 := by omega
        have HAB := Lib.hid (And.intro hA hB)
        clear hst hua hnx hlb hx hb1 hb2 hb3 hb4 hA hB
        go_wp2_with fail
        refine HC.out.mono ?_
        rintro e w5 ⟨rfl, hu5⟩
        have HU5 := Lib.hid (HUA.out.trans_ext hu5)
        clear hu5
        go_wp2_with fail
        go_roundw
        case rel => exact ⟨j + 1, by omega, by go_num, by rw [HST.out.1]; congr 1; omega, HU5⟩
        case measure => simp [intOf]; omega
      · obtain rfl : j = ll := by omega
        have hgeI : (j : Int) ≥ j := by omega
        have HT : Hid (l.take j = l) := Lib.hid (by rw [← HLL.out, List.take_length])
        rw [HT.out]
        have hq1 := HSZ.out
        have hq2 := depths_le_sizes l
        generalize hA : sizesF l = A at *
        have hA0 : (0 : Int) ≤ A := by omega
        have hA1 : (A : Int) ≤ 10000000 := by omega
        have HA := Lib.hid hA
        clear hq1 hq2 hA
        go_wp2
        go_ret
        exact ⟨by rw [HE.out]; exact ret_int (by omega), HU.out⟩

set_option maxRecDepth 100000 in
set_option maxHeartbeats 6400000 in
theorem depthN_calls : ∀ (k : Nat) (nd : Nd), sizeF nd ≤ k → k ≤ 10000000 → ∀ (v : Value) (w : World) (P : Nat → Prop), NdV w P nd v → Calls Tryz.prog 94 #[v] w fun e w' => e = .returned (.int .i64 (depthF nd)) ∧ Upto [] w w'
  | 0, nd, hk, _, _, _, _, _ => by have := sizeF_pos nd; omega
  | k + 1, .mk op nms so nn mm l, hk, hk7, v, w, P, h => by
    unfold NdV at h
    obtain ⟨vn, vl, rfl, h1, h2⟩ := h
    obtain ⟨n1, n3, rfl⟩ := h1.len
    obtain ⟨av, cv, hvl, hg⟩ : ∃ av cv, vl = .slice av l.length cv ∧ ∀ i x, l[i]? = some x → ∃ g o v0 v1 v2 v3 v4 v5, av = some ⟨g, o, none⟩ ∧ w.cell? ⟨g, o + i * 6, none⟩ = some v0 ∧ w.cell? ⟨g, o + i * 6 + 1, none⟩ = some v1 ∧ w.cell? ⟨g, o + i * 6 + 2, none⟩ = some v2 ∧ w.cell? ⟨g, o + i * 6 + 3, none⟩ = some v3 ∧ w.cell? ⟨g, o + i * 6 + 4, none⟩ = some v4 ∧ w.cell? ⟨g, o + i * 6 + 5, none⟩ = some v5 ∧ NdV w P x (.agg #[v0, v1, v2, v3, v4, v5]) := by
      rcases h2 with ⟨rfl, a, c, rfl⟩ | ⟨g, o, c, rfl, -, h3⟩
      · exact ⟨a, c, rfl, fun i x h => by simp at h⟩
      · exact ⟨_, c, rfl, fun i x hi => by
          obtain ⟨v0, v1, v2, v3, v4, v5, h⟩ := h3.get l o i x hi
          exact ⟨g, o, v0, v1, v2, v3, v4, v5, rfl, h⟩⟩
    subst hvl
    have HG := Lib.hid hg
    have hsz : sizesF l ≤ k := by simp only [sizeF] at hk; omega
    have HSZ := Lib.hid hsz
    have HE : Hid (depthF (.mk op nms so nn mm l) = depthsF l + 1) := Lib.hid (by simp only [depthF])
    have HLEN : Hid (l.length ≤ 10000000) := Lib.hid (by have := sizes_len l; omega)
    have hlen := HLEN.out
    generalize hll : l.length = ll at *
    have HLL := Lib.hid hll
    have hL0 : (0 : Int) ≤ ll := by omega
    have hL1 : (ll : Int) ≤ 10000000 := by omega
    clear h1 h2 hg hsz hll hlen hk
    go_enter Tryz.func94, Tryz.ntmps94
    go_wp2_with fail
    go_loopw [3, 9] (fun s i wr => ∃ j : Nat, j ≤ ll ∧ i = .int .i64 j ∧ s = .int .i64 ((depthsF (l.take j) : Int)) ∧ Hid (Upto [] w wr)) (fun _ i _ => ll - (intOf i).toNat)
    case atStart => exact ⟨0, by omega, rfl, by simp [depthsF], Lib.hid ((Upto.refl [] w).alloc _)⟩
    case round =>
      obtain ⟨j, hj, rfl, rfl, HU⟩ := hrel
      rcases Nat.lt_or_ge j ll with hlt | hge
      · obtain ⟨x, hx⟩ : ∃ x, l[j]? = some x := ⟨_, List.getElem?_eq_getElem (by have := HLL.out; omega)⟩
        obtain ⟨g, o, v0, v1, v2, v3, v4, v5, rfl, c0, c1, c2, c3, c4, c5, hnx⟩ := HG.out j x hx
        obtain ⟨xo, xn1, xn2, xn3, xs, xm, xq, xl1, xl2, xl3, hsix⟩ := hnx.six
        simp only [Value.agg.injEq, Array.mk.injEq, List.cons.injEq, and_true] at hsix
        obtain ⟨rfl, rfl, rfl, rfl, rfl, rfl⟩ := hsix
        have hlb := World.block_lt_of_cell? w _ c0
        replace c0 := (HU.out.cell (p := ⟨g, o + j * 6, none⟩) hlb (by simp)).trans c0
        replace c1 := (HU.out.cell (p := ⟨g, o + j * 6 + 1, none⟩) hlb (by simp)).trans c1
        replace c2 := (HU.out.cell (p := ⟨g, o + j * 6 + 2, none⟩) hlb (by simp)).trans c2
        replace c3 := (HU.out.cell (p := ⟨g, o + j * 6 + 3, none⟩) hlb (by simp)).trans c3
        replace c4 := (HU.out.cell (p := ⟨g, o + j * 6 + 4, none⟩) hlb (by simp)).trans c4
        replace c5 := (HU.out.cell (p := ⟨g, o + j * 6 + 5, none⟩) hlb (by simp)).trans c5
        have hst := sizesF_take l j x hx
        have HST := Lib.hid hst
        have HXX := Lib.hid hx
        have hua : Upto [] wr (wr.alloc (.cells #[.int .i64 xo, .slice xn1 xn2 xn3, .int .i64 xs, .int .i64 xm, .int .i64 xq, .slice xl1 xl2 xl3] 30)) := (Upto.refl [] wr).alloc _
        have HC := Lib.hid (depthN_calls k x (by have := HSZ.out; omega) (by omega) _ (wr.alloc (.cells #[.int .i64 xo, .slice xn1 xn2 xn3, .int .i64 xs, .int .i64 xm, .int .i64 xq, .slice xl1 xl2 xl3] 30)) P ((hnx.ext HU.out).ext hua))
        have HUA := Lib.hid (HU.out.trans_ext hua)
        have hltI : (j : Int) < ll := by omega
        have hj0 : (0 : Int) ≤ j := by omega
        have hb1 := HSZ.out
        have hb2 := sizeF_pos x
        have hb3 := depth_le_size x
        have hb4 := depths_le_sizes (l.take j)
        generalize hA : depthsF (l.take j) = A at *
        generalize hB : depthF x = B at *
        have hA0 : (0 : Int) ≤ A := by omega
        have hA1 : (A : Int) ≤ 10000000 := by omega
        have hB0 : (0 : Int) ≤ B := by omega
        have hB1 : (B : Int) ≤ 10000000 := by omega
        have HAB := Lib.hid (And.intro hA hB)
        clear hst hua hnx hlb hx hb1 hb2 hb3 hb4 hA hB
        have HMX : Hid (depthsF (l.take (j + 1)) = max A B) := Lib.hid (by rw [depthsF_take l j x HXX.out, HAB.out.1, HAB.out.2])
        rcases Nat.lt_or_ge A B with hab | hab
        · have habI : (A : Int) < B := by omega
          have hmx : max (A : Int) B = B := by omega
          go_wp2_with fail
          refine HC.out.mono ?_
          rintro e w5 ⟨rfl, hu5⟩
          have HU5 := Lib.hid (HUA.out.trans_ext hu5)
          clear hu5
          go_wp2_with fail
          go_roundw
          case rel => exact ⟨j + 1, by omega, by go_num, by rw [HMX.out]; first | rfl | (congr 1; omega), HU5⟩
          case measure => simp [intOf]; omega
        · have habI : (B : Int) ≤ A := by omega
          have hmx : max (A : Int) B = A := by omega
          go_wp2_with fail
          refine HC.out.mono ?_
          rintro e w5 ⟨rfl, hu5⟩
          have HU5 := Lib.hid (HUA.out.trans_ext hu5)
          clear hu5
          go_wp2_with fail
          go_roundw
          case rel => exact ⟨j + 1, by omega, by go_num, by rw [HMX.out]; first | rfl | (congr 1; omega), HU5⟩
          case measure => simp [intOf]; omega
      · obtain rfl : j = ll := by omega
        have hgeI : (j : Int) ≥ j := by omega
        have HT : Hid (l.take j = l) := Lib.hid (by rw [← HLL.out, List.take_length])
        rw [HT.out]
        have hq1 := HSZ.out
        have hq2 := depths_le_sizes l
        generalize hA : depthsF l = A at *
        have hA0 : (0 : Int) ≤ A := by omega
        have hA1 : (A : Int) ≤ 10000000 := by omega
        have HA := Lib.hid hA
        clear hq1 hq2 hA
        go_wp2
        go_ret
        exact ⟨by rw [HE.out]; exact ret_int (by omega), HU.out⟩

set_option maxRecDepth 100000 in
set_option maxHeartbeats 6400000 in
theorem great_calls (nd : Nd) (v : Value) (w : World) (P : Nat → Prop) (h : NdV w P nd v) (hk : sizeF nd ≤ 10000000) : Calls Tryz.prog 71 #[v] w fun e w' => e = .returned (.int .i64 (greatF nd)) ∧ Upto [] w w' := by
  obtain ⟨xo, xn1, xn2, xn3, xs, xm, xq, xl1, xl2, xl3, rfl⟩ := h.six
  have hua : Upto [] w (w.alloc (.cells #[.int .i64 xo, .slice xn1 xn2 xn3, .int .i64 xs, .int .i64 xm, .int .i64 xq, .slice xl1 xl2 xl3] 30)) := (Upto.refl [] w).alloc _
  have HS := Lib.hid (sizeN_calls _ nd hk (Nat.le_refl _) _ _ P (h.ext hua))
  have HN := Lib.hid h
  have HUA := Lib.hid hua
  have HNB := Lib.hid (new_at w (.cells #[.int .i64 xo, .slice xn1 xn2 xn3, .int .i64 xs, .int .i64 xm, .int .i64 xq, .slice xl1 xl2 xl3] 30))
  have hd := depth_le_size nd
  clear h hua
  by_cases h1 : 4096 < sizeF nd
  · have hI : (4096 : Int) < sizeF nd := by omega
    have HE : Hid (greatF nd = 8) := Lib.hid (by unfold greatF; rw [if_pos h1])
    go_enter Tryz.func71, Tryz.ntmps71
    go_wp2_with fail
    refine HS.out.mono ?_
    rintro e w2 ⟨rfl, hu2⟩
    have HU2 := Lib.hid (HUA.out.trans_ext hu2)
    clear hu2
    go_wp2_with fail
    go_ret
    exact ⟨by rw [HE.out]; rfl, HU2.out⟩
  · have hI : ¬ (4096 : Int) < sizeF nd := by omega
    have hI2 : (sizeF nd : Int) ≤ 4096 := by omega
    by_cases h2 : 256 < depthF nd
    · have hJ : (256 : Int) < depthF nd := by omega
      have HE : Hid (greatF nd = 16) := Lib.hid (by unfold greatF; rw [if_neg h1, if_pos h2])
      go_enter Tryz.func71, Tryz.ntmps71
      go_wp2_with fail
      refine HS.out.mono ?_
      rintro e w2 ⟨rfl, hu2⟩
      have hb2 := hu2.at HNB.out (by simp)
      obtain ⟨x0, x1, x2, x3, x4, x5⟩ := cells6 hb2
      obtain ⟨y0, y1, y2, y3, y4, y5⟩ := frees6 hb2
      have HU2 := Lib.hid (HUA.out.trans_ext hu2)
      have HD := Lib.hid (depthN_calls _ nd hk (Nat.le_refl _) _ w2 P (HN.out.ext HU2.out))
      clear hu2 hb2
      go_wp2_with fail
      refine HD.out.mono ?_
      rintro e w3 ⟨rfl, hu3⟩
      have HU3 := Lib.hid (HU2.out.trans_ext hu3)
      clear hu3
      go_wp2_with fail
      go_ret
      exact ⟨by rw [HE.out]; rfl, HU3.out⟩
    · have hJ : ¬ (256 : Int) < depthF nd := by omega
      have hJ2 : (depthF nd : Int) ≤ 256 := by omega
      have HE : Hid (greatF nd = 0) := Lib.hid (by unfold greatF; rw [if_neg h1, if_neg h2])
      go_enter Tryz.func71, Tryz.ntmps71
      go_wp2_with fail
      refine HS.out.mono ?_
      rintro e w2 ⟨rfl, hu2⟩
      have hb2 := hu2.at HNB.out (by simp)
      obtain ⟨x0, x1, x2, x3, x4, x5⟩ := cells6 hb2
      obtain ⟨y0, y1, y2, y3, y4, y5⟩ := frees6 hb2
      have HU2 := Lib.hid (HUA.out.trans_ext hu2)
      have HD := Lib.hid (depthN_calls _ nd hk (Nat.le_refl _) _ w2 P (HN.out.ext HU2.out))
      clear hu2 hb2
      go_wp2_with fail
      refine HD.out.mono ?_
      rintro e w3 ⟨rfl, hu3⟩
      have HU3 := Lib.hid (HU2.out.trans_ext hu3)
      clear hu3
      go_wp2_with fail
      go_ret
      exact ⟨by rw [HE.out]; rfl, HU3.out⟩
end Go.Proofs.YtbnebkkpmcjmbaaGreatDoor


namespace Go.Proofs.YtbnebkkpmcjmbaaGreatDoor
open Go.RowKit Go.PL Go.Maps

/-- a free variable's cells -/
def varC (o : List UInt8 × Int) : List Value := [.string ⟨o.1.toArray⟩, .int .i64 o.2]
theorem vars_at {l : List (List UInt8 × Int)} {i : Nat} {x : List UInt8 × Int} (h : l[i]? = some x) : (l.flatMap varC)[i * 2]? = some (.string ⟨x.1.toArray⟩) ∧ (l.flatMap varC)[i * 2 + 1]? = some (.int .i64 x.2) :=
  ⟨flatMap_at varC 2 (fun _ => rfl) l i 0 x h (by decide), flatMap_at varC 2 (fun _ => rfl) l i 1 x h (by decide)⟩

end Go.Proofs.YtbnebkkpmcjmbaaGreatDoor


namespace Go.Proofs.YtbnebkkpmcjmbaaGreatDoor
open Go.RowKit Go.PL Go.Maps

/-- what is held while the free variables are read -/
structure FrI (w : World) (p : Nat) (l : List Tok) (s t : PS) (out : List (List UInt8 × Int)) (v : Value) (wr : World) : Prop where
  rd : RdAt wr p l t
  up : Upto [p] w wr
  adv : Adv l s t
  row : wr.ownsRow 0 86 2 v out.length (out.flatMap varC)
  own : ∀ g, v.ownBlock = some g → w.heap.size ≤ g
  ne : p < w.heap.size
theorem FrI.set {w : World} {p B : Nat} {l : List Tok} {s t : PS} {out : List (List UInt8 × Int)} {v : Value} {wr wr' : World} (h : FrI w p l s t out v wr) (hu : Upto [B] wr wr') (hB : p < B ∧ w.heap.size ≤ B) (hne : ∀ g, v.ownBlock = some g → g ≠ B) : FrI w p l s t out v wr' :=
  ⟨h.rd.above hu (fun k hk => by simp at hk; omega), h.up.trans hu (fun k hk => Or.inr (by simp at hk; omega)), h.adv, ownsRow_upto h.row hu (fun g hg => by simpa using hne g hg), h.own, h.ne⟩
theorem FrI.app {w : World} {p : Nat} {l : List Tok} {s t : PS} {out : List (List UInt8 × Int)} {v : Value} {wr w5 : World} {x : List UInt8 × Int} {b' : Option Addr} {c' : Nat} {o : Obj} (h : FrI w p l s t out v wr)
    (ho : w5.ownsRow 0 86 2 (.slice b' (out.length + 1) c') (out.length + 1) (out.flatMap varC ++ varC x)) (hu : Upto v.ownBlock.toList (wr.alloc o) w5) (hw : ∀ g, (Value.slice b' (out.length + 1) c').ownBlock = some g → v.ownBlock = some g ∨ (wr.alloc o).heap.size ≤ g) :
    FrI w p l s t (out ++ [x]) (.slice b' (out.length + 1) c') w5 := by
  have hua : Upto [] wr (wr.alloc o) := (Upto.refl [] wr).alloc _
  have hp := h.ne
  have hus := h.up.size
  have hvs : ∀ g ∈ v.ownBlock.toList, w.heap.size ≤ g := fun g hm => h.own g (Option.mem_toList.1 hm)
  refine ⟨(h.rd.ext hua).above hu (fun k hk => by have := hvs k hk; omega), (h.up.trans_ext hua).trans hu (fun k hk => Or.inr (hvs k hk)), h.adv, ?_, fun g hg => ?_, hp⟩
  · rw [List.length_append, List.flatMap_append]
    simpa using ho
  · rcases hw g hg with h1 | h1
    · exact h.own g h1
    · simp at h1; omega
/-- what reading the free variables comes to -/
def VarsV (w : World) (P : Nat → Prop) (v : Value) (out : List (List UInt8 × Int)) : Prop := SlP w P v out.length (out.flatMap varC)
def FrPost (w : World) (p : Nat) (l : List Tok) (s : PS) (r : List (List UInt8 × Int)) (s' : PS) (e : Ending) (w' : World) : Prop :=
  ∃ v, e = .returned v ∧ VarsV w' (New w) v r ∧ RdAt w' p l s' ∧ Upto [p] w w' ∧ Adv l s s'
theorem slP_rowN {w : World} {P : Nat → Prop} {e : TypeId} {z : Nat} {v : Value} {n : Nat} {xs : List Value} (h : w.ownsRow 0 e z v n xs) (hP : ∀ g, v.ownBlock = some g → P g) : SlP w P v n xs := by
  rcases h.2 with ⟨rfl, rfl⟩ | ⟨g, cap, cur, rfl, _, hh, hnc, _, _, ht⟩
  · exact Or.inl ⟨rfl, List.eq_nil_of_length_eq_zero (by simpa using h.1), none, 0, rfl⟩
  · refine Or.inr ⟨g, 0, cap, rfl, ⟨hP g rfl, ⟨_, _, _, hh⟩, hnc⟩, ?_⟩
    intro j u hj
    rw [cell_of hh, Nat.zero_add]
    rw [← ht, List.getElem?_take] at hj
    split at hj
    · simpa using hj
    · cases hj
theorem FrI.post {w : World} {p : Nat} {l : List Tok} {s t : PS} {out : List (List UInt8 × Int)} {v : Value} {wr : World} (h : FrI w p l s t out v wr) : FrPost w p l s out t (.returned v) wr := ⟨v, rfl, slP_rowN h.row (fun g hg => h.own g hg), h.rd, h.up, h.adv⟩
end Go.Proofs.YtbnebkkpmcjmbaaGreatDoor


namespace Go.Proofs.YtbnebkkpmcjmbaaGreatDoor
open Go.RowKit Go.PL Go.Maps

theorem SlP.get {w : World} {P : Nat → Prop} {v : Value} {n : Nat} {xs : List Value} (h : SlP w P v n xs) : ∃ a c, v = .slice a n c ∧ ∀ i u, xs[i]? = some u → ∃ g o, a = some ⟨g, o, none⟩ ∧ w.cell? ⟨g, o + i, none⟩ = some u := by
  rcases h with ⟨rfl, rfl, a, c, rfl⟩ | ⟨g, o, c, rfl, -, hc⟩
  · exact ⟨a, c, rfl, fun i u h => by simp at h⟩
  · exact ⟨_, c, rfl, fun i u h => ⟨g, o, rfl, hc i u h⟩⟩

end Go.Proofs.YtbnebkkpmcjmbaaGreatDoor


namespace Go.Proofs.YtbnebkkpmcjmbaaGreatDoor
open Go.RowKit Go.PL Go.Maps

/-- v is the question q -/
def QnV (w : World) (P : Nat → Prop) (q : Qn) (v : Value) : Prop := ∃ vf a0 a1 a2 a3 a4 a5, v = .agg #[vf, a0, a1, a2, a3, a4, a5] ∧ VarsV w P vf q.free ∧ NdV w P q.body (.agg #[a0, a1, a2, a3, a4, a5])
theorem QnV.keep {w w' : World} {P Q : Nat → Prop} (hk : Keep w w' P Q) {q : Qn} {v : Value} (h : QnV w P q v) : QnV w' Q q v := by
  obtain ⟨vf, a0, a1, a2, a3, a4, a5, e, h1, h2⟩ := h
  exact ⟨vf, a0, a1, a2, a3, a4, a5, e, SlP.keep hk h1, NdV.keep hk _ _ h2⟩
def zeroQ : Value := .agg #[.slice none 0 0, .int .i64 0, .slice none 0 0, .int .i64 0, .int .i64 0, .int .i64 0, .slice none 0 0]
theorem QnV.zero (w : World) (P : Nat → Prop) : QnV w P .zero zeroQ := ⟨_, _, _, _, _, _, _, rfl, SlP.nil, NdV.zero w P⟩
end Go.Proofs.YtbnebkkpmcjmbaaGreatDoor


namespace Go.Proofs.YtbnebkkpmcjmbaaGreatDoor
open Go.RowKit Go.PL Go.Maps

mutual
/-- no node bears more names than a machine can hold -/
def bigN : Nd → Prop
  | .mk _ names _ _ _ l => names.length ≤ 10000000 ∧ bigsN l
def bigsN : List Nd → Prop
  | [] => True
  | x :: xs => bigN x ∧ bigsN xs
end
theorem bigs_mem : ∀ {l : List Nd} {x : Nd}, bigsN l → x ∈ l → bigN x
  | [], _, _, h => by cases h
  | y :: ys, x, h, hx => by
    unfold bigsN at h
    rcases List.mem_cons.1 hx with rfl | hx
    · exact h.1
    · exact bigs_mem h.2 hx
theorem sizesF_mem : ∀ {l : List Nd} {x : Nd}, x ∈ l → sizeF x ≤ sizesF l
  | [], _, h => by cases h
  | y :: ys, x, hx => by
    simp only [sizesF]
    rcases List.mem_cons.1 hx with rfl | hx
    · omega
    · have := sizesF_mem hx; omega
/-- a list of formulas, element by element -/
def LsAt (w : World) (P : Nat → Prop) (a : Option Addr) (l : List Nd) : Prop := ∀ i x, l[i]? = some x → ∃ (g o : Nat) (xo : Int) (xn1 : Option Addr) (xn2 xn3 : Nat) (xs xm xq : Int) (xl1 : Option Addr) (xl2 xl3 : Nat), a = some ⟨g, o, none⟩ ∧ w.cell? ⟨g, o + i * 6, none⟩ = some (.int .i64 xo) ∧ w.cell? ⟨g, o + i * 6 + 1, none⟩ = some (.slice xn1 xn2 xn3) ∧ w.cell? ⟨g, o + i * 6 + 2, none⟩ = some (.int .i64 xs) ∧ w.cell? ⟨g, o + i * 6 + 3, none⟩ = some (.int .i64 xm) ∧ w.cell? ⟨g, o + i * 6 + 4, none⟩ = some (.int .i64 xq) ∧ w.cell? ⟨g, o + i * 6 + 5, none⟩ = some (.slice xl1 xl2 xl3) ∧ NdV w P x (.agg #[.int .i64 xo, .slice xn1 xn2 xn3, .int .i64 xs, .int .i64 xm, .int .i64 xq, .slice xl1 xl2 xl3])
theorem NdV.open {w : World} {P : Nat → Prop} {op so n m : Int} {names : List (List UInt8)} {l : List Nd} {v : Value} (h : NdV w P (.mk op names so n m l) v) : ∃ a1 c1 a2 c2, v = .agg #[.int .i64 op, .slice a1 names.length c1, .int .i64 so, .int .i64 n, .int .i64 m, .slice a2 l.length c2] ∧ SlP w P (.slice a1 names.length c1) names.length (names.map sV) ∧ LsAt w P a2 l := by
  unfold NdV at h
  obtain ⟨vn, vl, rfl, h1, h2⟩ := h
  obtain ⟨n1, n3, rfl⟩ := h1.len
  rcases h2 with ⟨rfl, a, c, rfl⟩ | ⟨g, o, c, rfl, -, h3⟩
  · exact ⟨n1, n3, a, c, rfl, h1, fun i x h => by simp at h⟩
  · refine ⟨n1, n3, _, c, rfl, h1, fun i x hi => ?_⟩
    obtain ⟨v0, v1, v2, v3, v4, v5, c0, c1, c2, c3, c4, c5, hn⟩ := h3.get l o i x hi
    obtain ⟨xo, xn1, xn2, xn3, xs, xm, xq, xl1, xl2, xl3, hs⟩ := hn.six
    simp only [Value.agg.injEq, Array.mk.injEq, List.cons.injEq, and_true] at hs
    obtain ⟨rfl, rfl, rfl, rfl, rfl, rfl⟩ := hs
    exact ⟨g, o, xo, xn1, xn2, xn3, xs, xm, xq, xl1, xl2, xl3, rfl, c0, c1, c2, c3, c4, c5, hn⟩
theorem LsAt.ext {w w' : World} {P : Nat → Prop} {a : Option Addr} {l : List Nd} (h : LsAt w P a l) (hu : Upto [] w w') : LsAt w' P a l := fun i x hi => by
  obtain ⟨g, o, xo, xn1, xn2, xn3, xs, xm, xq, xl1, xl2, xl3, e, c0, c1, c2, c3, c4, c5, hn⟩ := h i x hi
  have up : ∀ {j : Nat} {u : Value}, w.cell? ⟨g, j, none⟩ = some u → w'.cell? ⟨g, j, none⟩ = some u := fun hc => (hu.cell (World.block_lt_of_cell? w _ hc) (by simp)).trans hc
  exact ⟨g, o, xo, xn1, xn2, xn3, xs, xm, xq, xl1, xl2, xl3, e, up c0, up c1, up c2, up c3, up c4, up c5, hn.ext hu⟩

end Go.Proofs.YtbnebkkpmcjmbaaGreatDoor


namespace Go.Proofs.YtbnebkkpmcjmbaaGreatDoor
open Go.RowKit Go.PL Go.Maps

/-- append onto an empty slice, as an opaque step -/
theorem opq_apps {P : Program} (w : World) {o : Oper} {ac : Act} {post : Value → World → Prop} (s x : Operand) (t : TypeId) (ho : o.op = .call { callee := .builtin .append, args := #[s, x], argTypes := #[t, t] })
    (e : TypeId) (i : TypeInfo) (z : Value) (bytes : Nat) (ht : P.underlying t = some (.slice e)) (hi : P.info? e = some i) (hz : i.zero = some z)
    (hsize : i.size = 1) (hby : i.bytes = bytes) (hzs : z.cells.size = 1)
    (b : Nat) (hs : ac.eval s = .slice (some ⟨b, 0, none⟩) 0 0)
    (y : Value) (news : List Value) (n : Nat) (hn : news.length = n) (hx : ac.eval x = y) (hnews : SlC w y news)
    (h63 : n ≤ maxLen) (hbytes : n * bytes ≤ 140737488355328)
    (h : ∀ b' c' w', Upto [] w w' → SlP w' (New w) (.slice b' n c') n news → post (.slice b' n c') w') :
    opqUpon P post ((execOp ac.eval o).run P w) := by
  subst hn
  have hzero : news = [] → (∃ a c, y = .slice a 0 c) → opqUpon P post ((execOp ac.eval o).run P w) := by
    rintro rfl ⟨a, c, rfl⟩
    have hr : (Builtin.append_ #[t, t] o.type #[.slice (some ⟨b, 0, none⟩) 0 0, .slice a 0 c]).run P w = .ok (.slice (some ⟨b, 0, none⟩) 0 0) w := by
      cases a <;> simp [Builtin.append_, run_underlying ht, sizeOf, typeInfo, hi, Builtin.lenOf, Builtin.firstCells, loadCells, loadCellsFrom, storeCells]
    simp only [execOp, ho, resolve, invoke, builtin, Sem.run_bind, Sem.run_pure, Result.andThen_ok, List.map_toArray, List.map_cons, List.map_nil, hs, hx, hr]
    exact h _ _ w (Upto.refl _ _) (Or.inl ⟨rfl, rfl, _, _, rfl⟩)
  rcases hnews with ⟨h0, a, c, h2⟩ | ⟨g, off, c, h2, hc⟩
  · exact hzero h0 ⟨a, c, h2⟩
  · cases news with
    | nil => exact hzero rfl ⟨_, _, h2⟩
    | cons u us =>
      obtain ⟨v', w', hr, hrow, hgr⟩ := run_append_arg_grows (P := P) w t o.type e i z 1 bytes ht hi hz hsize hby hzs (by decide) ⟨b, 0, none⟩ 0 0 [] rfl (by simp) ⟨g, off, none⟩ (u :: us).length c (u :: us) (by simp) (fun j u hj => by simpa [Addr.add_lit] using hc j u hj) (by simp) (by simpa using h63) (by simpa using hbytes)
      simp only [execOp, ho, resolve, invoke, builtin, Sem.run_bind, Sem.run_pure, Result.andThen_ok, List.map_toArray, List.map_cons, List.map_nil, hs, hx, h2, hr]
      rcases hrow.2 with ⟨-, h0⟩ | ⟨g', cap, cur, rfl, hge, hh, hnc, _, _, htk⟩
      · simp at h0
      · rw [Nat.zero_add] at htk ⊢
        refine h _ _ w' ((Upto.refl [] w).grown hgr (fun k e => by cases e)) (Or.inr ⟨g', 0, cap, rfl, ⟨hge, ⟨_, _, _, hh⟩, by simpa using hnc⟩, ?_⟩)
        intro j u' hj
        rw [cell_of hh, Nat.zero_add]
        rw [← List.nil_append (u :: us), ← htk, List.getElem?_take] at hj
        split at hj
        · simpa using hj
        · cases hj
theorem SlP.slc {w : World} {P : Nat → Prop} {v : Value} {xs : List Value} (h : SlP w P v xs.length xs) : SlC w v xs := by
  rcases h with ⟨h0, rfl, a, c, rfl⟩ | ⟨g, o, c, rfl, -, hc⟩
  · exact Or.inl ⟨rfl, a, c, by rfl⟩
  · exact Or.inr ⟨g, o, c, rfl, hc⟩
theorem ownsRow_none (w : World) (e : TypeId) : (w.alloc (.cells #[] e)).ownsRow 0 e 1 (.slice (some ⟨w.heap.size, 0, none⟩) 0 0) 0 [] :=
  ⟨rfl, Or.inr ⟨w.heap.size, 0, #[], rfl, Nat.zero_le _, heap_alloc_new w _, Nat.le_refl _, by decide, rfl, rfl⟩⟩
def BkPost (w : World) (nd : Nd) (e : Ending) (w' : World) : Prop := ∃ v, e = .returned v ∧ NdV w' (New w) nd v ∧ Upto [] w w'
/-- a slice of one's own that holds these formulas -/
structure BkRow (w0 w : World) (B : Nat) (c : Nat → Nat → Value) (v : Value) (ms : List Nd) : Prop where
  row : w.ownsRow 0 25 6 v ms.length (cellsN c ms.length)
  nd : ∀ i m, ms[i]? = some m → NdV w (Lr w0 B v) m (.agg #[c i 0, c i 1, c i 2, c i 3, c i 4, c i 5])
  own : ∀ g, v.ownBlock = some g → w0.heap.size ≤ g ∧ g ≠ B
theorem BkRow.upto {w0 w w' : World} {S : List Nat} {B : Nat} {c : Nat → Nat → Value} {v : Value} {ms : List Nd} (h : BkRow w0 w B c v ms) (hu : Upto S w w') (hS : ∀ k ∈ S, k < w0.heap.size ∨ k = B) : BkRow w0 w' B c v ms :=
  ⟨ownsRow_upto h.row hu (fun g hg hm => by have h1 := h.own g hg; rcases hS g hm with h2 | h2 <;> omega),
   fun i m hi => (h.nd i m hi).upto hu (fun b hb _ hm => by have h1 := hb.1; unfold New at h1; rcases hS b hm with h2 | h2; omega; exact hb.2.1 h2), h.own⟩
theorem BkRow.app {w0 w w5 : World} {B : Nat} {c : Nat → Nat → Value} {v : Value} {ms : List Nd} {m : Nd} {v0 v1 v2 v3 v4 v5 : Value} {b' : Option Addr} {c' : Nat} (h : BkRow w0 w B c v ms) (hsz : w0.heap.size ≤ w.heap.size) (hBw : B < w.heap.size)
    (hm : NdV w (Lr w0 B v) m (.agg #[v0, v1, v2, v3, v4, v5])) (ho : w5.ownsRow 0 25 6 (.slice b' (ms.length + 1) c') (ms.length + 1) (cellsN c ms.length ++ [v0, v1, v2, v3, v4, v5])) (hu : Upto v.ownBlock.toList w w5)
    (hw : ∀ g, (Value.slice b' (ms.length + 1) c').ownBlock = some g → v.ownBlock = some g ∨ w.heap.size ≤ g) : BkRow w0 w5 B (addC c ms.length v0 v1 v2 v3 v4 v5) (.slice b' (ms.length + 1) c') (ms ++ [m]) := by
  have key : ∀ x u, NdV w (Lr w0 B v) x u → NdV w5 (Lr w0 B (.slice b' (ms.length + 1) c')) x u := fun x u hx =>
    NdV.keep ⟨hu.size, fun b hb hl => ⟨⟨hb.1, hb.2.1, fun e => by
      rcases hw b e with h1 | h1
      · exact hb.2.2 h1
      · have := hl.lt; omega⟩, hu.block b hl.lt (fun hmm => hb.2.2 (Option.mem_toList.1 hmm))⟩⟩ x u hx
  refine ⟨?_, ?_, ?_⟩
  · rw [List.length_append, List.length_singleton, cellsN_add]
    exact ho
  · intro i x hi
    by_cases hlt : i < ms.length
    · rw [List.getElem?_append_left hlt] at hi
      have := key _ _ (h.nd i x hi)
      simpa [addC, Nat.ne_of_lt hlt] using this
    · rw [List.getElem?_append_right (by omega)] at hi
      cases hd : i - ms.length with
      | zero =>
        rw [hd] at hi
        simp at hi
        subst hi
        have : i = ms.length := by omega
        subst this
        simpa [addC] using key _ _ hm
      | succ z => rw [hd] at hi; simp at hi
  · intro g hg
    rcases hw g hg with h1 | h1
    · exact h.own g h1
    · exact ⟨by omega, by omega⟩
theorem nds_of {w : World} {P : Nat → Prop} {g : Nat} : ∀ (l : List Nd) (o : Nat), (∀ i x, l[i]? = some x → ∃ v0 v1 v2 v3 v4 v5, w.cell? ⟨g, o + i * 6, none⟩ = some v0 ∧ w.cell? ⟨g, o + i * 6 + 1, none⟩ = some v1 ∧ w.cell? ⟨g, o + i * 6 + 2, none⟩ = some v2 ∧ w.cell? ⟨g, o + i * 6 + 3, none⟩ = some v3 ∧ w.cell? ⟨g, o + i * 6 + 4, none⟩ = some v4 ∧ w.cell? ⟨g, o + i * 6 + 5, none⟩ = some v5 ∧ NdV w P x (.agg #[v0, v1, v2, v3, v4, v5])) → NdsV w P g o l
  | [], _, _ => by unfold NdsV; trivial
  | y :: ys, o, h => by
    unfold NdsV
    refine ⟨by simpa using h 0 y rfl, nds_of ys (o + 6) fun i x hi => ?_⟩
    have := h (i + 1) x (by simpa using hi)
    rwa [show o + (i + 1) * 6 = o + 6 + i * 6 by omega] at this
/-- the row, as a formula's list -/
theorem BkRow.list {w0 w : World} {B : Nat} {c : Nat → Nat → Value} {v : Value} {ms : List Nd} {Q : Nat → Prop} (h : BkRow w0 w B c v ms) (h1 : ∀ b, Lr w0 B v b → Q b) (h2 : ∀ g, v.ownBlock = some g → Q g) : (ms = [] ∧ ∃ a c, v = .slice a 0 c) ∨ ∃ g o c, v = .slice (some ⟨g, o, none⟩) ms.length c ∧ (Q g ∧ IsC w g) ∧ NdsV w Q g o ms := by
  rcases h.row.2 with ⟨e, h0⟩ | ⟨g, cap, cur, e, _, hh, _, _, _, ht⟩
  · exact Or.inl ⟨List.eq_nil_of_length_eq_zero h0, none, 0, e⟩
  · refine Or.inr ⟨g, 0, cap, e, ⟨h2 g (by rw [e]; rfl), _, _, _, hh⟩, nds_of ms 0 fun i x hi => ?_⟩
    have hil : i < ms.length := (List.getElem?_eq_some_iff.1 hi).1
    have cl : ∀ j, j < 6 → w.cell? ⟨g, 0 + i * 6 + j, none⟩ = some (c i j) := fun j hj => by
      rw [cell_of hh]
      have := cellsN_at c hil hj
      rw [← ht, List.getElem?_take] at this
      split at this
      · simpa using this
      · cases this
    exact ⟨_, _, _, _, _, _, cl 0 (by omega), cl 1 (by omega), cl 2 (by omega), cl 3 (by omega), cl 4 (by omega), cl 5 (by omega), (h.nd i x hi).mono fun b hb _ => h1 b hb⟩
/-- what was laid for the names is no node's block -/
theorem names_ne {w : World} {P : Nat → Prop} {v : Value} {n : Nat} {names : List (List UInt8)} (h : SlP w P v n (names.map sV)) (hn : n = names.length) {bn : Nat} {T : TypeId} {z : Nat × Nat} (hb : w.heap[bn]? = some (.cells #[.int .i64 0, .slice none 0 0, .int .i64 0, .int .i64 0, .int .i64 0, .slice none 0 0] T z)) : SlP w (fun b => P b ∧ b ≠ bn) v n (names.map sV) := by
  rcases h with h | ⟨g, o, c, rfl, ⟨hg, hi, hnc⟩, hc⟩
  · exact Or.inl h
  · cases names with
    | nil => subst hn; exact Or.inl ⟨rfl, rfl, _, c, rfl⟩
    | cons x r =>
      refine Or.inr ⟨g, o, c, rfl, ⟨⟨hg, fun e => ?_⟩, hi, hnc⟩, hc⟩
      subst e
      have h0 := hc 0 (sV x) rfl
      rw [cell_of hb] at h0
      have : o + 0 = 0 ∨ o + 0 = 1 ∨ o + 0 = 2 ∨ o + 0 = 3 ∨ o + 0 = 4 ∨ o + 0 = 5 ∨ 6 ≤ o + 0 := by omega
      rcases this with e | e | e | e | e | e | e
      · rw [e] at h0; simp [sV] at h0
      · rw [e] at h0; simp [sV] at h0
      · rw [e] at h0; simp [sV] at h0
      · rw [e] at h0; simp [sV] at h0
      · rw [e] at h0; simp [sV] at h0
      · rw [e] at h0; simp [sV] at h0
      · rw [Array.getElem?_eq_none (by simpa using e)] at h0; cases h0
end Go.Proofs.YtbnebkkpmcjmbaaGreatDoor


namespace Go.Proofs.YtbnebkkpmcjmbaaGreatDoor
open Go.RowKit Go.PL Go.Maps
def Unf (w : World) (b : Nat) : Prop := ∃ cs t, w.heap[b]? = some (.cells cs t (0, 0))
theorem Unf.stay {w w' : World} {b : Nat} (h : Unf w b) (he : w'.heap[b]? = w.heap[b]?) : Unf w' b := by
  obtain ⟨cs, t, h⟩ := h
  exact ⟨cs, t, he.trans h⟩
/-- new since w0, and not frozen -/
def Nu (w0 w : World) (b : Nat) : Prop := New w0 b ∧ Unf w b
def Lu (w0 w : World) (B : Nat) (v : Value) (b : Nat) : Prop := Lr w0 B v b ∧ Unf w b
theorem keepNu {S : List Nat} {w0 w w' : World} (hu : Upto S w w') (hs : ∀ b, Nu w0 w b → b ∉ S) : Keep w w' (Nu w0 w) (Nu w0 w') := ⟨hu.size, fun b hb hl => ⟨⟨hb.1, hb.2.stay (hu.block b hl.lt (hs b hb))⟩, hu.block b hl.lt (hs b hb)⟩⟩
theorem NdV.nu {w0 w w' : World} {nd : Nd} {v : Value} (h : NdV w (Nu w0 w) nd v) (hu : Upto [] w w') : NdV w' (Nu w0 w') nd v := NdV.keep (keepNu hu (by simp)) nd v h

set_option maxRecDepth 100000 in
set_option maxHeartbeats 3200000 in
theorem sclone_calls (xs : List Value) (a : Option Addr) (n c : Nat) (w : World) (P : Nat → Prop) (hn : xs.length = n) (hN : n ≤ 10000000) (hx : ∀ u ∈ xs, u.oneCell' = true) (h : SlP w P (.slice a n c) n xs) : Calls Tryz.prog 73 #[.slice a n c] w fun e w' => ∃ a' c', e = .returned (.slice a' n c') ∧ SlP w' (Nu w w') (.slice a' n c') n xs ∧ Upto [] w w' := by
  have q22 : ∀ (w : World) (a : Option Addr) (n c n' c' : Nat), (binOp .eql 22 (.slice a n c) (.slice none n' c')).run Tryz.prog w = .ok (.bool a.isNone) w := fun w a n c n' c' => Lib.run_eql_slice_nil w _ _ a n c n' c' Tryz.underlying22
  cases a with
  | none =>
    have hn0 : n = 0 := by
      rcases h with ⟨h0, -⟩ | ⟨g, o, c, h0, -⟩
      · exact h0
      · cases h0
    subst hn0
    have hx0 : xs = [] := List.eq_nil_of_length_eq_zero hn
    subst hx0
    clear h hx
    go_enter Tryz.func73, Tryz.ntmps73
    go_wp2
    go_ret
    exact ⟨none, 0, rfl, Or.inl ⟨rfl, rfl, none, 0, rfl⟩, Upto.refl _ _⟩
  | some ad =>
    obtain ⟨i0, hi, hz0, hz1, hz2⟩ := info9'
    have A : Aside (∀ j u, xs[j]? = some u → w.cell? (ad.add j) = some u) := by
      intro j u hj
      rcases h with ⟨-, h0, -⟩ | ⟨g, o, c, h0, -, hc⟩
      · subst h0; cases hj
      · simp only [Value.slice.injEq, Option.some.injEq] at h0
        obtain ⟨h0, -, -⟩ := h0
        subst h0
        rw [Addr.add_lit]
        exact hc j u hj
    have HX := Lib.hid hx
    have HN := Lib.hid hn
    clear h hx hn
    go_enter Tryz.func73, Tryz.ntmps73
    go_wp2_with (at_builtin; refine wpList_append_own _ rfl _ _ 22 rfl w.heap.size 9 i0 (.string { data := #[] }) 1 16 Tryz.underlying22 hi hz0 hz1 hz2 rfl (by decide) _ _ _ rfl (World.ownsRow_made w #[] 0 (Nat.le_refl _) (Nat.zero_le _) rfl) ad n c xs rfl ?qc1 ?qc2 ?qc3 ?qc4 ?qc5 ?qc6 ?_)
    case qc1 => have := HN.out; omega
    case qc2 =>
      intro j u hj
      exact Lib.cell?_alloc_some _ (A.out j u hj)
    case qc3 => exact HX.out
    case qc4 => unfold maxLen; omega
    case qc5 => omega
    case qc6 => simp
    intro v' w1 hown hgrow _
    obtain ⟨a', c', rfl, -⟩ := ownsRow_len hown
    have hup : Upto [] w w1 := ((Upto.refl [] w).alloc _).grown hgrow (by intro k hk; simp [Value.ownBlock] at hk; omega)
    have hsl : SlP w1 (Nu w w1) (.slice a' n c') n xs := by
      have hown2 : w1.ownsRow w.heap.size 9 1 (.slice a' n c') n xs := by simpa using hown
      have hnu : ∀ g, (Value.slice a' n c').ownBlock = some g → Nu w w1 g := fun g hg => by
        rcases hown2.2 with ⟨e, -⟩ | ⟨g', cap, cur, e, hge, hh, -⟩
        · rw [e] at hg; cases hg
        · rw [e] at hg
          simp [Value.ownBlock] at hg
          subst hg
          exact ⟨hge, _, _, hh⟩
      exact SlP.of_row (e := 9) ⟨hown2.1, hown2.2.imp id (fun ⟨g, cap, cur, h1, h2, h3⟩ => ⟨g, cap, cur, h1, Nat.zero_le _, h3⟩)⟩ hnu
    clear hown hgrow
    have HF := Lib.hid (And.intro hsl hup)
    clear hsl hup
    go_wp2
    go_ret
    exact ⟨a', c', by simp, HF.out.1, HF.out.2⟩
end Go.Proofs.YtbnebkkpmcjmbaaGreatDoor


namespace Go.Proofs.YtbnebkkpmcjmbaaGreatDoor
open Go.RowKit Go.PL Go.Maps
def ClPost (w : World) (nd : Nd) (e : Ending) (w' : World) : Prop := ∃ v, e = .returned v ∧ NdV w' (Nu w w') nd v ∧ Upto [] w w'
/-- a slice of one's own that holds these formulas -/
structure ClRow (w0 w : World) (B : Nat) (c : Nat → Nat → Value) (v : Value) (ms : List Nd) : Prop where
  row : w.ownsRow 0 30 6 v ms.length (cellsN c ms.length)
  nd : ∀ i m, ms[i]? = some m → NdV w (Lu w0 w B v) m (.agg #[c i 0, c i 1, c i 2, c i 3, c i 4, c i 5])
  own : ∀ g, v.ownBlock = some g → w0.heap.size ≤ g ∧ g ≠ B
theorem ClRow.upto {w0 w w' : World} {S : List Nat} {B : Nat} {c : Nat → Nat → Value} {v : Value} {ms : List Nd} (h : ClRow w0 w B c v ms) (hu : Upto S w w') (hS : ∀ k ∈ S, k < w0.heap.size ∨ k = B) : ClRow w0 w' B c v ms :=
  ⟨ownsRow_upto h.row hu (fun g hg hm => by have h1 := h.own g hg; rcases hS g hm with h2 | h2 <;> omega),
   fun i m hi => NdV.keep ⟨hu.size, fun b hb hl => by
     have hne : b ∉ S := fun hm => by
       have h1 := hb.1.1
       unfold New at h1
       rcases hS b hm with h2 | h2
       · omega
       · exact hb.1.2.1 h2
     exact ⟨⟨hb.1, hb.2.stay (hu.block b hl.lt hne)⟩, hu.block b hl.lt hne⟩⟩ _ _ (h.nd i m hi), h.own⟩
theorem ClRow.app {w0 w w5 : World} {B : Nat} {c : Nat → Nat → Value} {v : Value} {ms : List Nd} {m : Nd} {v0 v1 v2 v3 v4 v5 : Value} {b' : Option Addr} {c' : Nat} (h : ClRow w0 w B c v ms) (hsz : w0.heap.size ≤ w.heap.size) (hBw : B < w.heap.size)
    (hm : NdV w (Lu w0 w B v) m (.agg #[v0, v1, v2, v3, v4, v5])) (ho : w5.ownsRow 0 30 6 (.slice b' (ms.length + 1) c') (ms.length + 1) (cellsN c ms.length ++ [v0, v1, v2, v3, v4, v5])) (hu : Upto v.ownBlock.toList w w5)
    (hw : ∀ g, (Value.slice b' (ms.length + 1) c').ownBlock = some g → v.ownBlock = some g ∨ w.heap.size ≤ g) : ClRow w0 w5 B (addC c ms.length v0 v1 v2 v3 v4 v5) (.slice b' (ms.length + 1) c') (ms ++ [m]) := by
  have key : ∀ x u, NdV w (Lu w0 w B v) x u → NdV w5 (Lu w0 w5 B (.slice b' (ms.length + 1) c')) x u := fun x u hx =>
    NdV.keep ⟨hu.size, fun b hb hl => by
      have hs := hu.block b hl.lt (fun hmm => hb.1.2.2 (Option.mem_toList.1 hmm))
      refine ⟨⟨⟨hb.1.1, hb.1.2.1, fun e => ?_⟩, hb.2.stay hs⟩, hs⟩
      rcases hw b e with h1 | h1
      · exact hb.1.2.2 h1
      · have := hl.lt; omega⟩ x u hx
  refine ⟨?_, ?_, ?_⟩
  · rw [List.length_append, List.length_singleton, cellsN_add]
    exact ho
  · intro i x hi
    by_cases hlt : i < ms.length
    · rw [List.getElem?_append_left hlt] at hi
      have := key _ _ (h.nd i x hi)
      simpa [addC, Nat.ne_of_lt hlt] using this
    · rw [List.getElem?_append_right (by omega)] at hi
      cases hd : i - ms.length with
      | zero =>
        rw [hd] at hi
        simp at hi
        subst hi
        have : i = ms.length := by omega
        subst this
        simpa [addC] using key _ _ hm
      | succ z => rw [hd] at hi; simp at hi
  · intro g hg
    rcases hw g hg with h1 | h1
    · exact h.own g h1
    · exact ⟨by omega, by omega⟩
/-- the row, as a formula's list -/
theorem ClRow.list {w0 w : World} {B : Nat} {c : Nat → Nat → Value} {v : Value} {ms : List Nd} {Q : Nat → Prop} (h : ClRow w0 w B c v ms) (h1 : ∀ b, Lu w0 w B v b → Q b) (h2 : ∀ g, v.ownBlock = some g → Unf w g → Q g) : (ms = [] ∧ ∃ a c, v = .slice a 0 c) ∨ ∃ g o c, v = .slice (some ⟨g, o, none⟩) ms.length c ∧ (Q g ∧ IsC w g) ∧ NdsV w Q g o ms := by
  rcases h.row.2 with ⟨e, h0⟩ | ⟨g, cap, cur, e, _, hh, _, _, _, ht⟩
  · exact Or.inl ⟨List.eq_nil_of_length_eq_zero h0, none, 0, e⟩
  · refine Or.inr ⟨g, 0, cap, e, ⟨h2 g (by rw [e]; rfl) ⟨_, _, hh⟩, _, _, _, hh⟩, nds_of ms 0 fun i x hi => ?_⟩
    have hil : i < ms.length := (List.getElem?_eq_some_iff.1 hi).1
    have cl : ∀ j, j < 6 → w.cell? ⟨g, 0 + i * 6 + j, none⟩ = some (c i j) := fun j hj => by
      rw [cell_of hh]
      have := cellsN_at c hil hj
      rw [← ht, List.getElem?_take] at this
      split at this
      · simpa using this
      · cases this
    exact ⟨_, _, _, _, _, _, cl 0 (by omega), cl 1 (by omega), cl 2 (by omega), cl 3 (by omega), cl 4 (by omega), cl 5 (by omega), (h.nd i x hi).mono fun b hb _ => h1 b hb⟩
/-- what stands between two rounds -/
structure ClI (w w9 : World) (bn : Nat) (op so nn mm : Int) (na : Option Addr) (nl nc : Nat) (l : List Nd) (j : Nat) (wr : World) : Prop where
  up : Upto [bn] w9 wr
  old : Upto [] w wr
  st : ∃ (va : Option Addr) (vn vc : Nat) (c : Nat → Nat → Value), wr.heap[bn]? = some (.cells #[.int .i64 op, .slice na nl nc, .int .i64 so, .int .i64 nn, .int .i64 mm, .slice va vn vc] 30 (0, 0)) ∧ ClRow w9 wr bn c (.slice va vn vc) (l.take j)
theorem ClI.ext {w w9 wr w2 : World} {bn : Nat} {op so nn mm : Int} {na : Option Addr} {nl nc : Nat} {l : List Nd} {j : Nat} (h : ClI w w9 bn op so nn mm na nl nc l j wr) (hu : Upto [] wr w2) : ClI w w9 bn op so nn mm na nl nc l j w2 := by
  obtain ⟨va, vn, vc, c, h1, h2⟩ := h.st
  exact ⟨h.up.trans_ext hu, h.old.trans_ext hu, va, vn, vc, c, hu.at h1 (by simp), h2.upto hu (by simp)⟩
theorem cl_step {w w9 wr w10 w5 : World} {bn : Nat} {op so nn mm : Int} {na : Option Addr} {nl nc : Nat} {l : List Nd} {vn : Nat} {va : Option Addr} {vc : Nat} {c : Nat → Nat → Value} {x : Nd} {v0 v1 v2 v3 v4 v5 : Value} {b5 : Option Addr} {c5 : Nat}
    (HI : ClI w w9 bn op so nn mm na nl nc l vn wr) (HLT : w.heap.size ≤ bn ∧ bn < w9.heap.size)
    (hbk : wr.heap[bn]? = some (.cells #[.int .i64 op, .slice na nl nc, .int .i64 so, .int .i64 nn, .int .i64 mm, .slice va vn vc] 30 (0, 0))) (hrow : ClRow w9 wr bn c (.slice va vn vc) (l.take vn))
    (hu : Upto [] wr w10) (hn : NdV w10 (Nu wr w10) x (.agg #[v0, v1, v2, v3, v4, v5])) (hjl : (l.take vn).length = vn) (htk : l.take (vn + 1) = l.take vn ++ [x])
    (ho5 : w5.ownsRow 0 30 6 (.slice b5 (vn + 1) c5) (vn + 1) (cellsN c vn ++ [v0, v1, v2, v3, v4, v5])) (hu5 : Upto (Value.slice va vn vc).ownBlock.toList w10 w5) (hw5 : ∀ g, (Value.slice b5 (vn + 1) c5).ownBlock = some g → (Value.slice va vn vc).ownBlock = some g ∨ w10.heap.size ≤ g) :
    w5.heap[bn]? = some (.cells #[.int .i64 op, .slice na nl nc, .int .i64 so, .int .i64 nn, .int .i64 mm, .slice va vn vc] 30 (0, 0)) ∧ ClI w w9 bn op so nn mm na nl nc l (vn + 1) (w5.setCell ⟨bn, 5, none⟩ (.slice b5 (vn + 1) c5)) := by
  have hown : ∀ g, g ∈ (Value.slice va vn vc).ownBlock.toList → w9.heap.size ≤ g ∧ g ≠ bn := fun g hg => hrow.own g (Option.mem_toList.1 hg)
  have hold : ∀ g, (Value.slice va vn vc).ownBlock = some g → g < wr.heap.size := fun g hg => by
    obtain ⟨cur, hh⟩ := ownsRow_block hrow.row hg
    exact lt_of_heap hh
  have hb5 := hu5.at (hu.at hbk (by simp)) (fun hm => (hown _ hm).2 rfl)
  have hst : Upto [bn] w5 (w5.setCell ⟨bn, 5, none⟩ (.slice b5 (vn + 1) c5)) := (Upto.refl [bn] w5).setCell (p := ⟨bn, 5, none⟩) (Or.inl (by simp)) _
  have hs9 := HI.up.size
  have hs10 := hu.size
  have hbw := lt_of_heap hbk
  refine ⟨hb5, ⟨?_, ?_, b5, vn + 1, c5, addC c vn v0 v1 v2 v3 v4 v5, ?_, ?_⟩⟩
  · exact ((HI.up.trans_ext hu).trans hu5 (fun k hk => Or.inr (hown k hk).1)).setCell (p := ⟨bn, 5, none⟩) (Or.inl (by simp)) _
  · exact ((HI.old.trans_ext hu).trans hu5 (fun k hk => Or.inr (by have := (hown k hk).1; omega))).setCell (p := ⟨bn, 5, none⟩) (Or.inr (by simp; omega)) _
  · have := set_same hb5 5 (.slice b5 (vn + 1) c5)
    simpa using this
  · have happ := ClRow.app (m := x) (v0 := v0) (v1 := v1) (v2 := v2) (v3 := v3) (v4 := v4) (v5 := v5) (b' := b5) (c' := c5) (w5 := w5) (hrow.upto hu (by simp)) (by omega) (by omega)
      (hn.mono (fun b hb _ => ⟨⟨by have := hb.1; unfold New at this ⊢; omega, by have := hb.1; unfold New at this; omega, fun e => by have := hold b e; have := hb.1; unfold New at this; omega⟩, hb.2⟩)) (by rw [hjl]; exact ho5) hu5 (by rw [hjl]; exact hw5)
    rw [hjl] at happ
    rw [htk]
    exact happ.upto hst (fun k hk => Or.inr (by simpa using hk))
theorem cl_end {w w9 wr : World} {bn : Nat} {op so nn mm : Int} {na : Option Addr} {nc : Nat} {names : List (List UInt8)} {l : List Nd} {vn : Nat} {va : Option Addr} {vc : Nat} {c : Nat → Nat → Value}
    (HI : ClI w w9 bn op so nn mm na names.length nc l vn wr) (HLT : w.heap.size = bn ∧ bn + 1 < w9.heap.size)
    (hsl : SlP w9 (fun b => Nu w w9 b ∧ b ≠ bn ∧ b ≠ bn + 1) (.slice na names.length nc) names.length (names.map sV))
    (hrow : ClRow w9 wr bn c (.slice va vn vc) (l.take vn)) (htk : l.take vn = l) (hll : l.length = vn) :
    ClPost w (.mk op names so nn mm l) (.returned (.agg #[.int .i64 op, .slice na names.length nc, .int .i64 so, .int .i64 nn, .int .i64 mm, .slice va vn vc])) ((((((wr.setCell ⟨w.heap.size + 1, 0, none⟩ (.int .i64 op)).setCell ⟨w.heap.size + 1, 1, none⟩ (.slice na names.length nc)).setCell ⟨w.heap.size + 1, 2, none⟩ (.int .i64 so)).setCell ⟨w.heap.size + 1, 3, none⟩ (.int .i64 nn)).setCell ⟨w.heap.size + 1, 4, none⟩ (.int .i64 mm)).setCell ⟨w.heap.size + 1, 5, none⟩ (.slice va vn vc)) := by
  have hst := nd_self wr (w.heap.size + 1) (.int .i64 op) (.slice na names.length nc) (.int .i64 so) (.int .i64 nn) (.int .i64 mm) (.slice va vn vc)
  have hrow2 := hrow.upto hst (fun k hk => Or.inl (by simp at hk; omega))
  rw [htk] at hrow2
  obtain ⟨wE, hE⟩ : ∃ wE, wE = ((((((wr.setCell ⟨w.heap.size + 1, 0, none⟩ (.int .i64 op)).setCell ⟨w.heap.size + 1, 1, none⟩ (.slice na names.length nc)).setCell ⟨w.heap.size + 1, 2, none⟩ (.int .i64 so)).setCell ⟨w.heap.size + 1, 3, none⟩ (.int .i64 nn)).setCell ⟨w.heap.size + 1, 4, none⟩ (.int .i64 mm)).setCell ⟨w.heap.size + 1, 5, none⟩ (.slice va vn vc)) := ⟨_, rfl⟩
  have hup : Upto [] w wE := by rw [hE]; exact nd_up HI.old (Or.inr (by omega)) ..
  rw [← hE] at hst hrow2 ⊢
  have hu9 : Upto [bn, bn + 1] w9 wE := (HI.up.mono (by simp)).trans (hst.mono (by simp; omega)) (fun k hk => Or.inl hk)
  have hs2 : SlP wE (Nu w wE) (.slice na names.length nc) names.length (names.map sV) := hsl.keep ⟨hu9.size, fun b hb hl => by
    have he := hu9.block b hl.lt (by simp; exact hb.2)
    exact ⟨⟨hb.1.1, hb.1.2.stay he⟩, he⟩⟩
  refine ⟨_, rfl, ?_, hup⟩
  unfold NdV
  refine ⟨_, _, rfl, hs2, ?_⟩
  rw [← hll]
  have := hrow2.list (Q := Nu w wE) (fun b hb => ⟨by have := hb.1.1; unfold New at this ⊢; omega, hb.2⟩) (fun g hg hf => ⟨by have := (hrow.own g hg).1; unfold New; omega, hf⟩)
  rw [hll] at this ⊢
  exact this
end Go.Proofs.YtbnebkkpmcjmbaaGreatDoor


namespace Go.Proofs.YtbnebkkpmcjmbaaGreatDoor
open Go.RowKit Go.PL Go.Maps
set_option maxRecDepth 100000 in
set_option maxHeartbeats 6400000 in
theorem fclone_calls : ∀ (k : Nat) (nd : Nd), sizeF nd ≤ k → k ≤ 10000000 → bigN nd → ∀ (P : Nat → Prop) (v : Value) (w : World), NdV w P nd v → Calls Tryz.prog 42 #[v] w (ClPost w nd)
  | 0, nd, hk, _, _, _, _, _, _ => by have := sizeF_pos nd; omega
  | k + 1, .mk op names so nn mm l, hk, hk7, hbg, P, v, w, h => by
    obtain ⟨a1, c1, a2, c2, rfl, hs, hls⟩ := h.open
    unfold bigN at hbg
    have hsz : sizesF l ≤ k := by simp only [sizeF] at hk; omega
    have hln := sizes_len l
    have hu2 : Upto [] w ((w.alloc (.cells #[.int .i64 op, .slice a1 names.length c1, .int .i64 so, .int .i64 nn, .int .i64 mm, .slice a2 l.length c2] 30)).alloc (.cells #[.int .i64 0, .slice none 0 0, .int .i64 0, .int .i64 0, .int .i64 0, .slice none 0 0] 30)) := ((Upto.refl [] w).alloc _).alloc _
    have hb1 := alloc_old (new_at w (.cells #[.int .i64 op, .slice a1 names.length c1, .int .i64 so, .int .i64 nn, .int .i64 mm, .slice a2 l.length c2] 30)) (.cells #[.int .i64 0, .slice none 0 0, .int .i64 0, .int .i64 0, .int .i64 0, .slice none 0 0] 30)
    have hb2 := new_at1 w (.cells #[.int .i64 op, .slice a1 names.length c1, .int .i64 so, .int .i64 nn, .int .i64 mm, .slice a2 l.length c2] 30) (.cells #[.int .i64 0, .slice none 0 0, .int .i64 0, .int .i64 0, .int .i64 0, .slice none 0 0] 30)
    obtain ⟨W, hW⟩ : ∃ W, W = ((w.alloc (.cells #[.int .i64 op, .slice a1 names.length c1, .int .i64 so, .int .i64 nn, .int .i64 mm, .slice a2 l.length c2] 30)).alloc (.cells #[.int .i64 0, .slice none 0 0, .int .i64 0, .int .i64 0, .int .i64 0, .slice none 0 0] 30)) := ⟨_, rfl⟩
    rw [← hW] at hu2 hb1 hb2
    have HU2 := Lib.hid hu2
    have HB1 := Lib.hid hb1
    have HB2 := Lib.hid hb2
    have HCL := Lib.hid (fun W2 (hu : Upto [] W W2) => sclone_calls (names.map sV) a1 names.length c1 W2 P (by simp) hbg.1 (by intro u hu; obtain ⟨x, _, rfl⟩ := List.mem_map.1 hu; rfl) ((hs.ext hu2).ext hu))
    obtain ⟨x0, x1, x2, x3, x4, x5⟩ := cells6 hb1
    have hwl : w.heap.size + 1 < W.heap.size := lt_of_heap hb2
    have HWL := Lib.hid hwl
    clear hs h hu2 hb1 hb2
    go_enter Tryz.func42, Tryz.ntmps42
    go_wp2_with fail
    simp only [← hW]
    clear hW x0 x1 x2 x3 x4 x5
    refine (HCL.out W (Upto.refl [] W)).mono ?_
    rintro e w9 ⟨na, nc, rfl, hsl, hu9⟩
    have hc1 := hu9.at HB1.out (by simp)
    have hc2 := hu9.at HB2.out (by simp)
    have HUP := Lib.hid hu9
    have HC2 := Lib.hid hc2
    have HSL : Hid (SlP w9 (fun b => Nu w w9 b ∧ b ≠ w.heap.size ∧ b ≠ w.heap.size + 1) (.slice na names.length nc) names.length (names.map sV)) := Lib.hid (hsl.mono (fun b hb _ => ⟨⟨by have := hb.1; unfold New at this ⊢; omega, hb.2⟩, by have := hb.1; unfold New at this; omega, by have := hb.1; unfold New at this; omega⟩))
    have HLT : Hid (w.heap.size = w.heap.size ∧ w.heap.size + 1 < w9.heap.size) := Lib.hid ⟨rfl, lt_of_heap hc2⟩
    obtain ⟨n0, n1, n2, n3, n4, n5⟩ := cells6 hc1
    obtain ⟨f0, f1, f2, f3, f4, f5⟩ := frees6 hc1
    have hset := set_same (set_same hc1 1 (.slice na names.length nc)) 5 (.slice none 0 0)
    simp only [List.setIfInBounds_toArray, List.set_cons_zero, List.set_cons_succ] at hset
    have HI0 : Hid (ClI w w9 w.heap.size op so nn mm na names.length nc l 0 ((w9.setCell ⟨w.heap.size, 1, none⟩ (.slice na names.length nc)).setCell ⟨w.heap.size, 5, none⟩ (.slice none 0 0))) := Lib.hid
      ⟨((Upto.refl [w.heap.size] w9).setCell (p := ⟨w.heap.size, 1, none⟩) (Or.inl (by simp)) _).setCell (p := ⟨w.heap.size, 5, none⟩) (Or.inl (by simp)) _,
       (((HU2.out.trans_ext hu9).setCell (p := ⟨w.heap.size, 1, none⟩) (Or.inr (by simp)) _).setCell (p := ⟨w.heap.size, 5, none⟩) (Or.inr (by simp)) _), none, 0, 0, fun _ _ => undef, hset, ⟨by simpa [cellsN] using World.ownsRow_nil _ 0 30 6, by simp, by intro g hg; cases hg⟩⟩
    clear hsl hu9 hc1 hc2 hset
    have HLS := Lib.hid hls
    have HLN : Hid (l.length ≤ 10000000) := Lib.hid (by omega)
    clear hls
    go_wp2_with fail
    generalize hll : l.length = ll at *
    have HLL := Lib.hid hll
    have hL0 : (0 : Int) ≤ ll := by omega
    have hL1 : (ll : Int) ≤ 10000000 := by have := HLN.out; omega
    clear hll n0 n1 n2 n3 n4 n5 f0 f1 f2 f3 f4 f5
    go_loopw [15] (fun v wr => ∃ j : Nat, j ≤ ll ∧ v = .int .i64 j ∧ Hid (ClI w w9 w.heap.size op so nn mm na names.length nc l j wr)) (fun v _ => ll - (intOf v).toNat)
    case atStart => exact ⟨0, by omega, rfl, HI0⟩
    case round =>
      obtain ⟨j, hj, rfl, HI⟩ := hrel
      obtain ⟨va, vn, vc, c, hbk, hrow⟩ := HI.out.st
      obtain ⟨va', vc', hve, -⟩ := ownsRow_len hrow.row
      simp only [Value.slice.injEq] at hve
      have hvn : vn = j := by have := HLL.out; rw [hve.2.1, List.length_take]; omega
      clear hve
      subst hvn
      rcases Nat.lt_or_ge vn ll with hlt | hge
      · obtain ⟨x, hx⟩ : ∃ x, l[vn]? = some x := ⟨_, List.getElem?_eq_getElem (by have := HLL.out; omega)⟩
        obtain ⟨g, o, xo, xn1, xn2, xn3, xs, xm, xq, xl1, xl2, xl3, rfl, c0, c1', c2', c3, c4, c5, hn⟩ := (HLS.out.ext HI.out.old) vn x hx
        have hjl : (l.take vn).length = vn := by have := HLL.out; rw [List.length_take]; omega
        have HJL := Lib.hid hjl
        have HTK : Hid (l.take (vn + 1) = l.take vn ++ [x]) := Lib.hid (by
          obtain ⟨hi, rfl⟩ := List.getElem?_eq_some_iff.1 hx
          exact List.take_succ_eq_append_getElem hi)
        have hxs := sizesF_mem (List.mem_of_getElem? hx)
        have hu7 : Upto [] wr (wr.alloc (.cells #[.int .i64 xo, .slice xn1 xn2 xn3, .int .i64 xs, .int .i64 xm, .int .i64 xq, .slice xl1 xl2 xl3] 30)) := (Upto.refl [] wr).alloc _
        have hb7 := new_at wr (.cells #[.int .i64 xo, .slice xn1 xn2 xn3, .int .i64 xs, .int .i64 xm, .int .i64 xq, .slice xl1 xl2 xl3] 30)
        obtain ⟨W7, hW7⟩ : ∃ W7, W7 = wr.alloc (.cells #[.int .i64 xo, .slice xn1 xn2 xn3, .int .i64 xs, .int .i64 xm, .int .i64 xq, .slice xl1 xl2 xl3] 30) := ⟨_, rfl⟩
        rw [← hW7] at hu7 hb7
        have HI7 := Lib.hid (HI.out.ext hu7)
        have hbk7 := hu7.at hbk (by simp)
        have HBK := Lib.hid hbk7
        have HROW := Lib.hid (hrow.upto hu7 (by simp))
        have HC := Lib.hid (fun w1 (hu : Upto [] W7 w1) => fclone_calls k x (by omega) (by omega) (bigs_mem hbg.2 (List.mem_of_getElem? hx)) P _ w1 ((hn.ext hu7).ext hu))
        have HB7 := Lib.hid hb7
        have hltI : (vn : Int) < ll := by omega
        have hj0 : (0 : Int) ≤ vn := by omega
        clear hrow hbk hn hx hu7 hb7 hbk7
        go_wp2_with fail
        simp only [← hW7]
        clear hW7
        have y5 := cell_of HBK.out 5
        simp only [List.getElem?_toArray, List.getElem?_cons_zero, List.getElem?_cons_succ] at y5
        obtain ⟨z0, z1, z2, z3, z4, z5⟩ := cells6 HB7.out
        have e0 : ∀ u : Ext W7, u.w.cell? ⟨w.heap.size, 5, none⟩ = some (.slice va vn vc) := fun u => u.cell y5
        have k0 : ∀ u : Ext W7, u.w.cell? ⟨wr.heap.size, 0, none⟩ = some _ := fun u => u.cell z0
        have k1 : ∀ u : Ext W7, u.w.cell? ⟨wr.heap.size, 1, none⟩ = some _ := fun u => u.cell z1
        have k2 : ∀ u : Ext W7, u.w.cell? ⟨wr.heap.size, 2, none⟩ = some _ := fun u => u.cell z2
        have k3 : ∀ u : Ext W7, u.w.cell? ⟨wr.heap.size, 3, none⟩ = some _ := fun u => u.cell z3
        have k4 : ∀ u : Ext W7, u.w.cell? ⟨wr.heap.size, 4, none⟩ = some _ := fun u => u.cell z4
        have k5 : ∀ u : Ext W7, u.w.cell? ⟨wr.heap.size, 5, none⟩ = some _ := fun u => u.cell z5
        clear y5 z0 z1 z2 z3 z4 z5 c0 c1' c2' c3 c4 c5
        refine wp_region_seg_at [3, 4] [] [0, 1, 2, 3, 4] [5, 6, 7] 5 (by kernel_rfl) (by kernel_rfl) (by kernel_rfl) ?_
        iterate 3 (refine seg_plain rfl rfl rfl rfl rfl ?_; intro K' hK'; go_big_quiet_op; go_big_quiet_on)
        refine seg_callO (Y := (Int × Option Addr × Nat × Nat) × Int × Int × Int × Option Addr × Nat × Nat) (fun y => .agg #[.int .i64 y.1.1, .slice y.1.2.1 y.1.2.2.1 y.1.2.2.2, .int .i64 y.2.1, .int .i64 y.2.2.1, .int .i64 y.2.2.2.1, .slice y.2.2.2.2.1 y.2.2.2.2.2.1 y.2.2.2.2.2.2]) (fun y u => NdV u (Nu W7 u) x (.agg #[.int .i64 y.1.1, .slice y.1.2.1 y.1.2.2.1 y.1.2.2.2, .int .i64 y.2.1, .int .i64 y.2.2.1, .int .i64 y.2.2.2.1, .slice y.2.2.2.2.1 y.2.2.2.2.2.1 y.2.2.2.2.2.2])) (fun _ => []) rfl rfl rfl rfl (fun _ _ _ h hu => h.nu hu) (fun _ => List.nodup_nil) (fun w => by go_simp) (fun w' hu hd => (HC.out w' hu).mono fun e w2 ⟨v, h1, h2, h3⟩ => by
          obtain ⟨ro, rn1, rn2, rn3, rs, rm, rq, rl1, rl2, rl3, rfl⟩ := h2.six
          exact ⟨((ro, rn1, rn2, rn3), rs, rm, rq, rl1, rl2, rl3), h1, h3, h2.mono (fun b hb _ => ⟨New.mono hu b hb.1, hb.2⟩), fun b hb => by cases hb⟩) ?_
        rintro ⟨⟨ro, rn1, rn2, rn3⟩, rs, rm, rq, rl1, rl2, rl3⟩
        simp only [Act.put, List.setIfInBounds_toArray, List.set_cons_zero, List.set_cons_succ]
        refine seg_opq (Y := Nat) (fun b => .slice (some ⟨b, 0, none⟩) 1 1) (fun b u => u.heap[b]? = some (.cells #[.int .i64 ro, .slice rn1 rn2 rn3, .int .i64 rs, .int .i64 rm, .int .i64 rq, .slice rl1 rl2 rl3] 30 (0, 0))) (fun _ => []) rfl rfl rfl rfl (fun _ _ _ h hu => hu.at h (by simp)) (fun _ => List.nodup_nil) (fun w' post hu hd hp => (congrArg (opqUpon Tryz.prog post) (show _ = Result.ok (Next.value (.slice (some ⟨w'.heap.size, 0, none⟩) 1 1)) (w'.alloc (.cells #[.int .i64 ro, .slice rn1 rn2 rn3, .int .i64 rs, .int .i64 rm, .int .i64 rq, .slice rl1 rl2 rl3] 30)) from by go_simp)).mpr (hp w'.heap.size _ ((Upto.refl [] w').alloc _) (new_at _ _) (fun b hb => by cases hb))) ?_
        intro b8
        simp only [Act.put, List.setIfInBounds_toArray, List.set_cons_zero, List.set_cons_succ]
        intro w10 hg
        have HU10 := Lib.hid hg.up
        have HB8 : Hid (w10.heap[b8]? = some (.cells #[.int .i64 ro, .slice rn1 rn2 rn3, .int .i64 rs, .int .i64 rm, .int .i64 rq, .slice rl1 rl2 rl3] 30 (0, 0))) := Lib.hid hg.hold.1
        have HND : Hid (NdV w10 (Nu W7 w10) x (.agg #[.int .i64 ro, .slice rn1 rn2 rn3, .int .i64 rs, .int .i64 rm, .int .i64 rq, .slice rl1 rl2 rl3])) := Lib.hid hg.hold.2.1
        simp only [List.drop_succ_cons, List.drop_zero]
        clear hg e0 k0 k1 k2 k3 k4 k5
        have HR10 := Lib.hid (HROW.out.upto HU10.out (by simp))
        have hr10 := HR10.out.row
        rw [hjl] at hr10
        have HRR := Lib.hid hr10
        obtain ⟨i1, hi1, hy0, hy1, hy2⟩ := info59'
        have hL7 := HLN.out
        have HA := Lib.hid (fun b5 c5 w5 (ho5 : w5.ownsRow 0 30 6 (.slice b5 (vn + 1) c5) (vn + 1) (cellsN c vn ++ [.int .i64 ro, .slice rn1 rn2 rn3, .int .i64 rs, .int .i64 rm, .int .i64 rq, .slice rl1 rl2 rl3])) (hu5 : Upto (Value.slice va vn vc).ownBlock.toList w10 w5) (hw5 : ∀ g, (Value.slice b5 (vn + 1) c5).ownBlock = some g → (Value.slice va vn vc).ownBlock = some g ∨ w10.heap.size ≤ g) => cl_step HI7.out ⟨Nat.le_refl _, by have := HLT.out.2; omega⟩ HBK.out HROW.out HU10.out HND.out HJL.out HTK.out ho5 hu5 hw5)
        clear hr10 hjl
        go_wp2_with (at_builtin
                     refine wpList_app _ rfl (.tmp 20) (.tmp 23) 28 rfl 30 i1 (.agg #[.int .i64 0, .slice none 0 0, .int .i64 0, .int .i64 0, .int .i64 0, .slice none 0 0]) 6 80 Tryz.underlying28 hi1 hy0 hy1 hy2 rfl (by decide) (.slice va vn vc) vn (cellsN c vn) rfl HRR.out ⟨b8, 0, none⟩ 1 1 [.int .i64 ro, .slice rn1 rn2 rn3, .int .i64 rs, .int .i64 rm, .int .i64 rq, .slice rl1 rl2 rl3] rfl rfl (six_at HB8.out) (by simp [Value.oneCell']) (by unfold maxLen; omega) (by omega) ?_
                     intro b5 c5 w5 ho5 hu5 hw5
                     obtain ⟨hbk5, hI5⟩ := HA.out b5 c5 w5 ho5 hu5 hw5
                     have y5 := cell_of hbk5 5
                     have g5 := free_of hbk5 5
                     simp only [List.getElem?_toArray, List.getElem?_cons_zero, List.getElem?_cons_succ] at y5
                     have HI5 := Lib.hid hI5
                     clear ho5 hu5 hw5 hbk5 hI5)
        go_roundw
        case rel => exact ⟨vn + 1, by omega, by go_num, HI5⟩
        case measure => simp [intOf]; omega
      · obtain rfl : vn = ll := by omega
        have hgeI : ¬ ((vn : Int) < vn) := by omega
        have HROW := Lib.hid hrow
        have hz2 := HI.out.up.at HC2.out (by simp)
        have HZ2 := Lib.hid hz2
        obtain ⟨p0, p1, p2, p3, p4, p5⟩ := cells6 hbk
        obtain ⟨r0, r1, r2, r3, r4, r5⟩ := cells6 hz2
        obtain ⟨t0, t1, t2, t3, t4, t5⟩ := frees6 hz2
        have hF := cl_end (names := names) HI.out ⟨rfl, HLT.out.2⟩ HSL.out HROW.out (List.take_of_length_le (by have := HLL.out; omega)) HLL.out
        have HF := Lib.hid hF
        clear hrow hbk hz2 hF
        go_wp2_with fail
        have hst := nd_store HZ2.out (.int .i64 op) (.slice na names.length nc) (.int .i64 so) (.int .i64 nn) (.int .i64 mm) (.slice va vn vc)
        obtain ⟨q0, q1, q2, q3, q4, q5⟩ := cells6 hst
        exact bodyPost_ret (v := .agg #[.int .i64 op, .slice na names.length nc, .int .i64 so, .int .i64 nn, .int .i64 mm, .slice va vn vc]) (by simp [results, Tryz.results42, go_sem, q0, q1, q2, q3, q4, q5]) rfl HF.out
end Go.Proofs.YtbnebkkpmcjmbaaGreatDoor

