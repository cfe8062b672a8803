/- The walk of LexerPositions. -/
import Derived.Test.YtkhbpebpljdifaaDoorLx
import Derived.Test.YtkhbpebpljdifaaDoorSeg
namespace Go.Proofs.YtkhbpebpljdifaaDoor
open Go.RowKit Go.PL Go.Maps

theorem lexT_S {s : List UInt8} (h : s.length ≤ 3000) : lexT s = lexS s 1 1 := by rw [lexT, if_neg (by omega)]
theorem drop_cons {α : Type} {l : List α} {i : Nat} {u : α} {us : List α} (h : l.drop i = u :: us) : l[i]? = some u ∧ l.drop (i + 1) = us ∧ i < l.length := by
  have hi : i < l.length := by
    rcases Nat.lt_or_ge i l.length with h1 | h1
    · exact h1
    · rw [List.drop_eq_nil_of_le h1] at h; cases h
  rw [List.drop_eq_getElem_cons hi] at h
  injection h with h1 h2
  exact ⟨by rw [List.getElem?_eq_getElem hi, h1], h2, hi⟩

set_option maxRecDepth 100000 in
set_option maxHeartbeats 12800000 in
theorem lexerPositions_walk (s : List UInt8) (hs : s.length ≤ maxLen) (w : World) (he : Env w) : Calls Tryd.prog 4 #[.string ⟨s.toArray⟩] w fun e w' => e = .returned (.bool true) ∧ Upto [] w w' := by
  have hsz : (ByteArray.mk s.toArray).size = s.length := rfl
  have hq : (s.take 3000).length ≤ 3000 := by rw [List.length_take]; omega
  have HK := Lib.hid knownL_calls
  unfold maxLen at hs
  have hx := cut3000 s
  have hI : (s.length : Int) ≤ 9223372036854775807 := by omega
  have hmin0 : (0 : Int) ≤ min (s.length : Int) 3000 := by omega
  have hmin1 : min (s.length : Int) 3000 ≤ s.length := by omega
  have h0 := Lib.hid he
  generalize s.take 3000 = q at *
  have hqs : (ByteArray.mk q.toArray).size = q.length := rfl
  cases hl : lexT q with
  | error lcn =>
    obtain ⟨l, c, n⟩ := lcn
    have HT := Lib.hid (tok_err hl (by omega) l c n rfl rfl rfl)
    have hn : ((n : Int) == 0) = false := by
      rw [beq_eq_false_iff_ne]
      rcases lexT_err hl with h | h <;> omega
    have hn2 : ((n : Int) != 0) = true := by rw [bne, hn]; rfl
    clear hl he
    go_enter Tryd.func4, Tryd.ntmps4
    go_wp2_with fail
    try rw [hx]
    refine (HT.out _ h0.out).mono ?_
    rintro e w1 ⟨rfl, hu1⟩
    have hu2 := hu1.alloc (.cells #[.int .i64 l, .int .i64 c] 24)
    clear hu1
    go_wp2_with fail
    refine (HK.out _ (h0.out.ext hu2)).mono ?_
    rintro e w3 ⟨rfl, hu3⟩
    go_wp2_with fail
    go_ret
    exact ⟨rfl, hu2.trans_ext hu3⟩
  | ok ts =>
    have HT := Lib.hid (tok_ok hl (by omega))
    have hshort := lexT_short hl
    rw [lexT_S hq] at hl
    obtain ⟨ts', lz, cz, hts, hreal, -, -⟩ := lexS_real q 1 1 ts hl
    have hlz : ts.length = ts'.length + 1 := by rw [hts]; simp
    have hlast : ts[ts'.length]? = some ⟨0, [], 0, lz, cz⟩ := by rw [hts]; simp
    have HL := Lib.hid hl
    have HLAST := Lib.hid hlast
    clear hl he hts hreal hlast
    go_enter Tryd.func4, Tryd.ntmps4
    go_wp2_with fail
    try rw [hx]
    refine (HT.out _ h0.out).mono ?_
    rintro e w1 ⟨v, rfl, hv, hu1⟩
    have hu2 := hu1.alloc (.cells #[.int .i64 0, .int .i64 0] 24)
    have hv2 := hv.ext ((Upto.refl [] w1).alloc (.cells #[.int .i64 0, .int .i64 0] 24))
    clear hu1 hv
    rcases hv2.at with ⟨h1, _⟩ | ⟨g, o, vc, rfl, hat⟩
    · rw [h1] at hlz
      simp at hlz
    have HAT := Lib.hid hat
    clear hat hv2
    go_wp2_with fail
    generalize w1.alloc (.cells #[.int .i64 0, .int .i64 0] 24) = W2 at *
    generalize hnn : ts.length = n at *
    have hn1 : (n : Int) ≤ 3001 := by omega
    have hq1 : (q.length : Int) ≤ 3000 := by omega
    go_loopw [6, 7, 8, 9] (fun t6 t7 t8 t9 wr => ∃ p L C i : Nat, p ≤ q.length ∧ i ≤ n ∧ L ≤ p + 1 ∧ C ≤ p + 1 ∧ t6 = .int .i64 p ∧ t7 = .int .i64 L ∧ t8 = .int .i64 C ∧ t9 = .int .i64 i ∧ Hid (i < n → lexS (q.drop p) L C = .ok (ts.drop i)) ∧ Hid (i = n → p = q.length) ∧ Upto [] W2 wr) (fun _ _ _ t9 _ => n - (intOf t9).toNat)
    case atStart => exact ⟨0, 1, 1, 0, by omega, by omega, by omega, by omega, rfl, rfl, rfl, rfl, Lib.hid (fun _ => HL.out), Lib.hid (fun h => by omega), Upto.refl _ _⟩
    case round =>
      obtain ⟨p, L, C, i, hp, hi, hLp, hCp, rfl, rfl, rfl, rfl, HX, HZ, hup⟩ := hrel
      rcases Nat.lt_or_ge i n with hlt | hge
      · have hlt' : (i : Int) < n := by omega
        have hi0 : (0 : Int) ≤ i := by omega
        have HX1 := Lib.hid (HX.out hlt)
        clear HX HZ
        go_upto_block 2 with fail
        go_wp2_with fail
        go_loopw [6, 7, 8] (fun t6 t7 t8 wx => ∃ p L C : Nat, p ≤ q.length ∧ L ≤ p + 1 ∧ C ≤ p + 1 ∧ t6 = .int .i64 p ∧ t7 = .int .i64 L ∧ t8 = .int .i64 C ∧ Hid (lexS (q.drop p) L C = .ok (ts.drop i)) ∧ wx = wr) (fun t6 _ _ _ => q.length - (intOf t6).toNat)
        case atStart => exact ⟨p, L, C, hp, hLp, hCp, rfl, rfl, rfl, HX1, rfl⟩
        case round =>
          clear HX1 hp hLp hCp
          obtain ⟨p, L, C, hp, hLp, hCp, rfl, rfl, rfl, HX1, hwx⟩ := hrel
          have hwx' := hwx.symm
          subst hwx'
          have hp0 : (0 : Int) ≤ p := by omega
          have hp1 : (p : Int) ≤ 3000 := by omega
          have hL0 : (0 : Int) ≤ L := by omega
          have hL1 : (L : Int) ≤ 3001 := by omega
          have hC0 : (0 : Int) ≤ C := by omega
          have hC1 : (C : Int) ≤ 3001 := by omega
          rcases Nat.lt_or_ge p q.length with hlp | hgp
          · obtain ⟨b, hb⟩ : ∃ b, q[p]? = some b := ⟨q[p], List.getElem?_eq_getElem hlp⟩
            have hbt := str_at hb
            have hd := Lib.hid (drop_at hb)
            have hlp' : (p : Int) < q.length := by omega
            clear hb
            cases hbl : lxBlank b with
            | true =>
              have HBL := Lib.hid hbl
              have hcase : b.toNat = 10 ∨ (b.toNat = 9 ∨ b.toNat = 13 ∨ b.toNat = 32) := by
                simp only [lxBlank, Bool.or_eq_true, decide_eq_true_eq] at hbl
                omega
              clear hbl
              rcases hcase with h10 | hcase
              · have H10 := Lib.hid h10
                have t9 : ((b.toNat : Int) == 9) = false := by rw [beq_eq_false_iff_ne]; omega
                have t10 : ((b.toNat : Int) == 10) = true := by simp [h10]
                clear h10
                go_wp2_with fail
                go_roundw
                case rel => exact ⟨p + 1, L + 1, 1, by omega, by omega, by omega, by go_num, by go_num, rfl, Lib.hid (by rw [← HX1.out, hd.out, lexS_line H10.out]), trivial⟩
                case measure => simp [intOf]; omega
              · have H10 := Lib.hid (show b.toNat ≠ 10 by omega)
                have t10 : ((b.toNat : Int) == 10) = false := by rw [beq_eq_false_iff_ne]; omega
                rcases hcase with h | h | h
                · have t9 : ((b.toNat : Int) == 9) = true := by simp [h]
                  clear h
                  go_wp2_with fail
                  go_roundw
                  case rel => exact ⟨p + 1, L, C + 1, by omega, by omega, by omega, by go_num, rfl, by go_num, Lib.hid (by rw [← HX1.out, hd.out, lexS_blank HBL.out H10.out]), trivial⟩
                  case measure => simp [intOf]; omega
                · have t9 : ((b.toNat : Int) == 9) = false := by rw [beq_eq_false_iff_ne]; omega
                  have t13 : ((b.toNat : Int) == 13) = true := by simp [h]
                  clear h
                  go_wp2_with fail
                  go_roundw
                  case rel => exact ⟨p + 1, L, C + 1, by omega, by omega, by omega, by go_num, rfl, by go_num, Lib.hid (by rw [← HX1.out, hd.out, lexS_blank HBL.out H10.out]), trivial⟩
                  case measure => simp [intOf]; omega
                · have t9 : ((b.toNat : Int) == 9) = false := by rw [beq_eq_false_iff_ne]; omega
                  have t13 : ((b.toNat : Int) == 13) = false := by rw [beq_eq_false_iff_ne]; omega
                  have t32 : ((b.toNat : Int) == 32) = true := by simp [h]
                  clear h
                  go_wp2_with fail
                  go_roundw
                  case rel => exact ⟨p + 1, L, C + 1, by omega, by omega, by omega, by go_num, rfl, by go_num, Lib.hid (by rw [← HX1.out, hd.out, lexS_blank HBL.out H10.out]), trivial⟩
                  case measure => simp [intOf]; omega
            | false =>
              have hnb : ∀ x t, q.drop p = x :: t → lxBlank x = false := fun x t h => by
                rw [hd.out] at h
                cases h
                exact hbl
              have hfour : b.toNat ≠ 9 ∧ b.toNat ≠ 10 ∧ b.toNat ≠ 13 ∧ b.toNat ≠ 32 := by
                simp only [lxBlank, Bool.or_eq_false_iff, decide_eq_false_iff_not] at hbl
                omega
              obtain ⟨n9, n10, n13, n32⟩ := hfour
              have t9 : ((b.toNat : Int) == 9) = false := by rw [beq_eq_false_iff_ne]; omega
              have t10 : ((b.toNat : Int) == 10) = false := by rw [beq_eq_false_iff_ne]; omega
              have t13 : ((b.toNat : Int) == 13) = false := by rw [beq_eq_false_iff_ne]; omega
              have t32 : ((b.toNat : Int) == 32) = false := by rw [beq_eq_false_iff_ne]; omega
              clear n9 n10 n13 n32 hbl
              obtain ⟨u, us, r, hdr, huL, huC, hsp, hend⟩ := lexS_head hnb HX1.out
              obtain ⟨hti, hds, -⟩ := drop_cons hdr
              have hlen : p + u.text.length + r.length = q.length := by
                have := congrArg List.length hsp
                simp only [List.length_drop, List.length_append] at this
                omega
              have hqr : q.drop (p + u.text.length) = r := by
                rw [← List.drop_drop, hsp, List.drop_left]
              have hxt : (ByteArray.mk q.toArray).extract p (p + u.text.length) = ⟨u.text.toArray⟩ := by
                rw [ext_to, hsp, List.take_left]
              obtain ⟨-, c1, -, c3, c4⟩ := (HAT.out.ext hup) _ _ hti
              rw [huL] at c3
              rw [huC] at c4
              have hul : (ByteArray.mk u.text.toArray).size = u.text.length := rfl
              have hpl : (p : Int) + u.text.length ≤ q.length := by omega
              have hul0 : (0 : Int) ≤ u.text.length := by omega
              have hpl2 : decide ((q.length : Int) < (p : Int) + u.text.length) = false := by rw [decide_eq_false_iff_not]; omega
              have HEND := Lib.hid hend
              have HDS := Lib.hid hds
              have HQR := Lib.hid hqr
              have HUP := Lib.hid hup
              simp only [bs] at c1
              clear hnb hdr huL huC hsp hend hti hds hqr hup
              go_upto_region 15 with fail
              have e1 : ∀ u9 : Ext wr, u9.w.cell? ⟨g, o + i * 5 + 1, none⟩ = some (.string ⟨u.text.toArray⟩) := fun u9 => u9.cell c1
              have e3 : ∀ u9 : Ext wr, u9.w.cell? ⟨g, o + i * 5 + 3, none⟩ = some (.int .i64 L) := fun u9 => u9.cell c3
              have e4 : ∀ u9 : Ext wr, u9.w.cell? ⟨g, o + i * 5 + 3 + 1, none⟩ = some (.int .i64 C) := fun u9 => u9.cell c4
              have e5 : ∀ u9 : Ext wr, u9.w.cell? ⟨g, o + i * 5 + 4, none⟩ = some (.int .i64 C) := fun u9 => u9.cell c4
              clear c1 c3 c4
              generalize u.text.length = m at *
              refine wp_region_seg_all [23] [] (List.range 40) (by kernel_rfl) (by kernel_rfl) ?_
              rw [show List.range 40 = [0, 1, 2, 3, 4, 5, 6, 7, 8, 9, 10, 11, 12, 13, 14, 15, 16, 17, 18, 19, 20, 21, 22, 23, 24, 25, 26, 27, 28, 29, 30, 31, 32, 33, 34, 35, 36, 37, 38, 39] from rfl]
              refine seg_plain rfl rfl rfl rfl rfl ?_
              intro K' hK'
              go_big_quiet_op
              go_big_quiet_on
              refine seg_plain rfl rfl rfl rfl rfl ?_
              intro K' hK'
              go_big_quiet_op
              go_big_quiet_on
              refine seg_plain rfl rfl rfl rfl rfl ?_
              intro K' hK'
              go_big_quiet_op
              go_big_quiet_on
              refine seg_plain rfl rfl rfl rfl rfl ?_
              intro K' hK'
              go_big_quiet_op
              go_big_quiet_on
              refine seg_plain rfl rfl rfl rfl rfl ?_
              intro K' hK'
              go_big_quiet_op
              go_big_quiet_on
              refine seg_plain rfl rfl rfl rfl rfl ?_
              intro K' hK'
              go_big_quiet_op
              go_big_quiet_on
              refine seg_plain rfl rfl rfl rfl rfl ?_
              intro K' hK'
              go_big_quiet_op
              go_big_quiet_on
              refine seg_plain rfl rfl rfl rfl rfl ?_
              intro K' hK'
              go_big_quiet_op
              go_big_quiet_on
              refine seg_plain rfl rfl rfl rfl rfl ?_
              intro K' hK'
              go_big_quiet_op
              go_big_quiet_on
              refine seg_plain rfl rfl rfl rfl rfl ?_
              intro K' hK'
              go_big_quiet_op
              go_big_quiet_on
              refine seg_plain rfl rfl rfl rfl rfl ?_
              intro K' hK'
              go_big_quiet_op
              go_big_quiet_on
              refine seg_plain rfl rfl rfl rfl rfl ?_
              intro K' hK'
              go_big_quiet_op
              go_big_quiet_on
              refine seg_plain rfl rfl rfl rfl rfl ?_
              intro K' hK'
              go_big_quiet_op
              go_big_quiet_on
              refine seg_plain rfl rfl rfl rfl rfl ?_
              intro K' hK'
              go_big_quiet_op
              go_big_quiet_on
              refine seg_plain rfl rfl rfl rfl rfl ?_
              intro K' hK'
              go_big_quiet_op
              go_big_quiet_on
              refine seg_plain rfl rfl rfl rfl rfl ?_
              intro K' hK'
              go_big_quiet_op
              go_big_quiet_on
              refine seg_plain rfl rfl rfl rfl rfl ?_
              intro K' hK'
              go_big_quiet_op
              go_big_quiet_on
              refine seg_plain rfl rfl rfl rfl rfl ?_
              intro K' hK'
              go_big_quiet_op
              go_big_quiet_on
              refine seg_plain rfl rfl rfl rfl rfl ?_
              intro K' hK'
              go_big_quiet_op
              go_big_quiet_on
              refine seg_plain rfl rfl rfl rfl rfl ?_
              intro K' hK'
              go_big_quiet_op
              go_big_quiet_on
              refine seg_plain rfl rfl rfl rfl rfl ?_
              intro K' hK'
              go_big_quiet_op
              go_big_quiet_on
              refine seg_plain rfl rfl rfl rfl rfl ?_
              intro K' hK'
              go_big_quiet_op
              go_big_quiet_on
              refine seg_plain rfl rfl rfl rfl rfl ?_
              intro K' hK'
              go_big_quiet_op
              go_big_quiet_on
              refine seg_val (.int .i64 q.length) rfl rfl rfl rfl (fun w9 post9 hu9 hd9 hp9 => by have h9 := hp9 w9 (Upto.refl _ _); go_simp; exact h9) ?_
              simp only [Act.put, List.setIfInBounds_toArray, List.set_cons_zero, List.set_cons_succ]
              refine seg_plain rfl rfl rfl rfl rfl ?_
              intro K' hK'
              go_big_quiet_op
              go_big_quiet_on
              refine seg_plain rfl rfl rfl rfl rfl ?_
              intro K' hK'
              go_big_quiet_op
              go_big_quiet_on
              refine seg_plain rfl rfl rfl rfl rfl ?_
              intro K' hK'
              go_big_quiet_op
              go_big_quiet_on
              refine seg_plain rfl rfl rfl rfl rfl ?_
              intro K' hK'
              go_big_quiet_op
              go_big_quiet_on
              refine seg_plain rfl rfl rfl rfl rfl ?_
              intro K' hK'
              go_big_quiet_op
              go_big_quiet_on
              refine seg_plain rfl rfl rfl rfl rfl ?_
              intro K' hK'
              go_big_quiet_op
              go_big_quiet_on
              refine seg_plain rfl rfl rfl rfl rfl ?_
              intro K' hK'
              go_big_quiet_op
              go_big_quiet_on
              refine seg_plain rfl rfl rfl rfl rfl ?_
              intro K' hK'
              go_big_quiet_op
              go_big_quiet_on
              refine seg_plain rfl rfl rfl rfl rfl ?_
              intro K' hK'
              go_big_quiet_op
              go_big_quiet_on
              refine seg_plain rfl rfl rfl rfl rfl ?_
              intro K' hK'
              go_big_quiet_op
              go_big_quiet_on
              refine seg_plain rfl rfl rfl rfl rfl ?_
              intro K' hK'
              go_big_quiet_op
              go_big_quiet_on
              refine seg_plain rfl rfl rfl rfl rfl ?_
              intro K' hK'
              go_big_quiet_op
              go_big_quiet_on
              refine seg_plain rfl rfl rfl rfl rfl ?_
              intro K' hK'
              go_big_quiet_op
              go_big_quiet_on
              refine seg_plain rfl rfl rfl rfl rfl ?_
              intro K' hK'
              go_big_quiet_op
              go_big_quiet_on
              refine seg_plain rfl rfl rfl rfl rfl ?_
              intro K' hK'
              go_big_quiet_op
              go_big_quiet_on
              refine seg_plain rfl rfl rfl rfl rfl ?_
              intro K' hK'
              go_big_quiet_op
              go_big_quiet_on
              intro w9 hg
              have hv := HUP.out.trans_ext hg.up
              clear hg e1 e3 e4 e5
              go_wp2_with fail
              go_roundw
              case rel =>
                refine ⟨p + m, L, C + m, i + 1, by omega, by omega, by omega, by omega, by go_num, rfl, by go_num, by go_num, Lib.hid (fun h => ?_), Lib.hid (fun h => ?_), hv⟩
                · rcases HEND.out with ⟨h1, h2, h3⟩ | ⟨h1, h2⟩
                  · have := congrArg List.length HDS.out
                    rw [h1, List.length_drop, hnn] at this
                    simp at this
                    omega
                  · rw [HDS.out, HQR.out]
                    exact h2
                · rcases HEND.out with ⟨h1, h2, h3⟩ | ⟨h1, h2⟩
                  · rw [h2] at hlen
                    simp at hlen
                    omega
                  · have := congrArg List.length HDS.out
                    rw [List.length_drop, hnn] at this
                    exact absurd (List.eq_nil_of_length_eq_zero (by omega)) h1
              case measure => simp [intOf]; omega
          · have hgp' : ¬ (p : Int) < q.length := by omega
            have hnb : ∀ x t, q.drop p = x :: t → lxBlank x = false := fun x t h => by
              rw [List.drop_eq_nil_of_le hgp] at h
              cases h
            obtain ⟨u, us, r, hdr, huL, huC, hsp, hend⟩ := lexS_head hnb HX1.out
            obtain ⟨hti, hds, -⟩ := drop_cons hdr
            have hlen : p + u.text.length + r.length = q.length := by
              have := congrArg List.length hsp
              simp only [List.length_drop, List.length_append] at this
              omega
            have hqr : q.drop (p + u.text.length) = r := by
              rw [← List.drop_drop, hsp, List.drop_left]
            have hxt : (ByteArray.mk q.toArray).extract p (p + u.text.length) = ⟨u.text.toArray⟩ := by
              rw [ext_to, hsp, List.take_left]
            obtain ⟨-, c1, -, c3, c4⟩ := (HAT.out.ext hup) _ _ hti
            rw [huL] at c3
            rw [huC] at c4
            have hul : (ByteArray.mk u.text.toArray).size = u.text.length := rfl
            have hpl : (p : Int) + u.text.length ≤ q.length := by omega
            have hul0 : (0 : Int) ≤ u.text.length := by omega
            have hpl2 : decide ((q.length : Int) < (p : Int) + u.text.length) = false := by rw [decide_eq_false_iff_not]; omega
            have HEND := Lib.hid hend
            have HDS := Lib.hid hds
            have HQR := Lib.hid hqr
            have HUP := Lib.hid hup
            simp only [bs] at c1
            clear hnb hdr huL huC hsp hend hti hds hqr hup
            go_upto_region 15 with fail
            have e1 : ∀ u9 : Ext wr, u9.w.cell? ⟨g, o + i * 5 + 1, none⟩ = some (.string ⟨u.text.toArray⟩) := fun u9 => u9.cell c1
            have e3 : ∀ u9 : Ext wr, u9.w.cell? ⟨g, o + i * 5 + 3, none⟩ = some (.int .i64 L) := fun u9 => u9.cell c3
            have e4 : ∀ u9 : Ext wr, u9.w.cell? ⟨g, o + i * 5 + 3 + 1, none⟩ = some (.int .i64 C) := fun u9 => u9.cell c4
            have e5 : ∀ u9 : Ext wr, u9.w.cell? ⟨g, o + i * 5 + 4, none⟩ = some (.int .i64 C) := fun u9 => u9.cell c4
            clear c1 c3 c4
            generalize u.text.length = m at *
            refine wp_region_seg_all [23] [] (List.range 40) (by kernel_rfl) (by kernel_rfl) ?_
            rw [show List.range 40 = [0, 1, 2, 3, 4, 5, 6, 7, 8, 9, 10, 11, 12, 13, 14, 15, 16, 17, 18, 19, 20, 21, 22, 23, 24, 25, 26, 27, 28, 29, 30, 31, 32, 33, 34, 35, 36, 37, 38, 39] from rfl]
            refine seg_plain rfl rfl rfl rfl rfl ?_
            intro K' hK'
            go_big_quiet_op
            go_big_quiet_on
            refine seg_plain rfl rfl rfl rfl rfl ?_
            intro K' hK'
            go_big_quiet_op
            go_big_quiet_on
            refine seg_plain rfl rfl rfl rfl rfl ?_
            intro K' hK'
            go_big_quiet_op
            go_big_quiet_on
            refine seg_plain rfl rfl rfl rfl rfl ?_
            intro K' hK'
            go_big_quiet_op
            go_big_quiet_on
            refine seg_plain rfl rfl rfl rfl rfl ?_
            intro K' hK'
            go_big_quiet_op
            go_big_quiet_on
            refine seg_plain rfl rfl rfl rfl rfl ?_
            intro K' hK'
            go_big_quiet_op
            go_big_quiet_on
            refine seg_plain rfl rfl rfl rfl rfl ?_
            intro K' hK'
            go_big_quiet_op
            go_big_quiet_on
            refine seg_plain rfl rfl rfl rfl rfl ?_
            intro K' hK'
            go_big_quiet_op
            go_big_quiet_on
            refine seg_plain rfl rfl rfl rfl rfl ?_
            intro K' hK'
            go_big_quiet_op
            go_big_quiet_on
            refine seg_plain rfl rfl rfl rfl rfl ?_
            intro K' hK'
            go_big_quiet_op
            go_big_quiet_on
            refine seg_plain rfl rfl rfl rfl rfl ?_
            intro K' hK'
            go_big_quiet_op
            go_big_quiet_on
            refine seg_plain rfl rfl rfl rfl rfl ?_
            intro K' hK'
            go_big_quiet_op
            go_big_quiet_on
            refine seg_plain rfl rfl rfl rfl rfl ?_
            intro K' hK'
            go_big_quiet_op
            go_big_quiet_on
            refine seg_plain rfl rfl rfl rfl rfl ?_
            intro K' hK'
            go_big_quiet_op
            go_big_quiet_on
            refine seg_plain rfl rfl rfl rfl rfl ?_
            intro K' hK'
            go_big_quiet_op
            go_big_quiet_on
            refine seg_plain rfl rfl rfl rfl rfl ?_
            intro K' hK'
            go_big_quiet_op
            go_big_quiet_on
            refine seg_plain rfl rfl rfl rfl rfl ?_
            intro K' hK'
            go_big_quiet_op
            go_big_quiet_on
            refine seg_plain rfl rfl rfl rfl rfl ?_
            intro K' hK'
            go_big_quiet_op
            go_big_quiet_on
            refine seg_plain rfl rfl rfl rfl rfl ?_
            intro K' hK'
            go_big_quiet_op
            go_big_quiet_on
            refine seg_plain rfl rfl rfl rfl rfl ?_
            intro K' hK'
            go_big_quiet_op
            go_big_quiet_on
            refine seg_plain rfl rfl rfl rfl rfl ?_
            intro K' hK'
            go_big_quiet_op
            go_big_quiet_on
            refine seg_plain rfl rfl rfl rfl rfl ?_
            intro K' hK'
            go_big_quiet_op
            go_big_quiet_on
            refine seg_plain rfl rfl rfl rfl rfl ?_
            intro K' hK'
            go_big_quiet_op
            go_big_quiet_on
            refine seg_val (.int .i64 q.length) rfl rfl rfl rfl (fun w9 post9 hu9 hd9 hp9 => by have h9 := hp9 w9 (Upto.refl _ _); go_simp; exact h9) ?_
            simp only [Act.put, List.setIfInBounds_toArray, List.set_cons_zero, List.set_cons_succ]
            refine seg_plain rfl rfl rfl rfl rfl ?_
            intro K' hK'
            go_big_quiet_op
            go_big_quiet_on
            refine seg_plain rfl rfl rfl rfl rfl ?_
            intro K' hK'
            go_big_quiet_op
            go_big_quiet_on
            refine seg_plain rfl rfl rfl rfl rfl ?_
            intro K' hK'
            go_big_quiet_op
            go_big_quiet_on
            refine seg_plain rfl rfl rfl rfl rfl ?_
            intro K' hK'
            go_big_quiet_op
            go_big_quiet_on
            refine seg_plain rfl rfl rfl rfl rfl ?_
            intro K' hK'
            go_big_quiet_op
            go_big_quiet_on
            refine seg_plain rfl rfl rfl rfl rfl ?_
            intro K' hK'
            go_big_quiet_op
            go_big_quiet_on
            refine seg_plain rfl rfl rfl rfl rfl ?_
            intro K' hK'
            go_big_quiet_op
            go_big_quiet_on
            refine seg_plain rfl rfl rfl rfl rfl ?_
            intro K' hK'
            go_big_quiet_op
            go_big_quiet_on
            refine seg_plain rfl rfl rfl rfl rfl ?_
            intro K' hK'
            go_big_quiet_op
            go_big_quiet_on
            refine seg_plain rfl rfl rfl rfl rfl ?_
            intro K' hK'
            go_big_quiet_op
            go_big_quiet_on
            refine seg_plain rfl rfl rfl rfl rfl ?_
            intro K' hK'
            go_big_quiet_op
            go_big_quiet_on
            refine seg_plain rfl rfl rfl rfl rfl ?_
            intro K' hK'
            go_big_quiet_op
            go_big_quiet_on
            refine seg_plain rfl rfl rfl rfl rfl ?_
            intro K' hK'
            go_big_quiet_op
            go_big_quiet_on
            refine seg_plain rfl rfl rfl rfl rfl ?_
            intro K' hK'
            go_big_quiet_op
            go_big_quiet_on
            refine seg_plain rfl rfl rfl rfl rfl ?_
            intro K' hK'
            go_big_quiet_op
            go_big_quiet_on
            refine seg_plain rfl rfl rfl rfl rfl ?_
            intro K' hK'
            go_big_quiet_op
            go_big_quiet_on
            intro w9 hg
            have hv := HUP.out.trans_ext hg.up
            clear hg e1 e3 e4 e5
            go_wp2_with fail
            go_roundw
            case rel =>
              refine ⟨p + m, L, C + m, i + 1, by omega, by omega, by omega, by omega, by go_num, rfl, by go_num, by go_num, Lib.hid (fun h => ?_), Lib.hid (fun h => ?_), hv⟩
              · rcases HEND.out with ⟨h1, h2, h3⟩ | ⟨h1, h2⟩
                · have := congrArg List.length HDS.out
                  rw [h1, List.length_drop, hnn] at this
                  simp at this
                  omega
                · rw [HDS.out, HQR.out]
                  exact h2
              · rcases HEND.out with ⟨h1, h2, h3⟩ | ⟨h1, h2⟩
                · rw [h2] at hlen
                  simp at hlen
                  omega
                · have := congrArg List.length HDS.out
                  rw [List.length_drop, hnn] at this
                  exact absurd (List.eq_nil_of_length_eq_zero (by omega)) h1
            case measure => simp [intOf]; omega
      · have hge' : ¬ (i : Int) < n := by omega
        have hpq := HZ.out (by omega)
        subst hpq
        obtain ⟨c0, -, -, -, -⟩ := (HAT.out.ext hup) _ _ HLAST.out
        have hil : Hid (i = n) := Lib.hid (by omega)
        have hu3 := hu2.trans_ext hup
        have hn0 : (0 : Int) < n := by omega
        clear HX HZ
        go_wp2_with fail
        refine (HK.out _ (h0.out.ext hu3)).mono ?_
        rintro e w4 ⟨rfl, hu4⟩
        have c4 := (hu4.cell (p := ⟨g, o + ts'.length * 5, none⟩) (World.block_lt_of_cell? wr _ c0) (by simp)).trans c0
        have hu5 := hu3.trans_ext hu4
        have hnt : (n : Int) - 1 = (ts'.length : Nat) := by omega
        clear c0 hu3 hu4 hup
        go_wp2_with fail
        go_ret
        exact ⟨rfl, hu5⟩
end Go.Proofs.YtkhbpebpljdifaaDoor
