/- Texts merged, in build order: Ug. -/
import Derived.Test.YtbnebkkpmcjmbaaGreatDoorMRng
namespace Go.Proofs.YtbnebkkpmcjmbaaGreatDoor
open Go.RowKit Go.PL Go.Maps
theorem contains_next {out : List (List UInt8)} {q : Nat} {y : List UInt8} (h : out[q]? = some y) (S : List UInt8) : (out.take (q + 1)).contains S = ((out.take q).contains S || (y == S)) := by
  rw [take_app1 out q y h]
  by_cases h1 : S ∈ out.take q
  · simp [h1]
  · by_cases h2 : y = S
    · simp [h2]
    · have h3 : ¬ S = y := fun e => h2 e.symm
      simp [h1, h2, h3]
theorem fold_next {f : List UInt8 → List UInt8} {L : List (List UInt8)} {i : Nat} {x : List UInt8} (h : L[i]? = some x) : ((L.take (i + 1)).map f).foldl plusF [] = plusF (((L.take i).map f).foldl plusF []) (f x) := by
  rw [take_app1 L i x h, List.map_append, List.foldl_append]
  rfl
theorem fold_few (f : List UInt8 → List UInt8) (L : List (List UInt8)) (i : Nat) : (((L.take i).map f).foldl plusF []).length ≤ L.length := by
  have h1 := fold_len ((L.take i).map f) []
  have h2 : (L.take i).length ≤ L.length := by rw [List.length_take]; omega
  simp only [List.length_map, List.length_nil] at h1
  omega
theorem TxI.zero (w : World) : TxI w [] (.slice none 0 0) w := ⟨World.ownsRow_nil _ 0 9 1, fun g hg => by simp [Value.ownBlock] at hg, Upto.refl _ _⟩
set_option maxRecDepth 100000 in
set_option maxHeartbeats 12800000 in
theorem scopeNoCapture_walk (nd : Nd) (v : Value) (fr ta : List UInt8) (w : World) (hq : ArgN w nd v) (hfr : fr.length ≤ 281474976710656) (hta : ta.length ≤ 281474976710656) (hE : Env w ∧ SEnv w ∧ FEnv w) (hpw : PowT w) : Calls Tryz.prog 5 #[v, .string ⟨fr.toArray⟩, .string ⟨ta.toArray⟩] w fun e w' => e = .returned (.bool true) ∧ Upto [] w w' := by
  obtain ⟨h, hsz, hin⟩ := hq
  obtain ⟨op, a1, n1, c1, so, nn, mm, a2, n2, c2, rfl⟩ := h.six
  obtain ⟨W, hW⟩ : ∃ W, W = w.alloc (.cells #[.int .i64 op, .slice a1 n1 c1, .int .i64 so, .int .i64 nn, .int .i64 mm, .slice a2 n2 c2] 25) := ⟨_, rfl⟩
  have HU1 : Hid (Upto [] w W) := Lib.hid (by rw [hW]; exact (Upto.refl [] w).alloc _)
  have HB1 : Hid (W.heap[w.heap.size]? = some (.cells #[.int .i64 op, .slice a1 n1 c1, .int .i64 so, .int .i64 nn, .int .i64 mm, .slice a2 n2 c2] 25 (0, 0))) := Lib.hid (by rw [hW]; exact new_at w _)
  have HEN := Lib.hid (And.intro hE.1 (And.intro hE.2.2 hpw))
  have HKN := Lib.hid (fun u (hu : Upto [] w u) => known12_calls u ⟨hE.1.ext hu, hE.2.1.upto hu (by simp), hE.2.2.ext hu⟩)
  have HSH := Lib.hid (fun u (hu : Upto [] w u) => short_calls nd _ u _ (h.ext hu) (by omega))
  have HCK := Lib.hid (fun u (hu : Upto [] w u) => checkR_calls nd _ u _ (h.ext hu) (by omega) (inN.mono (by omega) _ hin))
  have HOF := Lib.hid (fun u (hu : Upto [] w u) => of_calls 10000000 nd (by omega) (by omega) (inN.big (M := 1048576) (by omega) _ hin) _ _ u (h.ext hu))
  have HND := Lib.hid (fun u (hu : Upto [] w u) => h.ext hu)
  have HI1 := Lib.hid (fun u (_ : Upto [] w u) => isName_calls fr u hfr)
  have HI2 := Lib.hid (fun u (_ : Upto [] w u) => isName_calls ta u hta)
  have HIN : Hid (inN 10000000 nd ∧ hugeN nd) := Lib.hid ⟨inN.mono (by omega) _ hin, huge_of nd (by omega) (inN.big (M := 1048576) (by omega) _ hin)⟩
  have HSS : Hid ((decide (sizeF nd ≤ 60) && decide (depthF nd ≤ 20)) = true → sizeF nd ≤ 60) := Lib.hid (fun hb => by simp at hb; exact hb.1)
  generalize hS : (decide (sizeF nd ≤ 60) && decide (depthF nd ≤ 20)) = S at *
  obtain ⟨C, hC⟩ : ∃ C, C = checkF nameF nd := ⟨_, rfl⟩
  have HCE := Lib.hid hC
  rw [← hC] at HCK
  obtain ⟨x0, x1, x2, x3, x4, x5⟩ := cells6 HB1.out
  clear h hsz hin hE hpw hS hC
  go_enter Tryz.func5, Tryz.ntmps5
  go_wp2_with fail
  simp only [← hW]
  clear hW
  try go_wp2_with fail
  refine (HKN.out _ HU1.out).mono ?_
  rintro e w2 ⟨rfl, hu2⟩
  have HU2 := Lib.hid (HU1.out.trans_ext hu2)
  have HB2 := Lib.hid (hu2.at HB1.out (by simp))
  clear hu2 x0 x1 x2 x3 x4 x5
  obtain ⟨x0, x1, x2, x3, x4, x5⟩ := cells6 HB2.out
  go_wp2_with fail
  refine (HSH.out _ HU2.out).mono ?_
  rintro e w3 ⟨rfl, hu3⟩
  have HU3 := Lib.hid (HU2.out.trans_ext hu3)
  have HB3 := Lib.hid (hu3.at HB2.out (by simp))
  clear hu3 x0 x1 x2 x3 x4 x5
  obtain ⟨x0, x1, x2, x3, x4, x5⟩ := cells6 HB3.out
  cases S with
  | false =>
    go_wp2_with fail
    go_ret
    exact ⟨rfl, HU3.out⟩
  | true =>
    have HS60 := Lib.hid (HSS.out rfl)
    go_wp2_with fail
    refine (HCK.out _ HU3.out).mono ?_
    rintro e w4 ⟨rfl, hu4⟩
    have HU4 := Lib.hid (HU3.out.trans_ext hu4)
    have HB4 := Lib.hid (hu4.at HB3.out (by simp))
    clear hu4 x0 x1 x2 x3 x4 x5
    obtain ⟨x0, x1, x2, x3, x4, x5⟩ := cells6 HB4.out
    by_cases hc0 : ¬ C = 0
    · have hci : ¬ (C : Int) = 0 := by omega
      have hb1 : ((C : Int) == 0) = false := by simpa using hc0
      have hb2 : ((C : Int) != 0) = true := by simpa using hc0
      clear hc0
      go_wp2_with fail
      go_ret
      exact ⟨rfl, HU4.out⟩
    have hc1 := Decidable.not_not.1 hc0
    clear hc0
    subst hc1
    have HCZ : Hid (checkF nameF nd = 0) := Lib.hid HCE.out.symm
    have HSM := Lib.hid (small_of HS60.out HCZ.out)
    go_wp2_with fail
    refine (HI1.out _ HU4.out).mono ?_
    rintro e w5 ⟨rfl, hu5⟩
    have HU5 := Lib.hid (HU4.out.trans_ext hu5)
    have HB5 := Lib.hid (hu5.at HB4.out (by simp))
    clear hu5 x0 x1 x2 x3 x4 x5
    obtain ⟨x0, x1, x2, x3, x4, x5⟩ := cells6 HB5.out
    cases hnm : nameF fr with
    | false =>
      go_wp2_with fail
      go_ret
      exact ⟨rfl, HU5.out⟩
    | true =>
    have HNF := Lib.hid hnm
    clear hnm
    go_wp2_with fail
    refine (HI2.out _ HU5.out).mono ?_
    rintro e w6 ⟨rfl, hu6⟩
    have HU6 := Lib.hid (HU5.out.trans_ext hu6)
    have HB6 := Lib.hid (hu6.at HB5.out (by simp))
    clear hu6 x0 x1 x2 x3 x4 x5
    obtain ⟨x0, x1, x2, x3, x4, x5⟩ := cells6 HB6.out
    cases hnm : nameF ta with
    | false =>
      go_wp2_with fail
      go_ret
      exact ⟨rfl, HU6.out⟩
    | true =>
    have HNT := Lib.hid hnm
    clear hnm
    go_wp2_with fail
    refine (HOF.out _ HU6.out).mono ?_
    rintro e w7 ⟨v7, rfl, hn7, hu7⟩
    obtain ⟨xo, xa1, xn1, xc1, xs, xn, xm, xa2, xn2, xc2, rfl⟩ := hn7.six
    have HU7 := Lib.hid (HU6.out.trans_ext hu7)
    have HB7 := Lib.hid (hu7.at HB6.out (by simp))
    have HRN := Lib.hid (rename11n_calls nd fr ta _ _ w7 (HEN.out.1.ext HU7.out) (HEN.out.2.1.ext HU7.out) (HEN.out.2.2.ext HU7.out) hn7 HS60.out HIN.out.1 HCZ.out HNF.out HNT.out)
    have HRS : Hid (sizeF (if fr = ta then nd else renF (depthF nd) fr ta nd) ≤ 60 ∧ checkF nameF (if fr = ta then nd else renF (depthF nd) fr ta nd) = 0) := Lib.hid (by
      split
      · exact ⟨HS60.out, HCZ.out⟩
      · have := ren_small (fr := fr) HS60.out HCZ.out HNT.out
        exact ⟨this.1, this.2.1⟩)
    obtain ⟨L1, hL1⟩ : ∃ L1, L1 = freeR nd := ⟨_, rfl⟩
    have HLL := Lib.hid hL1
    have HRF : Hid (freeR (if fr = ta then nd else renF (depthF nd) fr ta nd) = (L1.map (rnName fr ta)).foldl plusF []) := Lib.hid (by rw [hL1]; exact free_any HSM.out.1 HNT.out HSM.out.2.2 HS60.out)
    have HRC : Hid (cntF false (if fr = ta then nd else renF (depthF nd) fr ta nd) = cntF false nd) := Lib.hid (cnt_any false HSM.out.1)
    generalize (if fr = ta then nd else renF (depthF nd) fr ta nd) = Y at *
    have HYM := Lib.hid (small_of HRS.out.1 HRS.out.2)
    have HYO := Lib.hid (good_of Y (form_of_check HRS.out.2))
    have HQ1 : Hid (∀ (v : Value) (P : Nat → Prop) (u : World), NdV u P Y v → Calls Tryz.prog 23 #[v] u fun e w' => e = .returned (.int .i64 (cntF false nd)) ∧ Upto [] u w') := Lib.hid (fun v P u hn => by
      have := Quantifiers_calls Y v u P hn (by have := HRS.out.1; omega) HYO.out.2.1
      rw [HRC.out] at this
      exact this)
    have HQ2 : Hid (∀ u, Upto [] w u → Calls Tryz.prog 24 #[.agg #[.int .i64 op, .slice a1 n1 c1, .int .i64 so, .int .i64 nn, .int .i64 mm, .slice a2 n2 c2], .bool false] u fun e w' => e = .returned (.int .i64 (cntF false nd)) ∧ Upto [] u w') := Lib.hid (fun u hu => quantR_calls false 60 nd HS60.out (by omega) HSM.out.2.1 _ u _ (HND.out u hu))
    generalize cntF false nd = CN at *
    have hlen1 : L1.length ≤ 1020 := by rw [hL1]; have h1 := freeR_len nd; have h2 := HSM.out.2.2; omega
    obtain ⟨i0, hi0, hz0, hz1, hz2⟩ := info9'
    have HI0 := Lib.hid hi0
    have HZ0 := Lib.hid hz0
    have HZ1' := Lib.hid hz1
    have HZ2' := Lib.hid hz2
    clear hn7 hu7 x0 x1 x2 x3 x4 x5 hL1 hi0 hz0 hz1 hz2
    go_wp2_with fail
    refine HRN.out.mono ?_
    rintro e w8 ⟨v8, rfl, ho8, hu8⟩
    obtain ⟨yo, ya1, yn1, yc1, ys, yn, ym, ya2, yn2, yc2, rfl⟩ := (ho8.ndv _ _ _ _).six
    have HN8 := Lib.hid (ho8.ndv _ _ _ _)
    have HB8 := Lib.hid (hu8.at HB7.out (by simp))
    obtain ⟨W9, hW9⟩ : ∃ W9, W9 = w8.alloc (.cells #[.int .i64 yo, .slice ya1 yn1 yc1, .int .i64 ys, .int .i64 yn, .int .i64 ym, .slice ya2 yn2 yc2] 30) := ⟨_, rfl⟩
    have HV9 : Hid (Upto [] w8 W9) := Lib.hid (by rw [hW9]; exact (Upto.refl [] w8).alloc _)
    have HB9 := Lib.hid (HV9.out.at HB8.out (by simp))
    have HY9 : Hid (W9.heap[w8.heap.size]? = some (.cells #[.int .i64 yo, .slice ya1 yn1 yc1, .int .i64 ys, .int .i64 yn, .int .i64 ym, .slice ya2 yn2 yc2] 30 (0, 0))) := Lib.hid (by rw [hW9]; exact new_at w8 _)
    have HU9 := Lib.hid ((HU7.out.trans_ext hu8).trans_ext HV9.out)
    have HBX : Hid ((w8.alloc (.cells #[.int .i64 yo, .slice ya1 yn1 yc1, .int .i64 ys, .int .i64 yn, .int .i64 ym, .slice ya2 yn2 yc2] 30)).heap[w.heap.size]? = some (.cells #[.int .i64 op, .slice a1 n1 c1, .int .i64 so, .int .i64 nn, .int .i64 mm, .slice a2 n2 c2] 25 (0, 0))) := Lib.hid (by rw [← hW9]; exact HB9.out)
    clear ho8 hu8
    obtain ⟨x0, x1, x2, x3, x4, x5⟩ := cells6 HBX.out
    go_wp2_with fail
    simp only [← hW9]
    clear hW9 HBX
    refine (freeRefU_calls 60 nd HS60.out (by omega) HSM.out.2.1 (by have := HSM.out.2.2; omega) _ W9 _ (HND.out _ HU9.out)).mono ?_
    rintro e w10 ⟨v10, rfl, hr10⟩
    rw [← HLL.out] at hr10
    obtain ⟨a, c, rfl⟩ := hr10.slp.len
    have HLS := Lib.hid (hr10.slp.mono (Q := fun _ => True) (fun _ _ _ => trivial))
    have HV10 := Lib.hid (HV9.out.trans_ext hr10.up)
    have HU10 := Lib.hid (HU9.out.trans_ext hr10.up)
    have HB10 := Lib.hid (hr10.up.at HB9.out (by simp))
    have HY10 := Lib.hid (hr10.up.at HY9.out (by simp))
    have HLN : Hid (L1.length ≤ 1020) := Lib.hid hlen1
    generalize hN : L1.length = N at *
    have HN1 := Lib.hid hN
    have hNI : (N : Int) ≤ 1020 := by omega
    clear hr10 x0 x1 x2 x3 x4 x5 hN
    go_wp2_with fail
    go_loopw [9, 11] (fun s i wr => ∃ (j M : Nat) (va : Option Addr) (vc : Nat), j ≤ N ∧ i = .int .i64 j ∧ s = .slice va M vc ∧ Hid (TxI w10 (((L1.take j).map (rnName fr ta)).foldl plusF []) (.slice va M vc) wr ∧ M = (((L1.take j).map (rnName fr ta)).foldl plusF []).length)) (fun _ i _ => N - (intOf i).toNat)
    case atStart => exact ⟨0, 0, none, 0, by omega, rfl, rfl, Lib.hid ⟨TxI.zero w10, rfl⟩⟩
    case round =>
      obtain ⟨j, M, va, vc, hj, rfl, rfl, HT⟩ := hrel
      have hj0 : (0 : Int) ≤ j := by omega
      rcases Nat.lt_or_ge j N with hlt | hge
      · have hjl : (j : Int) < N := by omega
        obtain ⟨x, hx⟩ : ∃ x, L1[j]? = some x := ⟨L1[j]'(by rw [HN1.out]; omega), List.getElem?_eq_getElem _⟩
        obtain ⟨g9, o9, ha, hcell⟩ := slp_cell HLS.out HN1.out j x hx
        have hc0 := hcell wr HT.out.1.up
        have HNX := Lib.hid (fold_next (f := rnName fr ta) hx)
        have HFW : Hid ((((L1.take j).map (rnName fr ta)).foldl plusF []).length ≤ 1020) := Lib.hid (by have h1 := fold_few (rnName fr ta) L1 j; have h2 := HN1.out; have h3 := HLN.out; omega)
        generalize ((L1.take j).map (rnName fr ta)).foldl plusF [] = out at *
        have hM := HT.out.2
        subst ha
        clear hx hcell
        have hMI : (M : Int) ≤ 1020 := by have h1 := HFW.out; omega
        have HMO := Lib.hid hM
        clear hM
        by_cases hz : x = fr
        · have hzz : (x == fr) = true := by rw [hz]; exact beq_self_eq_true fr
          have HFX : Hid (rnName fr ta x = ta) := Lib.hid (by unfold rnName; rw [if_pos hz])
          clear hz
          go_wp2_with fail
          go_loopw [13, 14] (fun b k wz => ∃ (q : Nat) (B : Bool), q ≤ M ∧ k = .int .i64 q ∧ b = .bool B ∧ Hid (B = (out.take q).contains ta) ∧ Hid (Upto [] wr wz)) (fun _ k _ => M - (intOf k).toNat)
          case atStart => exact ⟨0, false, by omega, rfl, rfl, Lib.hid (by simp), Lib.hid (Upto.refl _ _)⟩
          case round =>
            obtain ⟨q, B, hq, rfl, rfl, HB, HV⟩ := hrel
            have hq0 : (0 : Int) ≤ q := by omega
            have HTQ := Lib.hid (HT.out.1.ext HV.out)
            rcases Nat.lt_or_ge q M with hlt2 | hge2
            · have hql : (q : Int) < M := by omega
              obtain ⟨y, hy⟩ : ∃ y, out[q]? = some y := ⟨out[q]'(by have := HMO.out; omega), List.getElem?_eq_getElem _⟩
              have hslq := HTQ.out.slp
              rw [← HMO.out] at hslq
              obtain ⟨g8, o8, hva, hcell⟩ := slp_cell hslq HMO.out.symm q y hy
              have hcq := hcell wr (Upto.refl _ _)
              have HVA := Lib.hid hva
              have HCN := Lib.hid (contains_next hy ta)
              clear hslq hcell hy
              cases B with
              | true =>
                clear hcq hva
                go_wp2_with fail
                exact ⟨⟨q + 1, true, by omega, by simp, rfl, Lib.hid (by rw [HCN.out, ← HB.out]; rfl), HV⟩, by simp [intOf]; omega⟩
              | false =>
                subst hva
                cases hys : (y == ta) with
                | true =>
                  go_wp2_with fail
                  exact ⟨⟨q + 1, true, by omega, by simp, rfl, Lib.hid (by rw [HCN.out, hys, Bool.or_true]), HV⟩, by simp [intOf]; omega⟩
                | false =>
                  go_wp2_with fail
                  exact ⟨⟨q + 1, false, by omega, by simp, rfl, Lib.hid (by rw [HCN.out, hys, ← HB.out]; rfl), HV⟩, by simp [intOf]; omega⟩
            · obtain rfl : q = M := by omega
              have HTK : Hid (out.take q = out) := Lib.hid (by rw [HMO.out, List.take_length])
              rw [HTK.out] at HB
              cases B with
              | true =>
                have HPL : Hid (plusF out ta = out) := Lib.hid (plus_in (by have := HB.out; simpa using this.symm))
                go_wp2_with fail
                exact ⟨⟨j + 1, q, va, vc, by omega, by simp, rfl, Lib.hid (by rw [HNX.out, HFX.out, HPL.out]; exact ⟨HTQ.out, HMO.out⟩)⟩, by simp [intOf]; omega⟩
              | false =>
                have HPL : Hid (plusF out ta = out ++ [ta]) := Lib.hid (plus_out (by have := HB.out; simpa using this.symm))
                have hrow := HTQ.out.row
                have hrow2 := (HTQ.out.ext ((Upto.refl [] _).alloc (.cells #[.string ⟨ta.toArray⟩] 9))).row
                rw [← HMO.out] at hrow2
                have hsrc2 := cells_at (l := [sV ta]) (new_at wr (.cells #[.string ⟨ta.toArray⟩] 9))
                clear hrow
                go_wp2_with (at_builtin; refine wpList_app _ rfl (.tmp 76) (.tmp 78) 22 rfl 9 i0 (.string ⟨#[]⟩) 1 16 Tryz.underlying22 HI0.out HZ0.out HZ1'.out HZ2'.out rfl (by decide) (.slice va q vc) q _ rfl hrow2 ⟨wr.heap.size, 0, none⟩ 1 1 [sV ta] rfl rfl hsrc2 (by simp [Value.oneCell', sV]) (by unfold maxLen; omega) (by omega) ?_; intro vb vd w12 ho hu hw; have HA := Lib.hid ((HTQ.out.ext ((Upto.refl [] _).alloc (.cells #[.string ⟨ta.toArray⟩] 9))).app HMO.out.symm ho hu hw); clear hrow2 hsrc2 ho hu hw)
                exact ⟨⟨j + 1, q + 1, vb, vd, by omega, by simp, rfl, Lib.hid (by rw [HNX.out, HFX.out, HPL.out]; exact ⟨HA.out, by rw [List.length_append, ← HMO.out]; rfl⟩)⟩, by simp [intOf]; omega⟩
        · have hzz : (x == fr) = false := by rw [beq_eq_false_iff_ne]; exact hz
          have HFX : Hid (rnName fr ta x = x) := Lib.hid (by unfold rnName; rw [if_neg hz])
          clear hz
          go_wp2_with fail
          go_loopw [13, 14] (fun b k wz => ∃ (q : Nat) (B : Bool), q ≤ M ∧ k = .int .i64 q ∧ b = .bool B ∧ Hid (B = (out.take q).contains x) ∧ Hid (Upto [] wr wz)) (fun _ k _ => M - (intOf k).toNat)
          case atStart => exact ⟨0, false, by omega, rfl, rfl, Lib.hid (by simp), Lib.hid (Upto.refl _ _)⟩
          case round =>
            obtain ⟨q, B, hq, rfl, rfl, HB, HV⟩ := hrel
            have hq0 : (0 : Int) ≤ q := by omega
            have HTQ := Lib.hid (HT.out.1.ext HV.out)
            rcases Nat.lt_or_ge q M with hlt2 | hge2
            · have hql : (q : Int) < M := by omega
              obtain ⟨y, hy⟩ : ∃ y, out[q]? = some y := ⟨out[q]'(by have := HMO.out; omega), List.getElem?_eq_getElem _⟩
              have hslq := HTQ.out.slp
              rw [← HMO.out] at hslq
              obtain ⟨g8, o8, hva, hcell⟩ := slp_cell hslq HMO.out.symm q y hy
              have hcq := hcell wr (Upto.refl _ _)
              have HVA := Lib.hid hva
              have HCN := Lib.hid (contains_next hy x)
              clear hslq hcell hy
              cases B with
              | true =>
                clear hcq hva
                go_wp2_with fail
                exact ⟨⟨q + 1, true, by omega, by simp, rfl, Lib.hid (by rw [HCN.out, ← HB.out]; rfl), HV⟩, by simp [intOf]; omega⟩
              | false =>
                subst hva
                cases hys : (y == x) with
                | true =>
                  go_wp2_with fail
                  exact ⟨⟨q + 1, true, by omega, by simp, rfl, Lib.hid (by rw [HCN.out, hys, Bool.or_true]), HV⟩, by simp [intOf]; omega⟩
                | false =>
                  go_wp2_with fail
                  exact ⟨⟨q + 1, false, by omega, by simp, rfl, Lib.hid (by rw [HCN.out, hys, ← HB.out]; rfl), HV⟩, by simp [intOf]; omega⟩
            · obtain rfl : q = M := by omega
              have HTK : Hid (out.take q = out) := Lib.hid (by rw [HMO.out, List.take_length])
              rw [HTK.out] at HB
              cases B with
              | true =>
                have HPL : Hid (plusF out x = out) := Lib.hid (plus_in (by have := HB.out; simpa using this.symm))
                go_wp2_with fail
                exact ⟨⟨j + 1, q, va, vc, by omega, by simp, rfl, Lib.hid (by rw [HNX.out, HFX.out, HPL.out]; exact ⟨HTQ.out, HMO.out⟩)⟩, by simp [intOf]; omega⟩
              | false =>
                have HPL : Hid (plusF out x = out ++ [x]) := Lib.hid (plus_out (by have := HB.out; simpa using this.symm))
                have hrow := HTQ.out.row
                have hrow2 := (HTQ.out.ext ((Upto.refl [] _).alloc (.cells #[.string ⟨x.toArray⟩] 9))).row
                rw [← HMO.out] at hrow2
                have hsrc2 := cells_at (l := [sV x]) (new_at wr (.cells #[.string ⟨x.toArray⟩] 9))
                clear hrow
                go_wp2_with (at_builtin; refine wpList_app _ rfl (.tmp 76) (.tmp 78) 22 rfl 9 i0 (.string ⟨#[]⟩) 1 16 Tryz.underlying22 HI0.out HZ0.out HZ1'.out HZ2'.out rfl (by decide) (.slice va q vc) q _ rfl hrow2 ⟨wr.heap.size, 0, none⟩ 1 1 [sV x] rfl rfl hsrc2 (by simp [Value.oneCell', sV]) (by unfold maxLen; omega) (by omega) ?_; intro vb vd w12 ho hu hw; have HA := Lib.hid ((HTQ.out.ext ((Upto.refl [] _).alloc (.cells #[.string ⟨x.toArray⟩] 9))).app HMO.out.symm ho hu hw); clear hrow2 hsrc2 ho hu hw)
                exact ⟨⟨j + 1, q + 1, vb, vd, by omega, by simp, rfl, Lib.hid (by rw [HNX.out, HFX.out, HPL.out]; exact ⟨HA.out, by rw [List.length_append, ← HMO.out]; rfl⟩)⟩, by simp [intOf]; omega⟩
      · obtain rfl : j = N := by omega
        have HTA : Hid (L1.take j = L1) := Lib.hid (by rw [← HN1.out, List.take_length])
        rw [HTA.out] at HT
        obtain ⟨w15, hw15⟩ : ∃ w15, w15 = wr := ⟨_, rfl⟩
        subst hw15
        have HV15 := Lib.hid (HV10.out.trans_ext HT.out.1.up)
        have HU15 := Lib.hid (HU10.out.trans_ext HT.out.1.up)
        have HB15 := Lib.hid (HT.out.1.up.at HB10.out (by simp))
        have HY15 := Lib.hid (HT.out.1.up.at HY10.out (by simp))
        have HFW : Hid (((L1.map (rnName fr ta)).foldl plusF []).length ≤ 1020) := Lib.hid (by have h1 := fold_few (rnName fr ta) L1 L1.length; rw [List.take_length] at h1; have h2 := HN1.out; have h3 := HLN.out; omega)
        generalize (L1.map (rnName fr ta)).foldl plusF [] = R9 at *
        have HSW := Lib.hid HT.out.1.slp
        have hM := HT.out.2
        subst hM
        have HFR : Hid (∀ u, Upto [] w15 u → Calls Tryz.prog 19 #[.agg #[.int .i64 yo, .slice ya1 yn1 yc1, .int .i64 ys, .int .i64 yn, .int .i64 ym, .slice ya2 yn2 yc2]] u (FqPost u R9)) := Lib.hid (fun u hu => by
          have := Free_calls Y _ u _ (HN8.out.ext (HV15.out.trans_ext hu)) (by have := HRS.out.1; omega) HYM.out.2.1 (by have := HYM.out.2.2; omega)
          rwa [free_same, HRF.out] at this)
        have HSMC : Hid (∀ (v : Value) u, Upto [] w15 u → SlP u (fun _ => True) v R9.length (R9.map sV) → Calls Tryz.prog 22 #[v, .slice va R9.length vc] u fun e w' => e = .returned (.bool true) ∧ Upto [] u w') := Lib.hid (fun v u hu hs => same_calls R9 v _ u _ _ hs (HSW.out.ext hu) (by have := HFW.out; omega))
        have HQA : Hid (∀ u, Upto [] w15 u → Calls Tryz.prog 23 #[.agg #[.int .i64 yo, .slice ya1 yn1 yc1, .int .i64 ys, .int .i64 yn, .int .i64 ym, .slice ya2 yn2 yc2]] u fun e w' => e = .returned (.int .i64 CN) ∧ Upto [] u w') := Lib.hid (fun u hu => HQ1.out _ _ u (HN8.out.ext (HV15.out.trans_ext hu)))
        clear hge hj
        go_wp2_with fail
        have k0 : ∀ u : Ext w15, u.w.cell? ⟨w8.heap.size, 0, none⟩ = some (.int .i64 yo) := fun u => u.cell (cell_of HY15.out 0)
        have k1 : ∀ u : Ext w15, u.w.cell? ⟨w8.heap.size, 1, none⟩ = some (.slice ya1 yn1 yc1) := fun u => u.cell (cell_of HY15.out 1)
        have k2 : ∀ u : Ext w15, u.w.cell? ⟨w8.heap.size, 2, none⟩ = some (.int .i64 ys) := fun u => u.cell (cell_of HY15.out 2)
        have k3 : ∀ u : Ext w15, u.w.cell? ⟨w8.heap.size, 3, none⟩ = some (.int .i64 yn) := fun u => u.cell (cell_of HY15.out 3)
        have k4 : ∀ u : Ext w15, u.w.cell? ⟨w8.heap.size, 4, none⟩ = some (.int .i64 ym) := fun u => u.cell (cell_of HY15.out 4)
        have k5 : ∀ u : Ext w15, u.w.cell? ⟨w8.heap.size, 5, none⟩ = some (.slice ya2 yn2 yc2) := fun u => u.cell (cell_of HY15.out 5)
        have nb0 : ∀ u : Ext w15, u.w.cell? ⟨w.heap.size, 0, none⟩ = some (.int .i64 op) := fun u => u.cell (cell_of HB15.out 0)
        have nb1 : ∀ u : Ext w15, u.w.cell? ⟨w.heap.size, 1, none⟩ = some (.slice a1 n1 c1) := fun u => u.cell (cell_of HB15.out 1)
        have nb2 : ∀ u : Ext w15, u.w.cell? ⟨w.heap.size, 2, none⟩ = some (.int .i64 so) := fun u => u.cell (cell_of HB15.out 2)
        have nb3 : ∀ u : Ext w15, u.w.cell? ⟨w.heap.size, 3, none⟩ = some (.int .i64 nn) := fun u => u.cell (cell_of HB15.out 3)
        have nb4 : ∀ u : Ext w15, u.w.cell? ⟨w.heap.size, 4, none⟩ = some (.int .i64 mm) := fun u => u.cell (cell_of HB15.out 4)
        have nb5 : ∀ u : Ext w15, u.w.cell? ⟨w.heap.size, 5, none⟩ = some (.slice a2 n2 c2) := fun u => u.cell (cell_of HB15.out 5)
        refine wp_region_seg_at [4, 6, 10, 12] [] [0, 1, 2, 3, 4, 5, 6, 7, 8, 9, 10, 11, 12, 13, 14] [15] 15 (by kernel_rfl) (by kernel_rfl) (by kernel_rfl) ?_
        iterate 4 (refine seg_plain rfl rfl rfl rfl rfl ?_; intro K' hK'; go_big_quiet_op; go_big_quiet_on)
        refine seg_callO (Y := Option Addr × Nat) (fun tt => .slice tt.1 R9.length tt.2) (fun tt u => SlP u (fun _ => True) (.slice tt.1 R9.length tt.2) R9.length (R9.map sV)) (fun _ => []) rfl rfl rfl rfl (fun _ _ _ h hu => h.ext hu) (fun _ => List.nodup_nil) (fun w => by go_simp) (fun w hu hd => (HFR.out w hu).mono fun e w' ⟨vo, h1, h2⟩ => by
          obtain ⟨va, vc, rfl⟩ := h2.slp.len
          exact ⟨(va, vc), h1, h2.up, h2.slp.mono (fun _ _ _ => trivial), fun b hb => by cases hb⟩) ?_
        rintro ⟨fa, fc⟩
        simp only [Act.put, List.setIfInBounds_toArray, List.set_cons_zero, List.set_cons_succ]
        (refine seg_plain rfl rfl rfl rfl rfl ?_; intro K' hK'; go_big_quiet_op; go_big_quiet_on)
        refine seg_call (v := .bool true) rfl rfl rfl rfl (fun w => by go_simp) (fun w hu hd => HSMC.out _ w hu (hd.1 (by kernel_rfl))) ?_
        simp only [Act.put, List.setIfInBounds_toArray, List.set_cons_zero, List.set_cons_succ]
        iterate 3 (refine seg_plain rfl rfl rfl rfl rfl ?_; intro K' hK'; go_big_quiet_op; go_big_quiet_on)
        refine seg_call (v := .int .i64 CN) rfl rfl rfl rfl (fun w => by go_simp) (fun w hu hd => HQA.out w hu) ?_
        simp only [Act.put, List.setIfInBounds_toArray, List.set_cons_zero, List.set_cons_succ]
        (refine seg_plain rfl rfl rfl rfl rfl ?_; intro K' hK'; go_big_quiet_op; go_big_quiet_on)
        refine seg_call (v := .int .i64 CN) rfl rfl rfl rfl (fun w => by go_simp) (fun w hu hd => HQ2.out w (HU15.out.trans_ext hu)) ?_
        simp only [Act.put, List.setIfInBounds_toArray, List.set_cons_zero, List.set_cons_succ]
        iterate 2 (refine seg_plain rfl rfl rfl rfl rfl ?_; intro K' hK'; go_big_quiet_op; go_big_quiet_on)
        intro w16 hg
        have HU16 := Lib.hid (HU15.out.trans_ext hg.up)
        simp only [List.drop_succ_cons, List.drop_zero]
        clear hg k0 k1 k2 k3 k4 k5 nb0 nb1 nb2 nb3 nb4 nb5
        go_wp2_with fail
        go_ret
        exact ⟨rfl, HU16.out⟩
end Go.Proofs.YtbnebkkpmcjmbaaGreatDoor
