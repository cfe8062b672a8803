/- Texts merged, in build order: F7a, F7b, F7c, F7d, F7g, F8a, F8b, F8c, F8d, F8e, F8g, Foa, Fob, Fha, Fhb, Foc, Fog, Fhc, Fhd, Fhg, Z3, Z4, Zr, Zc, Zp. -/
import Derived.Test.YtkhbpebpljdifaaGreatDoorMFonB
namespace Go.Proofs.YtkhbpebpljdifaaGreatDoor
open Go.RowKit Go.PL Go.Maps
set_option maxRecDepth 100000 in
set_option maxHeartbeats 12800000 in
theorem form_7a (k : Nat) (so nn mm : Int) (nms : List (List UInt8)) (l : List Nd) (hk : sizesF l ≤ k) (hin : inN 10000000 (.mk 7 nms so nn mm l)) (_hk7 : k + 1 ≤ 10000000) (v : Value) (w : World) (P : Nat → Prop) (h : NdV w P (.mk 7 nms so nn mm l) v) (hk0 : ¬ (7 : Int) < 0) (hk1 : ¬ (17 : Int) < 7) (hsb : shapeBad 7 nms.length l.length = false) (hall : nms.all nameF = true) (hz : mm ≠ 0) : Calls Tryz.prog 53 #[v] w fun e w' => e = .returned (.int .i64 ((3 : Nat) : Int)) ∧ Upto [] w w' := by
  obtain ⟨a1, c1, a2, c2, rfl, hs, hg⟩ := h.open
  unfold inN at hin
  have HG := Lib.hid hg
  obtain ⟨a1', c1', ev, hnm⟩ := hs.get
  obtain ⟨rfl, rfl⟩ : a1 = a1' ∧ c1 = c1' := by simpa using ev
  have HN : Hid (∀ i x, nms[i]? = some x → ∃ g o, a1 = some ⟨g, o, none⟩ ∧ w.cell? ⟨g, o + i, none⟩ = some (.string ⟨x.toArray⟩)) := Lib.hid (fun i x hi => hnm i _ (by rw [List.getElem?_map, hi]; rfl))
  have HSZ := Lib.hid hk
  have HIN := Lib.hid hin
  have HAL := Lib.hid hall
  have hu1 : Upto [] w (w.alloc (.cells #[.int .i64 7, .slice a1 nms.length c1, .int .i64 so, .int .i64 nn, .int .i64 mm, .slice a2 l.length c2] 25)) := (Upto.refl [] w).alloc _
  have HB1 := Lib.hid (new_at w (.cells #[.int .i64 7, .slice a1 nms.length c1, .int .i64 so, .int .i64 nn, .int .i64 mm, .slice a2 l.length c2] 25))
  have HU1 := Lib.hid hu1
  have hll := hin.2.2.1
  have hnl := hin.1
  have hL0 : (0 : Int) ≤ l.length := by omega
  have hL1 : (l.length : Int) ≤ 10000000 := by omega
  have hN0 : (0 : Int) ≤ nms.length := by omega
  have hN1 : (nms.length : Int) ≤ 10000000 := by omega
  have HH := Lib.hid (has_calls 7)
  obtain ⟨a, b, c, habc, ha17, hb17, hc17⟩ : ∃ a b c : Nat, hasF 7 = (a, b, c) ∧ a ≤ 17 ∧ b ≤ 17 ∧ c ≤ 17 := by
    unfold hasF
    repeat' split
    all_goals exact ⟨_, _, _, rfl, by decide, by decide, by decide⟩
  rw [habc] at HH
  simp only at HH
  obtain ⟨hs0, hs1, hs2⟩ : ¬ nms.length < a ∧ ¬ b < nms.length ∧ l.length = c := by
    unfold shapeBad at hsb
    rw [habc] at hsb
    simp at hsb
    omega
  have ha0 : (0 : Int) ≤ a := by omega
  have hb0 : (0 : Int) ≤ b := by omega
  have hc0 : (0 : Int) ≤ c := by omega
  have ha1 : (a : Int) ≤ 17 := by omega
  have hb1 : (b : Int) ≤ 17 := by omega
  have hc1 : (c : Int) ≤ 17 := by omega
  have q0 : ¬ (nms.length : Int) < a := by omega
  have q1 : ¬ (b : Int) < nms.length := by omega
  have q2 : ((l.length : Int) != (c : Int)) = false := by rw [hs2]; simp
  clear habc hsb hall h hs hg hk hu1 hnm ev hin hs2
  go_enter Tryz.func53, Tryz.ntmps53
  go_wp2_with fail
  refine (HH.out (w.alloc (.cells #[.int .i64 7, .slice a1 nms.length c1, .int .i64 so, .int .i64 nn, .int .i64 mm, .slice a2 l.length c2] 25))).mono ?_
  rintro e w3 ⟨rfl, hu3⟩
  have HU3 := Lib.hid (HU1.out.trans_ext hu3)
  have hb3 := hu3.at HB1.out (by simp)
  have HB3 := Lib.hid hb3
  obtain ⟨y0, y1, y2, y3, y4, y5⟩ := cells6 hb3
  clear hu3 hb3
  go_wp2_with fail
  go_loopw [6] (fun i wr => ∃ j : Nat, j ≤ nms.length ∧ i = .int .i64 j ∧ Hid (Upto [] w3 wr)) (fun i _ => nms.length - (intOf i).toNat)
  case atStart => exact ⟨0, by omega, rfl, Lib.hid (Upto.refl _ _)⟩
  case round =>
    clear y0 y1 y2 y3 y4 y5
    obtain ⟨j, hj, rfl, HU⟩ := hrel
    have hj0 : (0 : Int) ≤ j := by omega
    have hb := HU.out.at HB3.out (by simp)
    have HB := Lib.hid hb
    obtain ⟨y0, y1, y2, y3, y4, y5⟩ := cells6 hb
    have HW := Lib.hid (HU3.out.trans_ext HU.out)
    rcases Nat.lt_or_ge j nms.length with hlt | hge
    · have hltI : (j : Int) < nms.length := by omega
      obtain ⟨x, hx⟩ : ∃ x, nms[j]? = some x := ⟨_, List.getElem?_eq_getElem hlt⟩
      have hxl := HIN.out.2.1 x (List.mem_of_getElem? hx)
      obtain ⟨g, o, rfl, c0⟩ := HN.out j x hx
      replace c0 := up_cell HW.out c0
      have HC := Lib.hid (isName_calls x wr (by omega))
      have hb2 : nameF x = true := List.all_eq_true.1 HAL.out x (List.mem_of_getElem? hx)
      rw [hb2] at HC
      clear hx hb hb2
      go_wp2_with fail
      refine HC.out.mono ?_
      rintro e w5 ⟨rfl, hu5⟩
      have HU5 := Lib.hid (HU.out.trans_ext hu5)
      clear hu5
      go_wp2_with fail
      go_roundw
      case rel => first | exact ⟨j + 1, by omega, by go_num, HU5⟩ | exact ⟨_, _, _, _, _, _, _, _, _, _, _, _, _, _, _, _, ⟨j + 1, by omega, by go_num, HU5⟩, rfl⟩
      case measure => simp [intOf]; omega
    · have hgeI : ¬ (j : Int) < nms.length := by omega
      clear hb q0 q1 q2 hs0 hs1 ha0 hb0 hc0 ha1 hb1 hc1 HH HAL HN
      have emm0 : (mm == (0 : Int)) = false := by rw [beq_eq_false_iff_ne]; exact hz
      have fmm0 : (mm != (0 : Int)) = true := by rw [bne, emm0]; rfl
      go_wp2_with fail
      go_ret
      exact ⟨rfl, HW.out⟩
set_option maxRecDepth 100000 in
set_option maxHeartbeats 12800000 in
theorem form_7b (k : Nat) (so nn : Int) (nms : List (List UInt8)) (l : List Nd) (hk : sizesF l ≤ k) (hin : inN 10000000 (.mk 7 nms so nn 0 l)) (_hk7 : k + 1 ≤ 10000000) (v : Value) (w : World) (P : Nat → Prop) (h : NdV w P (.mk 7 nms so nn 0 l) v) (hk0 : ¬ (7 : Int) < 0) (hk1 : ¬ (17 : Int) < 7) (hsb : shapeBad 7 nms.length l.length = false) (hall : nms.all nameF = true) (hz : so ≠ 0) : Calls Tryz.prog 53 #[v] w fun e w' => e = .returned (.int .i64 ((3 : Nat) : Int)) ∧ Upto [] w w' := by
  obtain ⟨a1, c1, a2, c2, rfl, hs, hg⟩ := h.open
  unfold inN at hin
  have HG := Lib.hid hg
  obtain ⟨a1', c1', ev, hnm⟩ := hs.get
  obtain ⟨rfl, rfl⟩ : a1 = a1' ∧ c1 = c1' := by simpa using ev
  have HN : Hid (∀ i x, nms[i]? = some x → ∃ g o, a1 = some ⟨g, o, none⟩ ∧ w.cell? ⟨g, o + i, none⟩ = some (.string ⟨x.toArray⟩)) := Lib.hid (fun i x hi => hnm i _ (by rw [List.getElem?_map, hi]; rfl))
  have HSZ := Lib.hid hk
  have HIN := Lib.hid hin
  have HAL := Lib.hid hall
  have hu1 : Upto [] w (w.alloc (.cells #[.int .i64 7, .slice a1 nms.length c1, .int .i64 so, .int .i64 nn, .int .i64 0, .slice a2 l.length c2] 25)) := (Upto.refl [] w).alloc _
  have HB1 := Lib.hid (new_at w (.cells #[.int .i64 7, .slice a1 nms.length c1, .int .i64 so, .int .i64 nn, .int .i64 0, .slice a2 l.length c2] 25))
  have HU1 := Lib.hid hu1
  have hll := hin.2.2.1
  have hnl := hin.1
  have hL0 : (0 : Int) ≤ l.length := by omega
  have hL1 : (l.length : Int) ≤ 10000000 := by omega
  have hN0 : (0 : Int) ≤ nms.length := by omega
  have hN1 : (nms.length : Int) ≤ 10000000 := by omega
  have HH := Lib.hid (has_calls 7)
  obtain ⟨a, b, c, habc, ha17, hb17, hc17⟩ : ∃ a b c : Nat, hasF 7 = (a, b, c) ∧ a ≤ 17 ∧ b ≤ 17 ∧ c ≤ 17 := by
    unfold hasF
    repeat' split
    all_goals exact ⟨_, _, _, rfl, by decide, by decide, by decide⟩
  rw [habc] at HH
  simp only at HH
  obtain ⟨hs0, hs1, hs2⟩ : ¬ nms.length < a ∧ ¬ b < nms.length ∧ l.length = c := by
    unfold shapeBad at hsb
    rw [habc] at hsb
    simp at hsb
    omega
  have ha0 : (0 : Int) ≤ a := by omega
  have hb0 : (0 : Int) ≤ b := by omega
  have hc0 : (0 : Int) ≤ c := by omega
  have ha1 : (a : Int) ≤ 17 := by omega
  have hb1 : (b : Int) ≤ 17 := by omega
  have hc1 : (c : Int) ≤ 17 := by omega
  have q0 : ¬ (nms.length : Int) < a := by omega
  have q1 : ¬ (b : Int) < nms.length := by omega
  have q2 : ((l.length : Int) != (c : Int)) = false := by rw [hs2]; simp
  clear habc hsb hall h hs hg hk hu1 hnm ev hin hs2
  go_enter Tryz.func53, Tryz.ntmps53
  go_wp2_with fail
  refine (HH.out (w.alloc (.cells #[.int .i64 7, .slice a1 nms.length c1, .int .i64 so, .int .i64 nn, .int .i64 0, .slice a2 l.length c2] 25))).mono ?_
  rintro e w3 ⟨rfl, hu3⟩
  have HU3 := Lib.hid (HU1.out.trans_ext hu3)
  have hb3 := hu3.at HB1.out (by simp)
  have HB3 := Lib.hid hb3
  obtain ⟨y0, y1, y2, y3, y4, y5⟩ := cells6 hb3
  clear hu3 hb3
  go_wp2_with fail
  go_loopw [6] (fun i wr => ∃ j : Nat, j ≤ nms.length ∧ i = .int .i64 j ∧ Hid (Upto [] w3 wr)) (fun i _ => nms.length - (intOf i).toNat)
  case atStart => exact ⟨0, by omega, rfl, Lib.hid (Upto.refl _ _)⟩
  case round =>
    clear y0 y1 y2 y3 y4 y5
    obtain ⟨j, hj, rfl, HU⟩ := hrel
    have hj0 : (0 : Int) ≤ j := by omega
    have hb := HU.out.at HB3.out (by simp)
    have HB := Lib.hid hb
    obtain ⟨y0, y1, y2, y3, y4, y5⟩ := cells6 hb
    have HW := Lib.hid (HU3.out.trans_ext HU.out)
    rcases Nat.lt_or_ge j nms.length with hlt | hge
    · have hltI : (j : Int) < nms.length := by omega
      obtain ⟨x, hx⟩ : ∃ x, nms[j]? = some x := ⟨_, List.getElem?_eq_getElem hlt⟩
      have hxl := HIN.out.2.1 x (List.mem_of_getElem? hx)
      obtain ⟨g, o, rfl, c0⟩ := HN.out j x hx
      replace c0 := up_cell HW.out c0
      have HC := Lib.hid (isName_calls x wr (by omega))
      have hb2 : nameF x = true := List.all_eq_true.1 HAL.out x (List.mem_of_getElem? hx)
      rw [hb2] at HC
      clear hx hb hb2
      go_wp2_with fail
      refine HC.out.mono ?_
      rintro e w5 ⟨rfl, hu5⟩
      have HU5 := Lib.hid (HU.out.trans_ext hu5)
      clear hu5
      go_wp2_with fail
      go_roundw
      case rel => first | exact ⟨j + 1, by omega, by go_num, HU5⟩ | exact ⟨_, _, _, _, _, _, _, _, _, _, _, _, _, _, _, _, ⟨j + 1, by omega, by go_num, HU5⟩, rfl⟩
      case measure => simp [intOf]; omega
    · have hgeI : ¬ (j : Int) < nms.length := by omega
      clear hb q0 q1 q2 hs0 hs1 ha0 hb0 hc0 ha1 hb1 hc1 HH HAL HN
      have eso0 : (so == (0 : Int)) = false := by rw [beq_eq_false_iff_ne]; exact hz
      have fso0 : (so != (0 : Int)) = true := by rw [bne, eso0]; rfl
      go_wp2_with fail
      go_ret
      exact ⟨rfl, HW.out⟩
set_option maxRecDepth 100000 in
set_option maxHeartbeats 12800000 in
theorem form_7c (k : Nat) (nn : Int) (nms : List (List UInt8)) (l : List Nd) (hk : sizesF l ≤ k) (hin : inN 10000000 (.mk 7 nms 0 nn 0 l)) (_hk7 : k + 1 ≤ 10000000) (v : Value) (w : World) (P : Nat → Prop) (h : NdV w P (.mk 7 nms 0 nn 0 l) v) (hk0 : ¬ (7 : Int) < 0) (hk1 : ¬ (17 : Int) < 7) (hsb : shapeBad 7 nms.length l.length = false) (hall : nms.all nameF = true) (hz : nn < 0) : Calls Tryz.prog 53 #[v] w fun e w' => e = .returned (.int .i64 ((2 : Nat) : Int)) ∧ Upto [] w w' := by
  obtain ⟨a1, c1, a2, c2, rfl, hs, hg⟩ := h.open
  unfold inN at hin
  have HG := Lib.hid hg
  obtain ⟨a1', c1', ev, hnm⟩ := hs.get
  obtain ⟨rfl, rfl⟩ : a1 = a1' ∧ c1 = c1' := by simpa using ev
  have HN : Hid (∀ i x, nms[i]? = some x → ∃ g o, a1 = some ⟨g, o, none⟩ ∧ w.cell? ⟨g, o + i, none⟩ = some (.string ⟨x.toArray⟩)) := Lib.hid (fun i x hi => hnm i _ (by rw [List.getElem?_map, hi]; rfl))
  have HSZ := Lib.hid hk
  have HIN := Lib.hid hin
  have HAL := Lib.hid hall
  have hu1 : Upto [] w (w.alloc (.cells #[.int .i64 7, .slice a1 nms.length c1, .int .i64 0, .int .i64 nn, .int .i64 0, .slice a2 l.length c2] 25)) := (Upto.refl [] w).alloc _
  have HB1 := Lib.hid (new_at w (.cells #[.int .i64 7, .slice a1 nms.length c1, .int .i64 0, .int .i64 nn, .int .i64 0, .slice a2 l.length c2] 25))
  have HU1 := Lib.hid hu1
  have hll := hin.2.2.1
  have hnl := hin.1
  have hL0 : (0 : Int) ≤ l.length := by omega
  have hL1 : (l.length : Int) ≤ 10000000 := by omega
  have hN0 : (0 : Int) ≤ nms.length := by omega
  have hN1 : (nms.length : Int) ≤ 10000000 := by omega
  have HH := Lib.hid (has_calls 7)
  obtain ⟨a, b, c, habc, ha17, hb17, hc17⟩ : ∃ a b c : Nat, hasF 7 = (a, b, c) ∧ a ≤ 17 ∧ b ≤ 17 ∧ c ≤ 17 := by
    unfold hasF
    repeat' split
    all_goals exact ⟨_, _, _, rfl, by decide, by decide, by decide⟩
  rw [habc] at HH
  simp only at HH
  obtain ⟨hs0, hs1, hs2⟩ : ¬ nms.length < a ∧ ¬ b < nms.length ∧ l.length = c := by
    unfold shapeBad at hsb
    rw [habc] at hsb
    simp at hsb
    omega
  have ha0 : (0 : Int) ≤ a := by omega
  have hb0 : (0 : Int) ≤ b := by omega
  have hc0 : (0 : Int) ≤ c := by omega
  have ha1 : (a : Int) ≤ 17 := by omega
  have hb1 : (b : Int) ≤ 17 := by omega
  have hc1 : (c : Int) ≤ 17 := by omega
  have q0 : ¬ (nms.length : Int) < a := by omega
  have q1 : ¬ (b : Int) < nms.length := by omega
  have q2 : ((l.length : Int) != (c : Int)) = false := by rw [hs2]; simp
  clear habc hsb hall h hs hg hk hu1 hnm ev hin hs2
  go_enter Tryz.func53, Tryz.ntmps53
  go_wp2_with fail
  refine (HH.out (w.alloc (.cells #[.int .i64 7, .slice a1 nms.length c1, .int .i64 0, .int .i64 nn, .int .i64 0, .slice a2 l.length c2] 25))).mono ?_
  rintro e w3 ⟨rfl, hu3⟩
  have HU3 := Lib.hid (HU1.out.trans_ext hu3)
  have hb3 := hu3.at HB1.out (by simp)
  have HB3 := Lib.hid hb3
  obtain ⟨y0, y1, y2, y3, y4, y5⟩ := cells6 hb3
  clear hu3 hb3
  go_wp2_with fail
  go_loopw [6] (fun i wr => ∃ j : Nat, j ≤ nms.length ∧ i = .int .i64 j ∧ Hid (Upto [] w3 wr)) (fun i _ => nms.length - (intOf i).toNat)
  case atStart => exact ⟨0, by omega, rfl, Lib.hid (Upto.refl _ _)⟩
  case round =>
    clear y0 y1 y2 y3 y4 y5
    obtain ⟨j, hj, rfl, HU⟩ := hrel
    have hj0 : (0 : Int) ≤ j := by omega
    have hb := HU.out.at HB3.out (by simp)
    have HB := Lib.hid hb
    obtain ⟨y0, y1, y2, y3, y4, y5⟩ := cells6 hb
    have HW := Lib.hid (HU3.out.trans_ext HU.out)
    rcases Nat.lt_or_ge j nms.length with hlt | hge
    · have hltI : (j : Int) < nms.length := by omega
      obtain ⟨x, hx⟩ : ∃ x, nms[j]? = some x := ⟨_, List.getElem?_eq_getElem hlt⟩
      have hxl := HIN.out.2.1 x (List.mem_of_getElem? hx)
      obtain ⟨g, o, rfl, c0⟩ := HN.out j x hx
      replace c0 := up_cell HW.out c0
      have HC := Lib.hid (isName_calls x wr (by omega))
      have hb2 : nameF x = true := List.all_eq_true.1 HAL.out x (List.mem_of_getElem? hx)
      rw [hb2] at HC
      clear hx hb hb2
      go_wp2_with fail
      refine HC.out.mono ?_
      rintro e w5 ⟨rfl, hu5⟩
      have HU5 := Lib.hid (HU.out.trans_ext hu5)
      clear hu5
      go_wp2_with fail
      go_roundw
      case rel => first | exact ⟨j + 1, by omega, by go_num, HU5⟩ | exact ⟨_, _, _, _, _, _, _, _, _, _, _, _, _, _, _, _, ⟨j + 1, by omega, by go_num, HU5⟩, rfl⟩
      case measure => simp [intOf]; omega
    · have hgeI : ¬ (j : Int) < nms.length := by omega
      clear hb q0 q1 q2 hs0 hs1 ha0 hb0 hc0 ha1 hb1 hc1 HH HAL HN
      go_wp2_with fail
      go_ret
      exact ⟨rfl, HW.out⟩
set_option maxRecDepth 100000 in
set_option maxHeartbeats 12800000 in
theorem form_7d (k : Nat) (nn : Int) (nms : List (List UInt8)) (l : List Nd) (hk : sizesF l ≤ k) (hin : inN 10000000 (.mk 7 nms 0 nn 0 l)) (_hk7 : k + 1 ≤ 10000000) (v : Value) (w : World) (P : Nat → Prop) (h : NdV w P (.mk 7 nms 0 nn 0 l) v) (hk0 : ¬ (7 : Int) < 0) (hk1 : ¬ (17 : Int) < 7) (hsb : shapeBad 7 nms.length l.length = false) (hall : nms.all nameF = true) (h1 : ¬ nn < 0) (hz : 7 < nn) : Calls Tryz.prog 53 #[v] w fun e w' => e = .returned (.int .i64 ((2 : Nat) : Int)) ∧ Upto [] w w' := by
  obtain ⟨a1, c1, a2, c2, rfl, hs, hg⟩ := h.open
  unfold inN at hin
  have HG := Lib.hid hg
  obtain ⟨a1', c1', ev, hnm⟩ := hs.get
  obtain ⟨rfl, rfl⟩ : a1 = a1' ∧ c1 = c1' := by simpa using ev
  have HN : Hid (∀ i x, nms[i]? = some x → ∃ g o, a1 = some ⟨g, o, none⟩ ∧ w.cell? ⟨g, o + i, none⟩ = some (.string ⟨x.toArray⟩)) := Lib.hid (fun i x hi => hnm i _ (by rw [List.getElem?_map, hi]; rfl))
  have HSZ := Lib.hid hk
  have HIN := Lib.hid hin
  have HAL := Lib.hid hall
  have hu1 : Upto [] w (w.alloc (.cells #[.int .i64 7, .slice a1 nms.length c1, .int .i64 0, .int .i64 nn, .int .i64 0, .slice a2 l.length c2] 25)) := (Upto.refl [] w).alloc _
  have HB1 := Lib.hid (new_at w (.cells #[.int .i64 7, .slice a1 nms.length c1, .int .i64 0, .int .i64 nn, .int .i64 0, .slice a2 l.length c2] 25))
  have HU1 := Lib.hid hu1
  have hll := hin.2.2.1
  have hnl := hin.1
  have hL0 : (0 : Int) ≤ l.length := by omega
  have hL1 : (l.length : Int) ≤ 10000000 := by omega
  have hN0 : (0 : Int) ≤ nms.length := by omega
  have hN1 : (nms.length : Int) ≤ 10000000 := by omega
  have HH := Lib.hid (has_calls 7)
  obtain ⟨a, b, c, habc, ha17, hb17, hc17⟩ : ∃ a b c : Nat, hasF 7 = (a, b, c) ∧ a ≤ 17 ∧ b ≤ 17 ∧ c ≤ 17 := by
    unfold hasF
    repeat' split
    all_goals exact ⟨_, _, _, rfl, by decide, by decide, by decide⟩
  rw [habc] at HH
  simp only at HH
  obtain ⟨hs0, hs1, hs2⟩ : ¬ nms.length < a ∧ ¬ b < nms.length ∧ l.length = c := by
    unfold shapeBad at hsb
    rw [habc] at hsb
    simp at hsb
    omega
  have ha0 : (0 : Int) ≤ a := by omega
  have hb0 : (0 : Int) ≤ b := by omega
  have hc0 : (0 : Int) ≤ c := by omega
  have ha1 : (a : Int) ≤ 17 := by omega
  have hb1 : (b : Int) ≤ 17 := by omega
  have hc1 : (c : Int) ≤ 17 := by omega
  have q0 : ¬ (nms.length : Int) < a := by omega
  have q1 : ¬ (b : Int) < nms.length := by omega
  have q2 : ((l.length : Int) != (c : Int)) = false := by rw [hs2]; simp
  clear habc hsb hall h hs hg hk hu1 hnm ev hin hs2
  go_enter Tryz.func53, Tryz.ntmps53
  go_wp2_with fail
  refine (HH.out (w.alloc (.cells #[.int .i64 7, .slice a1 nms.length c1, .int .i64 0, .int .i64 nn, .int .i64 0, .slice a2 l.length c2] 25))).mono ?_
  rintro e w3 ⟨rfl, hu3⟩
  have HU3 := Lib.hid (HU1.out.trans_ext hu3)
  have hb3 := hu3.at HB1.out (by simp)
  have HB3 := Lib.hid hb3
  obtain ⟨y0, y1, y2, y3, y4, y5⟩ := cells6 hb3
  clear hu3 hb3
  go_wp2_with fail
  go_loopw [6] (fun i wr => ∃ j : Nat, j ≤ nms.length ∧ i = .int .i64 j ∧ Hid (Upto [] w3 wr)) (fun i _ => nms.length - (intOf i).toNat)
  case atStart => exact ⟨0, by omega, rfl, Lib.hid (Upto.refl _ _)⟩
  case round =>
    clear y0 y1 y2 y3 y4 y5
    obtain ⟨j, hj, rfl, HU⟩ := hrel
    have hj0 : (0 : Int) ≤ j := by omega
    have hb := HU.out.at HB3.out (by simp)
    have HB := Lib.hid hb
    obtain ⟨y0, y1, y2, y3, y4, y5⟩ := cells6 hb
    have HW := Lib.hid (HU3.out.trans_ext HU.out)
    rcases Nat.lt_or_ge j nms.length with hlt | hge
    · have hltI : (j : Int) < nms.length := by omega
      obtain ⟨x, hx⟩ : ∃ x, nms[j]? = some x := ⟨_, List.getElem?_eq_getElem hlt⟩
      have hxl := HIN.out.2.1 x (List.mem_of_getElem? hx)
      obtain ⟨g, o, rfl, c0⟩ := HN.out j x hx
      replace c0 := up_cell HW.out c0
      have HC := Lib.hid (isName_calls x wr (by omega))
      have hb2 : nameF x = true := List.all_eq_true.1 HAL.out x (List.mem_of_getElem? hx)
      rw [hb2] at HC
      clear hx hb hb2
      go_wp2_with fail
      refine HC.out.mono ?_
      rintro e w5 ⟨rfl, hu5⟩
      have HU5 := Lib.hid (HU.out.trans_ext hu5)
      clear hu5
      go_wp2_with fail
      go_roundw
      case rel => first | exact ⟨j + 1, by omega, by go_num, HU5⟩ | exact ⟨_, _, _, _, _, _, _, _, _, _, _, _, _, _, _, _, ⟨j + 1, by omega, by go_num, HU5⟩, rfl⟩
      case measure => simp [intOf]; omega
    · have hgeI : ¬ (j : Int) < nms.length := by omega
      clear hb q0 q1 q2 hs0 hs1 ha0 hb0 hc0 ha1 hb1 hc1 HH HAL HN
      go_wp2_with fail
      go_ret
      exact ⟨rfl, HW.out⟩
set_option maxRecDepth 100000 in
set_option maxHeartbeats 12800000 in
theorem form_7g (k : Nat) (nn : Int) (nms : List (List UInt8)) (l : List Nd) (hk : sizesF l ≤ k) (hin : inN 10000000 (.mk 7 nms 0 nn 0 l)) (_hk7 : k + 1 ≤ 10000000) (v : Value) (w : World) (P : Nat → Prop) (h : NdV w P (.mk 7 nms 0 nn 0 l) v) (hk0 : ¬ (7 : Int) < 0) (hk1 : ¬ (17 : Int) < 7) (hsb : shapeBad 7 nms.length l.length = false) (hall : nms.all nameF = true) (h1 : ¬ nn < 0) (h2 : ¬ 7 < nn) (IH : ∀ (nd : Nd), sizeF nd ≤ k → inN 10000000 nd → ∀ (v : Value) (w : World) (P : Nat → Prop), NdV w P nd v → Calls Tryz.prog 53 #[v] w fun e w' => e = .returned (.int .i64 (formF nameF nd : Nat)) ∧ Upto [] w w') : Calls Tryz.prog 53 #[v] w fun e w' => e = .returned (.int .i64 ((formsF nameF l : Nat) : Int)) ∧ Upto [] w w' := by
  obtain ⟨a1, c1, a2, c2, rfl, hs, hg⟩ := h.open
  unfold inN at hin
  have HG := Lib.hid hg
  obtain ⟨a1', c1', ev, hnm⟩ := hs.get
  obtain ⟨rfl, rfl⟩ : a1 = a1' ∧ c1 = c1' := by simpa using ev
  have HN : Hid (∀ i x, nms[i]? = some x → ∃ g o, a1 = some ⟨g, o, none⟩ ∧ w.cell? ⟨g, o + i, none⟩ = some (.string ⟨x.toArray⟩)) := Lib.hid (fun i x hi => hnm i _ (by rw [List.getElem?_map, hi]; rfl))
  have HSZ := Lib.hid hk
  have HIN := Lib.hid hin
  have HAL := Lib.hid hall
  have hu1 : Upto [] w (w.alloc (.cells #[.int .i64 7, .slice a1 nms.length c1, .int .i64 0, .int .i64 nn, .int .i64 0, .slice a2 l.length c2] 25)) := (Upto.refl [] w).alloc _
  have HB1 := Lib.hid (new_at w (.cells #[.int .i64 7, .slice a1 nms.length c1, .int .i64 0, .int .i64 nn, .int .i64 0, .slice a2 l.length c2] 25))
  have HU1 := Lib.hid hu1
  have hll := hin.2.2.1
  have hnl := hin.1
  have hL0 : (0 : Int) ≤ l.length := by omega
  have hL1 : (l.length : Int) ≤ 10000000 := by omega
  have hN0 : (0 : Int) ≤ nms.length := by omega
  have hN1 : (nms.length : Int) ≤ 10000000 := by omega
  have HH := Lib.hid (has_calls 7)
  obtain ⟨a, b, c, habc, ha17, hb17, hc17⟩ : ∃ a b c : Nat, hasF 7 = (a, b, c) ∧ a ≤ 17 ∧ b ≤ 17 ∧ c ≤ 17 := by
    unfold hasF
    repeat' split
    all_goals exact ⟨_, _, _, rfl, by decide, by decide, by decide⟩
  rw [habc] at HH
  simp only at HH
  obtain ⟨hs0, hs1, hs2⟩ : ¬ nms.length < a ∧ ¬ b < nms.length ∧ l.length = c := by
    unfold shapeBad at hsb
    rw [habc] at hsb
    simp at hsb
    omega
  have ha0 : (0 : Int) ≤ a := by omega
  have hb0 : (0 : Int) ≤ b := by omega
  have hc0 : (0 : Int) ≤ c := by omega
  have ha1 : (a : Int) ≤ 17 := by omega
  have hb1 : (b : Int) ≤ 17 := by omega
  have hc1 : (c : Int) ≤ 17 := by omega
  have q0 : ¬ (nms.length : Int) < a := by omega
  have q1 : ¬ (b : Int) < nms.length := by omega
  have q2 : ((l.length : Int) != (c : Int)) = false := by rw [hs2]; simp
  clear habc hsb hall h hs hg hk hu1 hnm ev hin hs2
  go_enter Tryz.func53, Tryz.ntmps53
  go_wp2_with fail
  refine (HH.out (w.alloc (.cells #[.int .i64 7, .slice a1 nms.length c1, .int .i64 0, .int .i64 nn, .int .i64 0, .slice a2 l.length c2] 25))).mono ?_
  rintro e w3 ⟨rfl, hu3⟩
  have HU3 := Lib.hid (HU1.out.trans_ext hu3)
  have hb3 := hu3.at HB1.out (by simp)
  have HB3 := Lib.hid hb3
  obtain ⟨y0, y1, y2, y3, y4, y5⟩ := cells6 hb3
  clear hu3 hb3
  go_wp2_with fail
  go_loopw [6] (fun i wr => ∃ j : Nat, j ≤ nms.length ∧ i = .int .i64 j ∧ Hid (Upto [] w3 wr)) (fun i _ => nms.length - (intOf i).toNat)
  case atStart => exact ⟨0, by omega, rfl, Lib.hid (Upto.refl _ _)⟩
  case round =>
    clear y0 y1 y2 y3 y4 y5
    obtain ⟨j, hj, rfl, HU⟩ := hrel
    have hj0 : (0 : Int) ≤ j := by omega
    have hb := HU.out.at HB3.out (by simp)
    have HB := Lib.hid hb
    obtain ⟨y0, y1, y2, y3, y4, y5⟩ := cells6 hb
    have HW := Lib.hid (HU3.out.trans_ext HU.out)
    rcases Nat.lt_or_ge j nms.length with hlt | hge
    · have hltI : (j : Int) < nms.length := by omega
      obtain ⟨x, hx⟩ : ∃ x, nms[j]? = some x := ⟨_, List.getElem?_eq_getElem hlt⟩
      have hxl := HIN.out.2.1 x (List.mem_of_getElem? hx)
      obtain ⟨g, o, rfl, c0⟩ := HN.out j x hx
      replace c0 := up_cell HW.out c0
      have HC := Lib.hid (isName_calls x wr (by omega))
      have hb2 : nameF x = true := List.all_eq_true.1 HAL.out x (List.mem_of_getElem? hx)
      rw [hb2] at HC
      clear hx hb hb2
      go_wp2_with fail
      refine HC.out.mono ?_
      rintro e w5 ⟨rfl, hu5⟩
      have HU5 := Lib.hid (HU.out.trans_ext hu5)
      clear hu5
      go_wp2_with fail
      go_roundw
      case rel => first | exact ⟨j + 1, by omega, by go_num, HU5⟩ | exact ⟨_, _, _, _, _, _, _, _, _, _, _, _, _, _, _, _, ⟨j + 1, by omega, by go_num, HU5⟩, rfl⟩
      case measure => simp [intOf]; omega
    · have hgeI : ¬ (j : Int) < nms.length := by omega
      clear hb q0 q1 q2 hs0 hs1 ha0 hb0 hc0 ha1 hb1 hc1 HH HAL HN
      go_wp2_with fail
      go_loopw [7] (fun i wx => ∃ m : Nat, m ≤ l.length ∧ i = .int .i64 m ∧ Hid (formsF nameF (l.drop m) = formsF nameF l) ∧ Hid (Upto [] wr wx)) (fun i _ => l.length - (intOf i).toNat)
      case atStart => exact ⟨0, by omega, rfl, Lib.hid rfl, Lib.hid (Upto.refl _ _)⟩
      case round =>
        clear y0 y1 y2 y3 y4 y5
        obtain ⟨m, hm, rfl, HB9, HV⟩ := hrel
        have hm0 : (0 : Int) ≤ m := by omega
        have hb := HV.out.at HB.out (by simp)
        have y5 := cell_of hb 5
        simp only [List.getElem?_toArray, List.getElem?_cons_zero, List.getElem?_cons_succ] at y5
        have HW2 := Lib.hid (HW.out.trans_ext HV.out)
        rcases Nat.lt_or_ge m l.length with hlt | hge2
        · have hltI : (m : Int) < l.length := by omega
          obtain ⟨x, hx⟩ : ∃ x, l[m]? = some x := ⟨_, List.getElem?_eq_getElem hlt⟩
          have HDR : Hid (l.drop m = x :: l.drop (m + 1)) := Lib.hid (by
            obtain ⟨hi, h3⟩ := List.getElem?_eq_some_iff.1 hx
            rw [List.drop_eq_getElem_cons hi, h3])
          obtain ⟨g, o, xo, xn1, xn2, xn3, xs, xm, xq, xl1, xl2, xl3, rfl, d0, d1, d2, d3, d4, d5, hnx⟩ := HG.out m x hx
          replace d0 := up_cell HW2.out d0
          replace d1 := up_cell HW2.out d1
          replace d2 := up_cell HW2.out d2
          replace d3 := up_cell HW2.out d3
          replace d4 := up_cell HW2.out d4
          replace d5 := up_cell HW2.out d5
          have HC := Lib.hid (IH x (by have := HSZ.out; have := sizesF_mem (List.mem_of_getElem? hx); omega) (insN_mem HIN.out.2.2.2 (List.mem_of_getElem? hx)) _ wr P (hnx.ext HW2.out))
          by_cases hz : formF nameF x = 0
          · have HA2 : Hid (formsF nameF (l.drop (m + 1)) = formsF nameF l) := Lib.hid (by
              rw [← HB9.out, HDR.out]
              conv => rhs; unfold formsF
              rw [hz]
              rfl)
            rw [hz] at HC
            clear hx hb hz hnx
            go_wp2_with fail
            refine HC.out.mono ?_
            rintro e w5 ⟨rfl, hu5⟩
            have HU5 := Lib.hid (HV.out.trans_ext hu5)
            clear hu5
            go_wp2_with fail
            go_roundw
            case rel => first | exact ⟨m + 1, by omega, by go_num, HA2, HU5⟩ | exact ⟨_, _, _, _, _, _, _, _, _, _, _, _, _, _, _, _, _, _, _, ⟨m + 1, by omega, by go_num, HA2, HU5⟩, rfl⟩
            case measure => simp [intOf]; omega
          · have HF : Hid (formsF nameF l = formF nameF x) := Lib.hid (by
              rw [← HB9.out, HDR.out]
              unfold formsF
              rw [if_pos hz])
            generalize hfx : formF nameF x = fx at *
            have ez : ((fx : Int) == 0) = false := by rw [beq_eq_false_iff_ne]; omega
            have ez2 : ((fx : Int) != 0) = true := by rw [bne, ez]; rfl
            clear hx hb hz hnx hfx
            go_wp2_with fail
            refine HC.out.mono ?_
            rintro e w5 ⟨rfl, hu5⟩
            have HU5 := Lib.hid (HW2.out.trans_ext hu5)
            clear hu5
            go_wp2_with fail
            go_ret
            rw [HF.out]
            exact ⟨rfl, HU5.out⟩
        · have hgeJ : ¬ (m : Int) < l.length := by omega
          have HF : Hid (formsF nameF l = 0) := Lib.hid (by
            rw [← HB9.out, List.drop_of_length_le (by omega)]
            rfl)
          clear hb
          go_wp2_with fail
          go_ret
          rw [HF.out]
          exact ⟨rfl, HW2.out⟩
set_option maxRecDepth 100000 in
set_option maxHeartbeats 12800000 in
theorem form_8a (k : Nat) (so nn mm : Int) (nms : List (List UInt8)) (l : List Nd) (hk : sizesF l ≤ k) (hin : inN 10000000 (.mk 8 nms so nn mm l)) (_hk7 : k + 1 ≤ 10000000) (v : Value) (w : World) (P : Nat → Prop) (h : NdV w P (.mk 8 nms so nn mm l) v) (hk0 : ¬ (8 : Int) < 0) (hk1 : ¬ (17 : Int) < 8) (hsb : shapeBad 8 nms.length l.length = false) (hall : nms.all nameF = true) (hz : so ≠ 0) : Calls Tryz.prog 53 #[v] w fun e w' => e = .returned (.int .i64 ((3 : Nat) : Int)) ∧ Upto [] w w' := by
  obtain ⟨a1, c1, a2, c2, rfl, hs, hg⟩ := h.open
  unfold inN at hin
  have HG := Lib.hid hg
  obtain ⟨a1', c1', ev, hnm⟩ := hs.get
  obtain ⟨rfl, rfl⟩ : a1 = a1' ∧ c1 = c1' := by simpa using ev
  have HN : Hid (∀ i x, nms[i]? = some x → ∃ g o, a1 = some ⟨g, o, none⟩ ∧ w.cell? ⟨g, o + i, none⟩ = some (.string ⟨x.toArray⟩)) := Lib.hid (fun i x hi => hnm i _ (by rw [List.getElem?_map, hi]; rfl))
  have HSZ := Lib.hid hk
  have HIN := Lib.hid hin
  have HAL := Lib.hid hall
  have hu1 : Upto [] w (w.alloc (.cells #[.int .i64 8, .slice a1 nms.length c1, .int .i64 so, .int .i64 nn, .int .i64 mm, .slice a2 l.length c2] 25)) := (Upto.refl [] w).alloc _
  have HB1 := Lib.hid (new_at w (.cells #[.int .i64 8, .slice a1 nms.length c1, .int .i64 so, .int .i64 nn, .int .i64 mm, .slice a2 l.length c2] 25))
  have HU1 := Lib.hid hu1
  have hll := hin.2.2.1
  have hnl := hin.1
  have hL0 : (0 : Int) ≤ l.length := by omega
  have hL1 : (l.length : Int) ≤ 10000000 := by omega
  have hN0 : (0 : Int) ≤ nms.length := by omega
  have hN1 : (nms.length : Int) ≤ 10000000 := by omega
  have HH := Lib.hid (has_calls 8)
  obtain ⟨a, b, c, habc, ha17, hb17, hc17⟩ : ∃ a b c : Nat, hasF 8 = (a, b, c) ∧ a ≤ 17 ∧ b ≤ 17 ∧ c ≤ 17 := by
    unfold hasF
    repeat' split
    all_goals exact ⟨_, _, _, rfl, by decide, by decide, by decide⟩
  rw [habc] at HH
  simp only at HH
  obtain ⟨hs0, hs1, hs2⟩ : ¬ nms.length < a ∧ ¬ b < nms.length ∧ l.length = c := by
    unfold shapeBad at hsb
    rw [habc] at hsb
    simp at hsb
    omega
  have ha0 : (0 : Int) ≤ a := by omega
  have hb0 : (0 : Int) ≤ b := by omega
  have hc0 : (0 : Int) ≤ c := by omega
  have ha1 : (a : Int) ≤ 17 := by omega
  have hb1 : (b : Int) ≤ 17 := by omega
  have hc1 : (c : Int) ≤ 17 := by omega
  have q0 : ¬ (nms.length : Int) < a := by omega
  have q1 : ¬ (b : Int) < nms.length := by omega
  have q2 : ((l.length : Int) != (c : Int)) = false := by rw [hs2]; simp
  clear habc hsb hall h hs hg hk hu1 hnm ev hin hs2
  go_enter Tryz.func53, Tryz.ntmps53
  go_wp2_with fail
  refine (HH.out (w.alloc (.cells #[.int .i64 8, .slice a1 nms.length c1, .int .i64 so, .int .i64 nn, .int .i64 mm, .slice a2 l.length c2] 25))).mono ?_
  rintro e w3 ⟨rfl, hu3⟩
  have HU3 := Lib.hid (HU1.out.trans_ext hu3)
  have hb3 := hu3.at HB1.out (by simp)
  have HB3 := Lib.hid hb3
  obtain ⟨y0, y1, y2, y3, y4, y5⟩ := cells6 hb3
  clear hu3 hb3
  go_wp2_with fail
  go_loopw [6] (fun i wr => ∃ j : Nat, j ≤ nms.length ∧ i = .int .i64 j ∧ Hid (Upto [] w3 wr)) (fun i _ => nms.length - (intOf i).toNat)
  case atStart => exact ⟨0, by omega, rfl, Lib.hid (Upto.refl _ _)⟩
  case round =>
    clear y0 y1 y2 y3 y4 y5
    obtain ⟨j, hj, rfl, HU⟩ := hrel
    have hj0 : (0 : Int) ≤ j := by omega
    have hb := HU.out.at HB3.out (by simp)
    have HB := Lib.hid hb
    obtain ⟨y0, y1, y2, y3, y4, y5⟩ := cells6 hb
    have HW := Lib.hid (HU3.out.trans_ext HU.out)
    rcases Nat.lt_or_ge j nms.length with hlt | hge
    · have hltI : (j : Int) < nms.length := by omega
      obtain ⟨x, hx⟩ : ∃ x, nms[j]? = some x := ⟨_, List.getElem?_eq_getElem hlt⟩
      have hxl := HIN.out.2.1 x (List.mem_of_getElem? hx)
      obtain ⟨g, o, rfl, c0⟩ := HN.out j x hx
      replace c0 := up_cell HW.out c0
      have HC := Lib.hid (isName_calls x wr (by omega))
      have hb2 : nameF x = true := List.all_eq_true.1 HAL.out x (List.mem_of_getElem? hx)
      rw [hb2] at HC
      clear hx hb hb2
      go_wp2_with fail
      refine HC.out.mono ?_
      rintro e w5 ⟨rfl, hu5⟩
      have HU5 := Lib.hid (HU.out.trans_ext hu5)
      clear hu5
      go_wp2_with fail
      go_roundw
      case rel => first | exact ⟨j + 1, by omega, by go_num, HU5⟩ | exact ⟨_, _, _, _, _, _, _, _, _, _, _, _, _, _, _, _, ⟨j + 1, by omega, by go_num, HU5⟩, rfl⟩
      case measure => simp [intOf]; omega
    · have hgeI : ¬ (j : Int) < nms.length := by omega
      clear hb q0 q1 q2 hs0 hs1 ha0 hb0 hc0 ha1 hb1 hc1 HH HAL HN
      have eso0 : (so == (0 : Int)) = false := by rw [beq_eq_false_iff_ne]; exact hz
      have fso0 : (so != (0 : Int)) = true := by rw [bne, eso0]; rfl
      go_wp2_with fail
      go_ret
      exact ⟨rfl, HW.out⟩
set_option maxRecDepth 100000 in
set_option maxHeartbeats 12800000 in
theorem form_8b (k : Nat) (nn mm : Int) (nms : List (List UInt8)) (l : List Nd) (hk : sizesF l ≤ k) (hin : inN 10000000 (.mk 8 nms 0 nn mm l)) (_hk7 : k + 1 ≤ 10000000) (v : Value) (w : World) (P : Nat → Prop) (h : NdV w P (.mk 8 nms 0 nn mm l) v) (hk0 : ¬ (8 : Int) < 0) (hk1 : ¬ (17 : Int) < 8) (hsb : shapeBad 8 nms.length l.length = false) (hall : nms.all nameF = true) (hz : mm < 1) : Calls Tryz.prog 53 #[v] w fun e w' => e = .returned (.int .i64 ((2 : Nat) : Int)) ∧ Upto [] w w' := by
  obtain ⟨a1, c1, a2, c2, rfl, hs, hg⟩ := h.open
  unfold inN at hin
  have HG := Lib.hid hg
  obtain ⟨a1', c1', ev, hnm⟩ := hs.get
  obtain ⟨rfl, rfl⟩ : a1 = a1' ∧ c1 = c1' := by simpa using ev
  have HN : Hid (∀ i x, nms[i]? = some x → ∃ g o, a1 = some ⟨g, o, none⟩ ∧ w.cell? ⟨g, o + i, none⟩ = some (.string ⟨x.toArray⟩)) := Lib.hid (fun i x hi => hnm i _ (by rw [List.getElem?_map, hi]; rfl))
  have HSZ := Lib.hid hk
  have HIN := Lib.hid hin
  have HAL := Lib.hid hall
  have hu1 : Upto [] w (w.alloc (.cells #[.int .i64 8, .slice a1 nms.length c1, .int .i64 0, .int .i64 nn, .int .i64 mm, .slice a2 l.length c2] 25)) := (Upto.refl [] w).alloc _
  have HB1 := Lib.hid (new_at w (.cells #[.int .i64 8, .slice a1 nms.length c1, .int .i64 0, .int .i64 nn, .int .i64 mm, .slice a2 l.length c2] 25))
  have HU1 := Lib.hid hu1
  have hll := hin.2.2.1
  have hnl := hin.1
  have hL0 : (0 : Int) ≤ l.length := by omega
  have hL1 : (l.length : Int) ≤ 10000000 := by omega
  have hN0 : (0 : Int) ≤ nms.length := by omega
  have hN1 : (nms.length : Int) ≤ 10000000 := by omega
  have HH := Lib.hid (has_calls 8)
  obtain ⟨a, b, c, habc, ha17, hb17, hc17⟩ : ∃ a b c : Nat, hasF 8 = (a, b, c) ∧ a ≤ 17 ∧ b ≤ 17 ∧ c ≤ 17 := by
    unfold hasF
    repeat' split
    all_goals exact ⟨_, _, _, rfl, by decide, by decide, by decide⟩
  rw [habc] at HH
  simp only at HH
  obtain ⟨hs0, hs1, hs2⟩ : ¬ nms.length < a ∧ ¬ b < nms.length ∧ l.length = c := by
    unfold shapeBad at hsb
    rw [habc] at hsb
    simp at hsb
    omega
  have ha0 : (0 : Int) ≤ a := by omega
  have hb0 : (0 : Int) ≤ b := by omega
  have hc0 : (0 : Int) ≤ c := by omega
  have ha1 : (a : Int) ≤ 17 := by omega
  have hb1 : (b : Int) ≤ 17 := by omega
  have hc1 : (c : Int) ≤ 17 := by omega
  have q0 : ¬ (nms.length : Int) < a := by omega
  have q1 : ¬ (b : Int) < nms.length := by omega
  have q2 : ((l.length : Int) != (c : Int)) = false := by rw [hs2]; simp
  clear habc hsb hall h hs hg hk hu1 hnm ev hin hs2
  go_enter Tryz.func53, Tryz.ntmps53
  go_wp2_with fail
  refine (HH.out (w.alloc (.cells #[.int .i64 8, .slice a1 nms.length c1, .int .i64 0, .int .i64 nn, .int .i64 mm, .slice a2 l.length c2] 25))).mono ?_
  rintro e w3 ⟨rfl, hu3⟩
  have HU3 := Lib.hid (HU1.out.trans_ext hu3)
  have hb3 := hu3.at HB1.out (by simp)
  have HB3 := Lib.hid hb3
  obtain ⟨y0, y1, y2, y3, y4, y5⟩ := cells6 hb3
  clear hu3 hb3
  go_wp2_with fail
  go_loopw [6] (fun i wr => ∃ j : Nat, j ≤ nms.length ∧ i = .int .i64 j ∧ Hid (Upto [] w3 wr)) (fun i _ => nms.length - (intOf i).toNat)
  case atStart => exact ⟨0, by omega, rfl, Lib.hid (Upto.refl _ _)⟩
  case round =>
    clear y0 y1 y2 y3 y4 y5
    obtain ⟨j, hj, rfl, HU⟩ := hrel
    have hj0 : (0 : Int) ≤ j := by omega
    have hb := HU.out.at HB3.out (by simp)
    have HB := Lib.hid hb
    obtain ⟨y0, y1, y2, y3, y4, y5⟩ := cells6 hb
    have HW := Lib.hid (HU3.out.trans_ext HU.out)
    rcases Nat.lt_or_ge j nms.length with hlt | hge
    · have hltI : (j : Int) < nms.length := by omega
      obtain ⟨x, hx⟩ : ∃ x, nms[j]? = some x := ⟨_, List.getElem?_eq_getElem hlt⟩
      have hxl := HIN.out.2.1 x (List.mem_of_getElem? hx)
      obtain ⟨g, o, rfl, c0⟩ := HN.out j x hx
      replace c0 := up_cell HW.out c0
      have HC := Lib.hid (isName_calls x wr (by omega))
      have hb2 : nameF x = true := List.all_eq_true.1 HAL.out x (List.mem_of_getElem? hx)
      rw [hb2] at HC
      clear hx hb hb2
      go_wp2_with fail
      refine HC.out.mono ?_
      rintro e w5 ⟨rfl, hu5⟩
      have HU5 := Lib.hid (HU.out.trans_ext hu5)
      clear hu5
      go_wp2_with fail
      go_roundw
      case rel => first | exact ⟨j + 1, by omega, by go_num, HU5⟩ | exact ⟨_, _, _, _, _, _, _, _, _, _, _, _, _, _, _, _, ⟨j + 1, by omega, by go_num, HU5⟩, rfl⟩
      case measure => simp [intOf]; omega
    · have hgeI : ¬ (j : Int) < nms.length := by omega
      clear hb q0 q1 q2 hs0 hs1 ha0 hb0 hc0 ha1 hb1 hc1 HH HAL HN
      go_wp2_with fail
      go_ret
      exact ⟨rfl, HW.out⟩
set_option maxRecDepth 100000 in
set_option maxHeartbeats 12800000 in
theorem form_8c (k : Nat) (nn mm : Int) (nms : List (List UInt8)) (l : List Nd) (hk : sizesF l ≤ k) (hin : inN 10000000 (.mk 8 nms 0 nn mm l)) (_hk7 : k + 1 ≤ 10000000) (v : Value) (w : World) (P : Nat → Prop) (h : NdV w P (.mk 8 nms 0 nn mm l) v) (hk0 : ¬ (8 : Int) < 0) (hk1 : ¬ (17 : Int) < 8) (hsb : shapeBad 8 nms.length l.length = false) (hall : nms.all nameF = true) (h1 : ¬ mm < 1) (hz : 64 < mm) : Calls Tryz.prog 53 #[v] w fun e w' => e = .returned (.int .i64 ((2 : Nat) : Int)) ∧ Upto [] w w' := by
  obtain ⟨a1, c1, a2, c2, rfl, hs, hg⟩ := h.open
  unfold inN at hin
  have HG := Lib.hid hg
  obtain ⟨a1', c1', ev, hnm⟩ := hs.get
  obtain ⟨rfl, rfl⟩ : a1 = a1' ∧ c1 = c1' := by simpa using ev
  have HN : Hid (∀ i x, nms[i]? = some x → ∃ g o, a1 = some ⟨g, o, none⟩ ∧ w.cell? ⟨g, o + i, none⟩ = some (.string ⟨x.toArray⟩)) := Lib.hid (fun i x hi => hnm i _ (by rw [List.getElem?_map, hi]; rfl))
  have HSZ := Lib.hid hk
  have HIN := Lib.hid hin
  have HAL := Lib.hid hall
  have hu1 : Upto [] w (w.alloc (.cells #[.int .i64 8, .slice a1 nms.length c1, .int .i64 0, .int .i64 nn, .int .i64 mm, .slice a2 l.length c2] 25)) := (Upto.refl [] w).alloc _
  have HB1 := Lib.hid (new_at w (.cells #[.int .i64 8, .slice a1 nms.length c1, .int .i64 0, .int .i64 nn, .int .i64 mm, .slice a2 l.length c2] 25))
  have HU1 := Lib.hid hu1
  have hll := hin.2.2.1
  have hnl := hin.1
  have hL0 : (0 : Int) ≤ l.length := by omega
  have hL1 : (l.length : Int) ≤ 10000000 := by omega
  have hN0 : (0 : Int) ≤ nms.length := by omega
  have hN1 : (nms.length : Int) ≤ 10000000 := by omega
  have HH := Lib.hid (has_calls 8)
  obtain ⟨a, b, c, habc, ha17, hb17, hc17⟩ : ∃ a b c : Nat, hasF 8 = (a, b, c) ∧ a ≤ 17 ∧ b ≤ 17 ∧ c ≤ 17 := by
    unfold hasF
    repeat' split
    all_goals exact ⟨_, _, _, rfl, by decide, by decide, by decide⟩
  rw [habc] at HH
  simp only at HH
  obtain ⟨hs0, hs1, hs2⟩ : ¬ nms.length < a ∧ ¬ b < nms.length ∧ l.length = c := by
    unfold shapeBad at hsb
    rw [habc] at hsb
    simp at hsb
    omega
  have ha0 : (0 : Int) ≤ a := by omega
  have hb0 : (0 : Int) ≤ b := by omega
  have hc0 : (0 : Int) ≤ c := by omega
  have ha1 : (a : Int) ≤ 17 := by omega
  have hb1 : (b : Int) ≤ 17 := by omega
  have hc1 : (c : Int) ≤ 17 := by omega
  have q0 : ¬ (nms.length : Int) < a := by omega
  have q1 : ¬ (b : Int) < nms.length := by omega
  have q2 : ((l.length : Int) != (c : Int)) = false := by rw [hs2]; simp
  clear habc hsb hall h hs hg hk hu1 hnm ev hin hs2
  go_enter Tryz.func53, Tryz.ntmps53
  go_wp2_with fail
  refine (HH.out (w.alloc (.cells #[.int .i64 8, .slice a1 nms.length c1, .int .i64 0, .int .i64 nn, .int .i64 mm, .slice a2 l.length c2] 25))).mono ?_
  rintro e w3 ⟨rfl, hu3⟩
  have HU3 := Lib.hid (HU1.out.trans_ext hu3)
  have hb3 := hu3.at HB1.out (by simp)
  have HB3 := Lib.hid hb3
  obtain ⟨y0, y1, y2, y3, y4, y5⟩ := cells6 hb3
  clear hu3 hb3
  go_wp2_with fail
  go_loopw [6] (fun i wr => ∃ j : Nat, j ≤ nms.length ∧ i = .int .i64 j ∧ Hid (Upto [] w3 wr)) (fun i _ => nms.length - (intOf i).toNat)
  case atStart => exact ⟨0, by omega, rfl, Lib.hid (Upto.refl _ _)⟩
  case round =>
    clear y0 y1 y2 y3 y4 y5
    obtain ⟨j, hj, rfl, HU⟩ := hrel
    have hj0 : (0 : Int) ≤ j := by omega
    have hb := HU.out.at HB3.out (by simp)
    have HB := Lib.hid hb
    obtain ⟨y0, y1, y2, y3, y4, y5⟩ := cells6 hb
    have HW := Lib.hid (HU3.out.trans_ext HU.out)
    rcases Nat.lt_or_ge j nms.length with hlt | hge
    · have hltI : (j : Int) < nms.length := by omega
      obtain ⟨x, hx⟩ : ∃ x, nms[j]? = some x := ⟨_, List.getElem?_eq_getElem hlt⟩
      have hxl := HIN.out.2.1 x (List.mem_of_getElem? hx)
      obtain ⟨g, o, rfl, c0⟩ := HN.out j x hx
      replace c0 := up_cell HW.out c0
      have HC := Lib.hid (isName_calls x wr (by omega))
      have hb2 : nameF x = true := List.all_eq_true.1 HAL.out x (List.mem_of_getElem? hx)
      rw [hb2] at HC
      clear hx hb hb2
      go_wp2_with fail
      refine HC.out.mono ?_
      rintro e w5 ⟨rfl, hu5⟩
      have HU5 := Lib.hid (HU.out.trans_ext hu5)
      clear hu5
      go_wp2_with fail
      go_roundw
      case rel => first | exact ⟨j + 1, by omega, by go_num, HU5⟩ | exact ⟨_, _, _, _, _, _, _, _, _, _, _, _, _, _, _, _, ⟨j + 1, by omega, by go_num, HU5⟩, rfl⟩
      case measure => simp [intOf]; omega
    · have hgeI : ¬ (j : Int) < nms.length := by omega
      clear hb q0 q1 q2 hs0 hs1 ha0 hb0 hc0 ha1 hb1 hc1 HH HAL HN
      go_wp2_with fail
      go_ret
      exact ⟨rfl, HW.out⟩
set_option maxRecDepth 100000 in
set_option maxHeartbeats 12800000 in
theorem form_8d (k : Nat) (nn mm : Int) (nms : List (List UInt8)) (l : List Nd) (hk : sizesF l ≤ k) (hin : inN 10000000 (.mk 8 nms 0 nn mm l)) (_hk7 : k + 1 ≤ 10000000) (v : Value) (w : World) (P : Nat → Prop) (h : NdV w P (.mk 8 nms 0 nn mm l) v) (hk0 : ¬ (8 : Int) < 0) (hk1 : ¬ (17 : Int) < 8) (hsb : shapeBad 8 nms.length l.length = false) (hall : nms.all nameF = true) (h1 : ¬ mm < 1) (h2 : ¬ 64 < mm) (hz : nn < 0) : Calls Tryz.prog 53 #[v] w fun e w' => e = .returned (.int .i64 ((2 : Nat) : Int)) ∧ Upto [] w w' := by
  obtain ⟨a1, c1, a2, c2, rfl, hs, hg⟩ := h.open
  unfold inN at hin
  have HG := Lib.hid hg
  obtain ⟨a1', c1', ev, hnm⟩ := hs.get
  obtain ⟨rfl, rfl⟩ : a1 = a1' ∧ c1 = c1' := by simpa using ev
  have HN : Hid (∀ i x, nms[i]? = some x → ∃ g o, a1 = some ⟨g, o, none⟩ ∧ w.cell? ⟨g, o + i, none⟩ = some (.string ⟨x.toArray⟩)) := Lib.hid (fun i x hi => hnm i _ (by rw [List.getElem?_map, hi]; rfl))
  have HSZ := Lib.hid hk
  have HIN := Lib.hid hin
  have HAL := Lib.hid hall
  have hu1 : Upto [] w (w.alloc (.cells #[.int .i64 8, .slice a1 nms.length c1, .int .i64 0, .int .i64 nn, .int .i64 mm, .slice a2 l.length c2] 25)) := (Upto.refl [] w).alloc _
  have HB1 := Lib.hid (new_at w (.cells #[.int .i64 8, .slice a1 nms.length c1, .int .i64 0, .int .i64 nn, .int .i64 mm, .slice a2 l.length c2] 25))
  have HU1 := Lib.hid hu1
  have hll := hin.2.2.1
  have hnl := hin.1
  have hL0 : (0 : Int) ≤ l.length := by omega
  have hL1 : (l.length : Int) ≤ 10000000 := by omega
  have hN0 : (0 : Int) ≤ nms.length := by omega
  have hN1 : (nms.length : Int) ≤ 10000000 := by omega
  have HH := Lib.hid (has_calls 8)
  obtain ⟨a, b, c, habc, ha17, hb17, hc17⟩ : ∃ a b c : Nat, hasF 8 = (a, b, c) ∧ a ≤ 17 ∧ b ≤ 17 ∧ c ≤ 17 := by
    unfold hasF
    repeat' split
    all_goals exact ⟨_, _, _, rfl, by decide, by decide, by decide⟩
  rw [habc] at HH
  simp only at HH
  obtain ⟨hs0, hs1, hs2⟩ : ¬ nms.length < a ∧ ¬ b < nms.length ∧ l.length = c := by
    unfold shapeBad at hsb
    rw [habc] at hsb
    simp at hsb
    omega
  have ha0 : (0 : Int) ≤ a := by omega
  have hb0 : (0 : Int) ≤ b := by omega
  have hc0 : (0 : Int) ≤ c := by omega
  have ha1 : (a : Int) ≤ 17 := by omega
  have hb1 : (b : Int) ≤ 17 := by omega
  have hc1 : (c : Int) ≤ 17 := by omega
  have q0 : ¬ (nms.length : Int) < a := by omega
  have q1 : ¬ (b : Int) < nms.length := by omega
  have q2 : ((l.length : Int) != (c : Int)) = false := by rw [hs2]; simp
  clear habc hsb hall h hs hg hk hu1 hnm ev hin hs2
  go_enter Tryz.func53, Tryz.ntmps53
  go_wp2_with fail
  refine (HH.out (w.alloc (.cells #[.int .i64 8, .slice a1 nms.length c1, .int .i64 0, .int .i64 nn, .int .i64 mm, .slice a2 l.length c2] 25))).mono ?_
  rintro e w3 ⟨rfl, hu3⟩
  have HU3 := Lib.hid (HU1.out.trans_ext hu3)
  have hb3 := hu3.at HB1.out (by simp)
  have HB3 := Lib.hid hb3
  obtain ⟨y0, y1, y2, y3, y4, y5⟩ := cells6 hb3
  clear hu3 hb3
  go_wp2_with fail
  go_loopw [6] (fun i wr => ∃ j : Nat, j ≤ nms.length ∧ i = .int .i64 j ∧ Hid (Upto [] w3 wr)) (fun i _ => nms.length - (intOf i).toNat)
  case atStart => exact ⟨0, by omega, rfl, Lib.hid (Upto.refl _ _)⟩
  case round =>
    clear y0 y1 y2 y3 y4 y5
    obtain ⟨j, hj, rfl, HU⟩ := hrel
    have hj0 : (0 : Int) ≤ j := by omega
    have hb := HU.out.at HB3.out (by simp)
    have HB := Lib.hid hb
    obtain ⟨y0, y1, y2, y3, y4, y5⟩ := cells6 hb
    have HW := Lib.hid (HU3.out.trans_ext HU.out)
    rcases Nat.lt_or_ge j nms.length with hlt | hge
    · have hltI : (j : Int) < nms.length := by omega
      obtain ⟨x, hx⟩ : ∃ x, nms[j]? = some x := ⟨_, List.getElem?_eq_getElem hlt⟩
      have hxl := HIN.out.2.1 x (List.mem_of_getElem? hx)
      obtain ⟨g, o, rfl, c0⟩ := HN.out j x hx
      replace c0 := up_cell HW.out c0
      have HC := Lib.hid (isName_calls x wr (by omega))
      have hb2 : nameF x = true := List.all_eq_true.1 HAL.out x (List.mem_of_getElem? hx)
      rw [hb2] at HC
      clear hx hb hb2
      go_wp2_with fail
      refine HC.out.mono ?_
      rintro e w5 ⟨rfl, hu5⟩
      have HU5 := Lib.hid (HU.out.trans_ext hu5)
      clear hu5
      go_wp2_with fail
      go_roundw
      case rel => first | exact ⟨j + 1, by omega, by go_num, HU5⟩ | exact ⟨_, _, _, _, _, _, _, _, _, _, _, _, _, _, _, _, ⟨j + 1, by omega, by go_num, HU5⟩, rfl⟩
      case measure => simp [intOf]; omega
    · have hgeI : ¬ (j : Int) < nms.length := by omega
      clear hb q0 q1 q2 hs0 hs1 ha0 hb0 hc0 ha1 hb1 hc1 HH HAL HN
      go_wp2_with fail
      go_ret
      exact ⟨rfl, HW.out⟩
set_option maxRecDepth 100000 in
set_option maxHeartbeats 12800000 in
theorem form_8e (k : Nat) (nn mm : Int) (nms : List (List UInt8)) (l : List Nd) (hk : sizesF l ≤ k) (hin : inN 10000000 (.mk 8 nms 0 nn mm l)) (_hk7 : k + 1 ≤ 10000000) (v : Value) (w : World) (P : Nat → Prop) (h : NdV w P (.mk 8 nms 0 nn mm l) v) (hk0 : ¬ (8 : Int) < 0) (hk1 : ¬ (17 : Int) < 8) (hsb : shapeBad 8 nms.length l.length = false) (hall : nms.all nameF = true) (h1 : ¬ mm < 1) (h2 : ¬ 64 < mm) (h3 : ¬ nn < 0) (hz : mm ≤ nn) : Calls Tryz.prog 53 #[v] w fun e w' => e = .returned (.int .i64 ((2 : Nat) : Int)) ∧ Upto [] w w' := by
  obtain ⟨a1, c1, a2, c2, rfl, hs, hg⟩ := h.open
  unfold inN at hin
  have HG := Lib.hid hg
  obtain ⟨a1', c1', ev, hnm⟩ := hs.get
  obtain ⟨rfl, rfl⟩ : a1 = a1' ∧ c1 = c1' := by simpa using ev
  have HN : Hid (∀ i x, nms[i]? = some x → ∃ g o, a1 = some ⟨g, o, none⟩ ∧ w.cell? ⟨g, o + i, none⟩ = some (.string ⟨x.toArray⟩)) := Lib.hid (fun i x hi => hnm i _ (by rw [List.getElem?_map, hi]; rfl))
  have HSZ := Lib.hid hk
  have HIN := Lib.hid hin
  have HAL := Lib.hid hall
  have hu1 : Upto [] w (w.alloc (.cells #[.int .i64 8, .slice a1 nms.length c1, .int .i64 0, .int .i64 nn, .int .i64 mm, .slice a2 l.length c2] 25)) := (Upto.refl [] w).alloc _
  have HB1 := Lib.hid (new_at w (.cells #[.int .i64 8, .slice a1 nms.length c1, .int .i64 0, .int .i64 nn, .int .i64 mm, .slice a2 l.length c2] 25))
  have HU1 := Lib.hid hu1
  have hll := hin.2.2.1
  have hnl := hin.1
  have hL0 : (0 : Int) ≤ l.length := by omega
  have hL1 : (l.length : Int) ≤ 10000000 := by omega
  have hN0 : (0 : Int) ≤ nms.length := by omega
  have hN1 : (nms.length : Int) ≤ 10000000 := by omega
  have HH := Lib.hid (has_calls 8)
  obtain ⟨a, b, c, habc, ha17, hb17, hc17⟩ : ∃ a b c : Nat, hasF 8 = (a, b, c) ∧ a ≤ 17 ∧ b ≤ 17 ∧ c ≤ 17 := by
    unfold hasF
    repeat' split
    all_goals exact ⟨_, _, _, rfl, by decide, by decide, by decide⟩
  rw [habc] at HH
  simp only at HH
  obtain ⟨hs0, hs1, hs2⟩ : ¬ nms.length < a ∧ ¬ b < nms.length ∧ l.length = c := by
    unfold shapeBad at hsb
    rw [habc] at hsb
    simp at hsb
    omega
  have ha0 : (0 : Int) ≤ a := by omega
  have hb0 : (0 : Int) ≤ b := by omega
  have hc0 : (0 : Int) ≤ c := by omega
  have ha1 : (a : Int) ≤ 17 := by omega
  have hb1 : (b : Int) ≤ 17 := by omega
  have hc1 : (c : Int) ≤ 17 := by omega
  have q0 : ¬ (nms.length : Int) < a := by omega
  have q1 : ¬ (b : Int) < nms.length := by omega
  have q2 : ((l.length : Int) != (c : Int)) = false := by rw [hs2]; simp
  clear habc hsb hall h hs hg hk hu1 hnm ev hin hs2
  go_enter Tryz.func53, Tryz.ntmps53
  go_wp2_with fail
  refine (HH.out (w.alloc (.cells #[.int .i64 8, .slice a1 nms.length c1, .int .i64 0, .int .i64 nn, .int .i64 mm, .slice a2 l.length c2] 25))).mono ?_
  rintro e w3 ⟨rfl, hu3⟩
  have HU3 := Lib.hid (HU1.out.trans_ext hu3)
  have hb3 := hu3.at HB1.out (by simp)
  have HB3 := Lib.hid hb3
  obtain ⟨y0, y1, y2, y3, y4, y5⟩ := cells6 hb3
  clear hu3 hb3
  go_wp2_with fail
  go_loopw [6] (fun i wr => ∃ j : Nat, j ≤ nms.length ∧ i = .int .i64 j ∧ Hid (Upto [] w3 wr)) (fun i _ => nms.length - (intOf i).toNat)
  case atStart => exact ⟨0, by omega, rfl, Lib.hid (Upto.refl _ _)⟩
  case round =>
    clear y0 y1 y2 y3 y4 y5
    obtain ⟨j, hj, rfl, HU⟩ := hrel
    have hj0 : (0 : Int) ≤ j := by omega
    have hb := HU.out.at HB3.out (by simp)
    have HB := Lib.hid hb
    obtain ⟨y0, y1, y2, y3, y4, y5⟩ := cells6 hb
    have HW := Lib.hid (HU3.out.trans_ext HU.out)
    rcases Nat.lt_or_ge j nms.length with hlt | hge
    · have hltI : (j : Int) < nms.length := by omega
      obtain ⟨x, hx⟩ : ∃ x, nms[j]? = some x := ⟨_, List.getElem?_eq_getElem hlt⟩
      have hxl := HIN.out.2.1 x (List.mem_of_getElem? hx)
      obtain ⟨g, o, rfl, c0⟩ := HN.out j x hx
      replace c0 := up_cell HW.out c0
      have HC := Lib.hid (isName_calls x wr (by omega))
      have hb2 : nameF x = true := List.all_eq_true.1 HAL.out x (List.mem_of_getElem? hx)
      rw [hb2] at HC
      clear hx hb hb2
      go_wp2_with fail
      refine HC.out.mono ?_
      rintro e w5 ⟨rfl, hu5⟩
      have HU5 := Lib.hid (HU.out.trans_ext hu5)
      clear hu5
      go_wp2_with fail
      go_roundw
      case rel => first | exact ⟨j + 1, by omega, by go_num, HU5⟩ | exact ⟨_, _, _, _, _, _, _, _, _, _, _, _, _, _, _, _, ⟨j + 1, by omega, by go_num, HU5⟩, rfl⟩
      case measure => simp [intOf]; omega
    · have hgeI : ¬ (j : Int) < nms.length := by omega
      clear hb q0 q1 q2 hs0 hs1 ha0 hb0 hc0 ha1 hb1 hc1 HH HAL HN
      go_wp2_with fail
      go_ret
      exact ⟨rfl, HW.out⟩
set_option maxRecDepth 100000 in
set_option maxHeartbeats 12800000 in
theorem form_8g (k : Nat) (nn mm : Int) (nms : List (List UInt8)) (l : List Nd) (hk : sizesF l ≤ k) (hin : inN 10000000 (.mk 8 nms 0 nn mm l)) (_hk7 : k + 1 ≤ 10000000) (v : Value) (w : World) (P : Nat → Prop) (h : NdV w P (.mk 8 nms 0 nn mm l) v) (hk0 : ¬ (8 : Int) < 0) (hk1 : ¬ (17 : Int) < 8) (hsb : shapeBad 8 nms.length l.length = false) (hall : nms.all nameF = true) (h1 : ¬ mm < 1) (h2 : ¬ 64 < mm) (h3 : ¬ nn < 0) (h4 : ¬ mm ≤ nn) (IH : ∀ (nd : Nd), sizeF nd ≤ k → inN 10000000 nd → ∀ (v : Value) (w : World) (P : Nat → Prop), NdV w P nd v → Calls Tryz.prog 53 #[v] w fun e w' => e = .returned (.int .i64 (formF nameF nd : Nat)) ∧ Upto [] w w') : Calls Tryz.prog 53 #[v] w fun e w' => e = .returned (.int .i64 ((formsF nameF l : Nat) : Int)) ∧ Upto [] w w' := by
  obtain ⟨a1, c1, a2, c2, rfl, hs, hg⟩ := h.open
  unfold inN at hin
  have HG := Lib.hid hg
  obtain ⟨a1', c1', ev, hnm⟩ := hs.get
  obtain ⟨rfl, rfl⟩ : a1 = a1' ∧ c1 = c1' := by simpa using ev
  have HN : Hid (∀ i x, nms[i]? = some x → ∃ g o, a1 = some ⟨g, o, none⟩ ∧ w.cell? ⟨g, o + i, none⟩ = some (.string ⟨x.toArray⟩)) := Lib.hid (fun i x hi => hnm i _ (by rw [List.getElem?_map, hi]; rfl))
  have HSZ := Lib.hid hk
  have HIN := Lib.hid hin
  have HAL := Lib.hid hall
  have hu1 : Upto [] w (w.alloc (.cells #[.int .i64 8, .slice a1 nms.length c1, .int .i64 0, .int .i64 nn, .int .i64 mm, .slice a2 l.length c2] 25)) := (Upto.refl [] w).alloc _
  have HB1 := Lib.hid (new_at w (.cells #[.int .i64 8, .slice a1 nms.length c1, .int .i64 0, .int .i64 nn, .int .i64 mm, .slice a2 l.length c2] 25))
  have HU1 := Lib.hid hu1
  have hll := hin.2.2.1
  have hnl := hin.1
  have hL0 : (0 : Int) ≤ l.length := by omega
  have hL1 : (l.length : Int) ≤ 10000000 := by omega
  have hN0 : (0 : Int) ≤ nms.length := by omega
  have hN1 : (nms.length : Int) ≤ 10000000 := by omega
  have HH := Lib.hid (has_calls 8)
  obtain ⟨a, b, c, habc, ha17, hb17, hc17⟩ : ∃ a b c : Nat, hasF 8 = (a, b, c) ∧ a ≤ 17 ∧ b ≤ 17 ∧ c ≤ 17 := by
    unfold hasF
    repeat' split
    all_goals exact ⟨_, _, _, rfl, by decide, by decide, by decide⟩
  rw [habc] at HH
  simp only at HH
  obtain ⟨hs0, hs1, hs2⟩ : ¬ nms.length < a ∧ ¬ b < nms.length ∧ l.length = c := by
    unfold shapeBad at hsb
    rw [habc] at hsb
    simp at hsb
    omega
  have ha0 : (0 : Int) ≤ a := by omega
  have hb0 : (0 : Int) ≤ b := by omega
  have hc0 : (0 : Int) ≤ c := by omega
  have ha1 : (a : Int) ≤ 17 := by omega
  have hb1 : (b : Int) ≤ 17 := by omega
  have hc1 : (c : Int) ≤ 17 := by omega
  have q0 : ¬ (nms.length : Int) < a := by omega
  have q1 : ¬ (b : Int) < nms.length := by omega
  have q2 : ((l.length : Int) != (c : Int)) = false := by rw [hs2]; simp
  clear habc hsb hall h hs hg hk hu1 hnm ev hin hs2
  go_enter Tryz.func53, Tryz.ntmps53
  go_wp2_with fail
  refine (HH.out (w.alloc (.cells #[.int .i64 8, .slice a1 nms.length c1, .int .i64 0, .int .i64 nn, .int .i64 mm, .slice a2 l.length c2] 25))).mono ?_
  rintro e w3 ⟨rfl, hu3⟩
  have HU3 := Lib.hid (HU1.out.trans_ext hu3)
  have hb3 := hu3.at HB1.out (by simp)
  have HB3 := Lib.hid hb3
  obtain ⟨y0, y1, y2, y3, y4, y5⟩ := cells6 hb3
  clear hu3 hb3
  go_wp2_with fail
  go_loopw [6] (fun i wr => ∃ j : Nat, j ≤ nms.length ∧ i = .int .i64 j ∧ Hid (Upto [] w3 wr)) (fun i _ => nms.length - (intOf i).toNat)
  case atStart => exact ⟨0, by omega, rfl, Lib.hid (Upto.refl _ _)⟩
  case round =>
    clear y0 y1 y2 y3 y4 y5
    obtain ⟨j, hj, rfl, HU⟩ := hrel
    have hj0 : (0 : Int) ≤ j := by omega
    have hb := HU.out.at HB3.out (by simp)
    have HB := Lib.hid hb
    obtain ⟨y0, y1, y2, y3, y4, y5⟩ := cells6 hb
    have HW := Lib.hid (HU3.out.trans_ext HU.out)
    rcases Nat.lt_or_ge j nms.length with hlt | hge
    · have hltI : (j : Int) < nms.length := by omega
      obtain ⟨x, hx⟩ : ∃ x, nms[j]? = some x := ⟨_, List.getElem?_eq_getElem hlt⟩
      have hxl := HIN.out.2.1 x (List.mem_of_getElem? hx)
      obtain ⟨g, o, rfl, c0⟩ := HN.out j x hx
      replace c0 := up_cell HW.out c0
      have HC := Lib.hid (isName_calls x wr (by omega))
      have hb2 : nameF x = true := List.all_eq_true.1 HAL.out x (List.mem_of_getElem? hx)
      rw [hb2] at HC
      clear hx hb hb2
      go_wp2_with fail
      refine HC.out.mono ?_
      rintro e w5 ⟨rfl, hu5⟩
      have HU5 := Lib.hid (HU.out.trans_ext hu5)
      clear hu5
      go_wp2_with fail
      go_roundw
      case rel => first | exact ⟨j + 1, by omega, by go_num, HU5⟩ | exact ⟨_, _, _, _, _, _, _, _, _, _, _, _, _, _, _, _, ⟨j + 1, by omega, by go_num, HU5⟩, rfl⟩
      case measure => simp [intOf]; omega
    · have hgeI : ¬ (j : Int) < nms.length := by omega
      clear hb q0 q1 q2 hs0 hs1 ha0 hb0 hc0 ha1 hb1 hc1 HH HAL HN
      go_wp2_with fail
      go_loopw [7] (fun i wx => ∃ m : Nat, m ≤ l.length ∧ i = .int .i64 m ∧ Hid (formsF nameF (l.drop m) = formsF nameF l) ∧ Hid (Upto [] wr wx)) (fun i _ => l.length - (intOf i).toNat)
      case atStart => exact ⟨0, by omega, rfl, Lib.hid rfl, Lib.hid (Upto.refl _ _)⟩
      case round =>
        clear y0 y1 y2 y3 y4 y5
        obtain ⟨m, hm, rfl, HB9, HV⟩ := hrel
        have hm0 : (0 : Int) ≤ m := by omega
        have hb := HV.out.at HB.out (by simp)
        have y5 := cell_of hb 5
        simp only [List.getElem?_toArray, List.getElem?_cons_zero, List.getElem?_cons_succ] at y5
        have HW2 := Lib.hid (HW.out.trans_ext HV.out)
        rcases Nat.lt_or_ge m l.length with hlt | hge2
        · have hltI : (m : Int) < l.length := by omega
          obtain ⟨x, hx⟩ : ∃ x, l[m]? = some x := ⟨_, List.getElem?_eq_getElem hlt⟩
          have HDR : Hid (l.drop m = x :: l.drop (m + 1)) := Lib.hid (by
            obtain ⟨hi, h3⟩ := List.getElem?_eq_some_iff.1 hx
            rw [List.drop_eq_getElem_cons hi, h3])
          obtain ⟨g, o, xo, xn1, xn2, xn3, xs, xm, xq, xl1, xl2, xl3, rfl, d0, d1, d2, d3, d4, d5, hnx⟩ := HG.out m x hx
          replace d0 := up_cell HW2.out d0
          replace d1 := up_cell HW2.out d1
          replace d2 := up_cell HW2.out d2
          replace d3 := up_cell HW2.out d3
          replace d4 := up_cell HW2.out d4
          replace d5 := up_cell HW2.out d5
          have HC := Lib.hid (IH x (by have := HSZ.out; have := sizesF_mem (List.mem_of_getElem? hx); omega) (insN_mem HIN.out.2.2.2 (List.mem_of_getElem? hx)) _ wr P (hnx.ext HW2.out))
          by_cases hz : formF nameF x = 0
          · have HA2 : Hid (formsF nameF (l.drop (m + 1)) = formsF nameF l) := Lib.hid (by
              rw [← HB9.out, HDR.out]
              conv => rhs; unfold formsF
              rw [hz]
              rfl)
            rw [hz] at HC
            clear hx hb hz hnx
            go_wp2_with fail
            refine HC.out.mono ?_
            rintro e w5 ⟨rfl, hu5⟩
            have HU5 := Lib.hid (HV.out.trans_ext hu5)
            clear hu5
            go_wp2_with fail
            go_roundw
            case rel => first | exact ⟨m + 1, by omega, by go_num, HA2, HU5⟩ | exact ⟨_, _, _, _, _, _, _, _, _, _, _, _, _, _, _, _, _, _, _, ⟨m + 1, by omega, by go_num, HA2, HU5⟩, rfl⟩
            case measure => simp [intOf]; omega
          · have HF : Hid (formsF nameF l = formF nameF x) := Lib.hid (by
              rw [← HB9.out, HDR.out]
              unfold formsF
              rw [if_pos hz])
            generalize hfx : formF nameF x = fx at *
            have ez : ((fx : Int) == 0) = false := by rw [beq_eq_false_iff_ne]; omega
            have ez2 : ((fx : Int) != 0) = true := by rw [bne, ez]; rfl
            clear hx hb hz hnx hfx
            go_wp2_with fail
            refine HC.out.mono ?_
            rintro e w5 ⟨rfl, hu5⟩
            have HU5 := Lib.hid (HW2.out.trans_ext hu5)
            clear hu5
            go_wp2_with fail
            go_ret
            rw [HF.out]
            exact ⟨rfl, HU5.out⟩
        · have hgeJ : ¬ (m : Int) < l.length := by omega
          have HF : Hid (formsF nameF l = 0) := Lib.hid (by
            rw [← HB9.out, List.drop_of_length_le (by omega)]
            rfl)
          clear hb
          go_wp2_with fail
          go_ret
          rw [HF.out]
          exact ⟨rfl, HW2.out⟩
set_option maxRecDepth 100000 in
set_option maxHeartbeats 12800000 in
theorem form_oa (k : Nat) (op so nn mm : Int) (nms : List (List UInt8)) (l : List Nd) (hk : sizesF l ≤ k) (hin : inN 10000000 (.mk op nms so nn mm l)) (_hk7 : k + 1 ≤ 10000000) (v : Value) (w : World) (P : Nat → Prop) (h : NdV w P (.mk op nms so nn mm l) v) (hk0 : ¬ (op : Int) < 0) (hk1 : ¬ (17 : Int) < op) (hsb : shapeBad op nms.length l.length = false) (hall : nms.all nameF = true) (o7 : op ≠ 7) (o8 : op ≠ 8) (o16 : op < 16) (hz : nn ≠ 0) : Calls Tryz.prog 53 #[v] w fun e w' => e = .returned (.int .i64 ((3 : Nat) : Int)) ∧ Upto [] w w' := by
  obtain ⟨a1, c1, a2, c2, rfl, hs, hg⟩ := h.open
  unfold inN at hin
  have HG := Lib.hid hg
  obtain ⟨a1', c1', ev, hnm⟩ := hs.get
  obtain ⟨rfl, rfl⟩ : a1 = a1' ∧ c1 = c1' := by simpa using ev
  have HN : Hid (∀ i x, nms[i]? = some x → ∃ g o, a1 = some ⟨g, o, none⟩ ∧ w.cell? ⟨g, o + i, none⟩ = some (.string ⟨x.toArray⟩)) := Lib.hid (fun i x hi => hnm i _ (by rw [List.getElem?_map, hi]; rfl))
  have HSZ := Lib.hid hk
  have HIN := Lib.hid hin
  have HAL := Lib.hid hall
  have hu1 : Upto [] w (w.alloc (.cells #[.int .i64 op, .slice a1 nms.length c1, .int .i64 so, .int .i64 nn, .int .i64 mm, .slice a2 l.length c2] 25)) := (Upto.refl [] w).alloc _
  have HB1 := Lib.hid (new_at w (.cells #[.int .i64 op, .slice a1 nms.length c1, .int .i64 so, .int .i64 nn, .int .i64 mm, .slice a2 l.length c2] 25))
  have HU1 := Lib.hid hu1
  have hll := hin.2.2.1
  have hnl := hin.1
  have hL0 : (0 : Int) ≤ l.length := by omega
  have hL1 : (l.length : Int) ≤ 10000000 := by omega
  have hN0 : (0 : Int) ≤ nms.length := by omega
  have hN1 : (nms.length : Int) ≤ 10000000 := by omega
  have HH := Lib.hid (has_calls op)
  obtain ⟨a, b, c, habc, ha17, hb17, hc17⟩ : ∃ a b c : Nat, hasF op = (a, b, c) ∧ a ≤ 17 ∧ b ≤ 17 ∧ c ≤ 17 := by
    unfold hasF
    repeat' split
    all_goals exact ⟨_, _, _, rfl, by decide, by decide, by decide⟩
  rw [habc] at HH
  simp only at HH
  obtain ⟨hs0, hs1, hs2⟩ : ¬ nms.length < a ∧ ¬ b < nms.length ∧ l.length = c := by
    unfold shapeBad at hsb
    rw [habc] at hsb
    simp at hsb
    omega
  have ha0 : (0 : Int) ≤ a := by omega
  have hb0 : (0 : Int) ≤ b := by omega
  have hc0 : (0 : Int) ≤ c := by omega
  have ha1 : (a : Int) ≤ 17 := by omega
  have hb1 : (b : Int) ≤ 17 := by omega
  have hc1 : (c : Int) ≤ 17 := by omega
  have q0 : ¬ (nms.length : Int) < a := by omega
  have q1 : ¬ (b : Int) < nms.length := by omega
  have q2 : ((l.length : Int) != (c : Int)) = false := by rw [hs2]; simp
  clear habc hsb hall h hs hg hk hu1 hnm ev hin hs2
  go_enter Tryz.func53, Tryz.ntmps53
  go_wp2_with fail
  refine (HH.out (w.alloc (.cells #[.int .i64 op, .slice a1 nms.length c1, .int .i64 so, .int .i64 nn, .int .i64 mm, .slice a2 l.length c2] 25))).mono ?_
  rintro e w3 ⟨rfl, hu3⟩
  have HU3 := Lib.hid (HU1.out.trans_ext hu3)
  have hb3 := hu3.at HB1.out (by simp)
  have HB3 := Lib.hid hb3
  obtain ⟨y0, y1, y2, y3, y4, y5⟩ := cells6 hb3
  clear hu3 hb3
  go_wp2_with fail
  go_loopw [6] (fun i wr => ∃ j : Nat, j ≤ nms.length ∧ i = .int .i64 j ∧ Hid (Upto [] w3 wr)) (fun i _ => nms.length - (intOf i).toNat)
  case atStart => exact ⟨0, by omega, rfl, Lib.hid (Upto.refl _ _)⟩
  case round =>
    clear y0 y1 y2 y3 y4 y5
    obtain ⟨j, hj, rfl, HU⟩ := hrel
    have hj0 : (0 : Int) ≤ j := by omega
    have hb := HU.out.at HB3.out (by simp)
    have HB := Lib.hid hb
    obtain ⟨y0, y1, y2, y3, y4, y5⟩ := cells6 hb
    have HW := Lib.hid (HU3.out.trans_ext HU.out)
    rcases Nat.lt_or_ge j nms.length with hlt | hge
    · have hltI : (j : Int) < nms.length := by omega
      obtain ⟨x, hx⟩ : ∃ x, nms[j]? = some x := ⟨_, List.getElem?_eq_getElem hlt⟩
      have hxl := HIN.out.2.1 x (List.mem_of_getElem? hx)
      obtain ⟨g, o, rfl, c0⟩ := HN.out j x hx
      replace c0 := up_cell HW.out c0
      have HC := Lib.hid (isName_calls x wr (by omega))
      have hb2 : nameF x = true := List.all_eq_true.1 HAL.out x (List.mem_of_getElem? hx)
      rw [hb2] at HC
      clear hx hb hb2
      go_wp2_with fail
      refine HC.out.mono ?_
      rintro e w5 ⟨rfl, hu5⟩
      have HU5 := Lib.hid (HU.out.trans_ext hu5)
      clear hu5
      go_wp2_with fail
      go_roundw
      case rel => first | exact ⟨j + 1, by omega, by go_num, HU5⟩ | exact ⟨_, _, _, _, _, _, _, _, _, _, _, _, _, _, _, _, ⟨j + 1, by omega, by go_num, HU5⟩, rfl⟩
      case measure => simp [intOf]; omega
    · have hgeI : ¬ (j : Int) < nms.length := by omega
      clear hb q0 q1 q2 hs0 hs1 ha0 hb0 hc0 ha1 hb1 hc1 HH HAL HN
      have eop7 : (op == (7 : Int)) = false := by rw [beq_eq_false_iff_ne]; omega
      have fop7 : (op != (7 : Int)) = true := by rw [bne, eop7]; rfl
      have eop8 : (op == (8 : Int)) = false := by rw [beq_eq_false_iff_ne]; omega
      have fop8 : (op != (8 : Int)) = true := by rw [bne, eop8]; rfl
      have enn0 : (nn == (0 : Int)) = false := by rw [beq_eq_false_iff_ne]; exact hz
      have fnn0 : (nn != (0 : Int)) = true := by rw [bne, enn0]; rfl
      go_wp2_with fail
      go_ret
      exact ⟨rfl, HW.out⟩
set_option maxRecDepth 100000 in
set_option maxHeartbeats 12800000 in
theorem form_ob (k : Nat) (op so mm : Int) (nms : List (List UInt8)) (l : List Nd) (hk : sizesF l ≤ k) (hin : inN 10000000 (.mk op nms so 0 mm l)) (_hk7 : k + 1 ≤ 10000000) (v : Value) (w : World) (P : Nat → Prop) (h : NdV w P (.mk op nms so 0 mm l) v) (hk0 : ¬ (op : Int) < 0) (hk1 : ¬ (17 : Int) < op) (hsb : shapeBad op nms.length l.length = false) (hall : nms.all nameF = true) (o7 : op ≠ 7) (o8 : op ≠ 8) (o16 : op < 16) (hz : mm ≠ 0) : Calls Tryz.prog 53 #[v] w fun e w' => e = .returned (.int .i64 ((3 : Nat) : Int)) ∧ Upto [] w w' := by
  obtain ⟨a1, c1, a2, c2, rfl, hs, hg⟩ := h.open
  unfold inN at hin
  have HG := Lib.hid hg
  obtain ⟨a1', c1', ev, hnm⟩ := hs.get
  obtain ⟨rfl, rfl⟩ : a1 = a1' ∧ c1 = c1' := by simpa using ev
  have HN : Hid (∀ i x, nms[i]? = some x → ∃ g o, a1 = some ⟨g, o, none⟩ ∧ w.cell? ⟨g, o + i, none⟩ = some (.string ⟨x.toArray⟩)) := Lib.hid (fun i x hi => hnm i _ (by rw [List.getElem?_map, hi]; rfl))
  have HSZ := Lib.hid hk
  have HIN := Lib.hid hin
  have HAL := Lib.hid hall
  have hu1 : Upto [] w (w.alloc (.cells #[.int .i64 op, .slice a1 nms.length c1, .int .i64 so, .int .i64 0, .int .i64 mm, .slice a2 l.length c2] 25)) := (Upto.refl [] w).alloc _
  have HB1 := Lib.hid (new_at w (.cells #[.int .i64 op, .slice a1 nms.length c1, .int .i64 so, .int .i64 0, .int .i64 mm, .slice a2 l.length c2] 25))
  have HU1 := Lib.hid hu1
  have hll := hin.2.2.1
  have hnl := hin.1
  have hL0 : (0 : Int) ≤ l.length := by omega
  have hL1 : (l.length : Int) ≤ 10000000 := by omega
  have hN0 : (0 : Int) ≤ nms.length := by omega
  have hN1 : (nms.length : Int) ≤ 10000000 := by omega
  have HH := Lib.hid (has_calls op)
  obtain ⟨a, b, c, habc, ha17, hb17, hc17⟩ : ∃ a b c : Nat, hasF op = (a, b, c) ∧ a ≤ 17 ∧ b ≤ 17 ∧ c ≤ 17 := by
    unfold hasF
    repeat' split
    all_goals exact ⟨_, _, _, rfl, by decide, by decide, by decide⟩
  rw [habc] at HH
  simp only at HH
  obtain ⟨hs0, hs1, hs2⟩ : ¬ nms.length < a ∧ ¬ b < nms.length ∧ l.length = c := by
    unfold shapeBad at hsb
    rw [habc] at hsb
    simp at hsb
    omega
  have ha0 : (0 : Int) ≤ a := by omega
  have hb0 : (0 : Int) ≤ b := by omega
  have hc0 : (0 : Int) ≤ c := by omega
  have ha1 : (a : Int) ≤ 17 := by omega
  have hb1 : (b : Int) ≤ 17 := by omega
  have hc1 : (c : Int) ≤ 17 := by omega
  have q0 : ¬ (nms.length : Int) < a := by omega
  have q1 : ¬ (b : Int) < nms.length := by omega
  have q2 : ((l.length : Int) != (c : Int)) = false := by rw [hs2]; simp
  clear habc hsb hall h hs hg hk hu1 hnm ev hin hs2
  go_enter Tryz.func53, Tryz.ntmps53
  go_wp2_with fail
  refine (HH.out (w.alloc (.cells #[.int .i64 op, .slice a1 nms.length c1, .int .i64 so, .int .i64 0, .int .i64 mm, .slice a2 l.length c2] 25))).mono ?_
  rintro e w3 ⟨rfl, hu3⟩
  have HU3 := Lib.hid (HU1.out.trans_ext hu3)
  have hb3 := hu3.at HB1.out (by simp)
  have HB3 := Lib.hid hb3
  obtain ⟨y0, y1, y2, y3, y4, y5⟩ := cells6 hb3
  clear hu3 hb3
  go_wp2_with fail
  go_loopw [6] (fun i wr => ∃ j : Nat, j ≤ nms.length ∧ i = .int .i64 j ∧ Hid (Upto [] w3 wr)) (fun i _ => nms.length - (intOf i).toNat)
  case atStart => exact ⟨0, by omega, rfl, Lib.hid (Upto.refl _ _)⟩
  case round =>
    clear y0 y1 y2 y3 y4 y5
    obtain ⟨j, hj, rfl, HU⟩ := hrel
    have hj0 : (0 : Int) ≤ j := by omega
    have hb := HU.out.at HB3.out (by simp)
    have HB := Lib.hid hb
    obtain ⟨y0, y1, y2, y3, y4, y5⟩ := cells6 hb
    have HW := Lib.hid (HU3.out.trans_ext HU.out)
    rcases Nat.lt_or_ge j nms.length with hlt | hge
    · have hltI : (j : Int) < nms.length := by omega
      obtain ⟨x, hx⟩ : ∃ x, nms[j]? = some x := ⟨_, List.getElem?_eq_getElem hlt⟩
      have hxl := HIN.out.2.1 x (List.mem_of_getElem? hx)
      obtain ⟨g, o, rfl, c0⟩ := HN.out j x hx
      replace c0 := up_cell HW.out c0
      have HC := Lib.hid (isName_calls x wr (by omega))
      have hb2 : nameF x = true := List.all_eq_true.1 HAL.out x (List.mem_of_getElem? hx)
      rw [hb2] at HC
      clear hx hb hb2
      go_wp2_with fail
      refine HC.out.mono ?_
      rintro e w5 ⟨rfl, hu5⟩
      have HU5 := Lib.hid (HU.out.trans_ext hu5)
      clear hu5
      go_wp2_with fail
      go_roundw
      case rel => first | exact ⟨j + 1, by omega, by go_num, HU5⟩ | exact ⟨_, _, _, _, _, _, _, _, _, _, _, _, _, _, _, _, ⟨j + 1, by omega, by go_num, HU5⟩, rfl⟩
      case measure => simp [intOf]; omega
    · have hgeI : ¬ (j : Int) < nms.length := by omega
      clear hb q0 q1 q2 hs0 hs1 ha0 hb0 hc0 ha1 hb1 hc1 HH HAL HN
      have eop7 : (op == (7 : Int)) = false := by rw [beq_eq_false_iff_ne]; omega
      have fop7 : (op != (7 : Int)) = true := by rw [bne, eop7]; rfl
      have eop8 : (op == (8 : Int)) = false := by rw [beq_eq_false_iff_ne]; omega
      have fop8 : (op != (8 : Int)) = true := by rw [bne, eop8]; rfl
      have emm0 : (mm == (0 : Int)) = false := by rw [beq_eq_false_iff_ne]; exact hz
      have fmm0 : (mm != (0 : Int)) = true := by rw [bne, emm0]; rfl
      go_wp2_with fail
      go_ret
      exact ⟨rfl, HW.out⟩
set_option maxRecDepth 100000 in
set_option maxHeartbeats 12800000 in
theorem form_ha (k : Nat) (op so nn mm : Int) (nms : List (List UInt8)) (l : List Nd) (hk : sizesF l ≤ k) (hin : inN 10000000 (.mk op nms so nn mm l)) (_hk7 : k + 1 ≤ 10000000) (v : Value) (w : World) (P : Nat → Prop) (h : NdV w P (.mk op nms so nn mm l) v) (hk0 : ¬ (op : Int) < 0) (hk1 : ¬ (17 : Int) < op) (hsb : shapeBad op nms.length l.length = false) (hall : nms.all nameF = true) (o7 : op ≠ 7) (o8 : op ≠ 8) (o16 : ¬ op < 16) (hz : nn ≠ 0) : Calls Tryz.prog 53 #[v] w fun e w' => e = .returned (.int .i64 ((3 : Nat) : Int)) ∧ Upto [] w w' := by
  obtain ⟨a1, c1, a2, c2, rfl, hs, hg⟩ := h.open
  unfold inN at hin
  have HG := Lib.hid hg
  obtain ⟨a1', c1', ev, hnm⟩ := hs.get
  obtain ⟨rfl, rfl⟩ : a1 = a1' ∧ c1 = c1' := by simpa using ev
  have HN : Hid (∀ i x, nms[i]? = some x → ∃ g o, a1 = some ⟨g, o, none⟩ ∧ w.cell? ⟨g, o + i, none⟩ = some (.string ⟨x.toArray⟩)) := Lib.hid (fun i x hi => hnm i _ (by rw [List.getElem?_map, hi]; rfl))
  have HSZ := Lib.hid hk
  have HIN := Lib.hid hin
  have HAL := Lib.hid hall
  have hu1 : Upto [] w (w.alloc (.cells #[.int .i64 op, .slice a1 nms.length c1, .int .i64 so, .int .i64 nn, .int .i64 mm, .slice a2 l.length c2] 25)) := (Upto.refl [] w).alloc _
  have HB1 := Lib.hid (new_at w (.cells #[.int .i64 op, .slice a1 nms.length c1, .int .i64 so, .int .i64 nn, .int .i64 mm, .slice a2 l.length c2] 25))
  have HU1 := Lib.hid hu1
  have hll := hin.2.2.1
  have hnl := hin.1
  have hL0 : (0 : Int) ≤ l.length := by omega
  have hL1 : (l.length : Int) ≤ 10000000 := by omega
  have hN0 : (0 : Int) ≤ nms.length := by omega
  have hN1 : (nms.length : Int) ≤ 10000000 := by omega
  have HH := Lib.hid (has_calls op)
  obtain ⟨a, b, c, habc, ha17, hb17, hc17⟩ : ∃ a b c : Nat, hasF op = (a, b, c) ∧ a ≤ 17 ∧ b ≤ 17 ∧ c ≤ 17 := by
    unfold hasF
    repeat' split
    all_goals exact ⟨_, _, _, rfl, by decide, by decide, by decide⟩
  rw [habc] at HH
  simp only at HH
  obtain ⟨hs0, hs1, hs2⟩ : ¬ nms.length < a ∧ ¬ b < nms.length ∧ l.length = c := by
    unfold shapeBad at hsb
    rw [habc] at hsb
    simp at hsb
    omega
  have ha0 : (0 : Int) ≤ a := by omega
  have hb0 : (0 : Int) ≤ b := by omega
  have hc0 : (0 : Int) ≤ c := by omega
  have ha1 : (a : Int) ≤ 17 := by omega
  have hb1 : (b : Int) ≤ 17 := by omega
  have hc1 : (c : Int) ≤ 17 := by omega
  have q0 : ¬ (nms.length : Int) < a := by omega
  have q1 : ¬ (b : Int) < nms.length := by omega
  have q2 : ((l.length : Int) != (c : Int)) = false := by rw [hs2]; simp
  clear habc hsb hall h hs hg hk hu1 hnm ev hin hs2
  go_enter Tryz.func53, Tryz.ntmps53
  go_wp2_with fail
  refine (HH.out (w.alloc (.cells #[.int .i64 op, .slice a1 nms.length c1, .int .i64 so, .int .i64 nn, .int .i64 mm, .slice a2 l.length c2] 25))).mono ?_
  rintro e w3 ⟨rfl, hu3⟩
  have HU3 := Lib.hid (HU1.out.trans_ext hu3)
  have hb3 := hu3.at HB1.out (by simp)
  have HB3 := Lib.hid hb3
  obtain ⟨y0, y1, y2, y3, y4, y5⟩ := cells6 hb3
  clear hu3 hb3
  go_wp2_with fail
  go_loopw [6] (fun i wr => ∃ j : Nat, j ≤ nms.length ∧ i = .int .i64 j ∧ Hid (Upto [] w3 wr)) (fun i _ => nms.length - (intOf i).toNat)
  case atStart => exact ⟨0, by omega, rfl, Lib.hid (Upto.refl _ _)⟩
  case round =>
    clear y0 y1 y2 y3 y4 y5
    obtain ⟨j, hj, rfl, HU⟩ := hrel
    have hj0 : (0 : Int) ≤ j := by omega
    have hb := HU.out.at HB3.out (by simp)
    have HB := Lib.hid hb
    obtain ⟨y0, y1, y2, y3, y4, y5⟩ := cells6 hb
    have HW := Lib.hid (HU3.out.trans_ext HU.out)
    rcases Nat.lt_or_ge j nms.length with hlt | hge
    · have hltI : (j : Int) < nms.length := by omega
      obtain ⟨x, hx⟩ : ∃ x, nms[j]? = some x := ⟨_, List.getElem?_eq_getElem hlt⟩
      have hxl := HIN.out.2.1 x (List.mem_of_getElem? hx)
      obtain ⟨g, o, rfl, c0⟩ := HN.out j x hx
      replace c0 := up_cell HW.out c0
      have HC := Lib.hid (isName_calls x wr (by omega))
      have hb2 : nameF x = true := List.all_eq_true.1 HAL.out x (List.mem_of_getElem? hx)
      rw [hb2] at HC
      clear hx hb hb2
      go_wp2_with fail
      refine HC.out.mono ?_
      rintro e w5 ⟨rfl, hu5⟩
      have HU5 := Lib.hid (HU.out.trans_ext hu5)
      clear hu5
      go_wp2_with fail
      go_roundw
      case rel => first | exact ⟨j + 1, by omega, by go_num, HU5⟩ | exact ⟨_, _, _, _, _, _, _, _, _, _, _, _, _, _, _, _, ⟨j + 1, by omega, by go_num, HU5⟩, rfl⟩
      case measure => simp [intOf]; omega
    · have hgeI : ¬ (j : Int) < nms.length := by omega
      clear hb q0 q1 q2 hs0 hs1 ha0 hb0 hc0 ha1 hb1 hc1 HH HAL HN
      have eop7 : (op == (7 : Int)) = false := by rw [beq_eq_false_iff_ne]; omega
      have fop7 : (op != (7 : Int)) = true := by rw [bne, eop7]; rfl
      have eop8 : (op == (8 : Int)) = false := by rw [beq_eq_false_iff_ne]; omega
      have fop8 : (op != (8 : Int)) = true := by rw [bne, eop8]; rfl
      have enn0 : (nn == (0 : Int)) = false := by rw [beq_eq_false_iff_ne]; exact hz
      have fnn0 : (nn != (0 : Int)) = true := by rw [bne, enn0]; rfl
      go_wp2_with fail
      go_ret
      exact ⟨rfl, HW.out⟩
set_option maxRecDepth 100000 in
set_option maxHeartbeats 12800000 in
theorem form_hb (k : Nat) (op so mm : Int) (nms : List (List UInt8)) (l : List Nd) (hk : sizesF l ≤ k) (hin : inN 10000000 (.mk op nms so 0 mm l)) (_hk7 : k + 1 ≤ 10000000) (v : Value) (w : World) (P : Nat → Prop) (h : NdV w P (.mk op nms so 0 mm l) v) (hk0 : ¬ (op : Int) < 0) (hk1 : ¬ (17 : Int) < op) (hsb : shapeBad op nms.length l.length = false) (hall : nms.all nameF = true) (o7 : op ≠ 7) (o8 : op ≠ 8) (o16 : ¬ op < 16) (hz : mm ≠ 0) : Calls Tryz.prog 53 #[v] w fun e w' => e = .returned (.int .i64 ((3 : Nat) : Int)) ∧ Upto [] w w' := by
  obtain ⟨a1, c1, a2, c2, rfl, hs, hg⟩ := h.open
  unfold inN at hin
  have HG := Lib.hid hg
  obtain ⟨a1', c1', ev, hnm⟩ := hs.get
  obtain ⟨rfl, rfl⟩ : a1 = a1' ∧ c1 = c1' := by simpa using ev
  have HN : Hid (∀ i x, nms[i]? = some x → ∃ g o, a1 = some ⟨g, o, none⟩ ∧ w.cell? ⟨g, o + i, none⟩ = some (.string ⟨x.toArray⟩)) := Lib.hid (fun i x hi => hnm i _ (by rw [List.getElem?_map, hi]; rfl))
  have HSZ := Lib.hid hk
  have HIN := Lib.hid hin
  have HAL := Lib.hid hall
  have hu1 : Upto [] w (w.alloc (.cells #[.int .i64 op, .slice a1 nms.length c1, .int .i64 so, .int .i64 0, .int .i64 mm, .slice a2 l.length c2] 25)) := (Upto.refl [] w).alloc _
  have HB1 := Lib.hid (new_at w (.cells #[.int .i64 op, .slice a1 nms.length c1, .int .i64 so, .int .i64 0, .int .i64 mm, .slice a2 l.length c2] 25))
  have HU1 := Lib.hid hu1
  have hll := hin.2.2.1
  have hnl := hin.1
  have hL0 : (0 : Int) ≤ l.length := by omega
  have hL1 : (l.length : Int) ≤ 10000000 := by omega
  have hN0 : (0 : Int) ≤ nms.length := by omega
  have hN1 : (nms.length : Int) ≤ 10000000 := by omega
  have HH := Lib.hid (has_calls op)
  obtain ⟨a, b, c, habc, ha17, hb17, hc17⟩ : ∃ a b c : Nat, hasF op = (a, b, c) ∧ a ≤ 17 ∧ b ≤ 17 ∧ c ≤ 17 := by
    unfold hasF
    repeat' split
    all_goals exact ⟨_, _, _, rfl, by decide, by decide, by decide⟩
  rw [habc] at HH
  simp only at HH
  obtain ⟨hs0, hs1, hs2⟩ : ¬ nms.length < a ∧ ¬ b < nms.length ∧ l.length = c := by
    unfold shapeBad at hsb
    rw [habc] at hsb
    simp at hsb
    omega
  have ha0 : (0 : Int) ≤ a := by omega
  have hb0 : (0 : Int) ≤ b := by omega
  have hc0 : (0 : Int) ≤ c := by omega
  have ha1 : (a : Int) ≤ 17 := by omega
  have hb1 : (b : Int) ≤ 17 := by omega
  have hc1 : (c : Int) ≤ 17 := by omega
  have q0 : ¬ (nms.length : Int) < a := by omega
  have q1 : ¬ (b : Int) < nms.length := by omega
  have q2 : ((l.length : Int) != (c : Int)) = false := by rw [hs2]; simp
  clear habc hsb hall h hs hg hk hu1 hnm ev hin hs2
  go_enter Tryz.func53, Tryz.ntmps53
  go_wp2_with fail
  refine (HH.out (w.alloc (.cells #[.int .i64 op, .slice a1 nms.length c1, .int .i64 so, .int .i64 0, .int .i64 mm, .slice a2 l.length c2] 25))).mono ?_
  rintro e w3 ⟨rfl, hu3⟩
  have HU3 := Lib.hid (HU1.out.trans_ext hu3)
  have hb3 := hu3.at HB1.out (by simp)
  have HB3 := Lib.hid hb3
  obtain ⟨y0, y1, y2, y3, y4, y5⟩ := cells6 hb3
  clear hu3 hb3
  go_wp2_with fail
  go_loopw [6] (fun i wr => ∃ j : Nat, j ≤ nms.length ∧ i = .int .i64 j ∧ Hid (Upto [] w3 wr)) (fun i _ => nms.length - (intOf i).toNat)
  case atStart => exact ⟨0, by omega, rfl, Lib.hid (Upto.refl _ _)⟩
  case round =>
    clear y0 y1 y2 y3 y4 y5
    obtain ⟨j, hj, rfl, HU⟩ := hrel
    have hj0 : (0 : Int) ≤ j := by omega
    have hb := HU.out.at HB3.out (by simp)
    have HB := Lib.hid hb
    obtain ⟨y0, y1, y2, y3, y4, y5⟩ := cells6 hb
    have HW := Lib.hid (HU3.out.trans_ext HU.out)
    rcases Nat.lt_or_ge j nms.length with hlt | hge
    · have hltI : (j : Int) < nms.length := by omega
      obtain ⟨x, hx⟩ : ∃ x, nms[j]? = some x := ⟨_, List.getElem?_eq_getElem hlt⟩
      have hxl := HIN.out.2.1 x (List.mem_of_getElem? hx)
      obtain ⟨g, o, rfl, c0⟩ := HN.out j x hx
      replace c0 := up_cell HW.out c0
      have HC := Lib.hid (isName_calls x wr (by omega))
      have hb2 : nameF x = true := List.all_eq_true.1 HAL.out x (List.mem_of_getElem? hx)
      rw [hb2] at HC
      clear hx hb hb2
      go_wp2_with fail
      refine HC.out.mono ?_
      rintro e w5 ⟨rfl, hu5⟩
      have HU5 := Lib.hid (HU.out.trans_ext hu5)
      clear hu5
      go_wp2_with fail
      go_roundw
      case rel => first | exact ⟨j + 1, by omega, by go_num, HU5⟩ | exact ⟨_, _, _, _, _, _, _, _, _, _, _, _, _, _, _, _, ⟨j + 1, by omega, by go_num, HU5⟩, rfl⟩
      case measure => simp [intOf]; omega
    · have hgeI : ¬ (j : Int) < nms.length := by omega
      clear hb q0 q1 q2 hs0 hs1 ha0 hb0 hc0 ha1 hb1 hc1 HH HAL HN
      have eop7 : (op == (7 : Int)) = false := by rw [beq_eq_false_iff_ne]; omega
      have fop7 : (op != (7 : Int)) = true := by rw [bne, eop7]; rfl
      have eop8 : (op == (8 : Int)) = false := by rw [beq_eq_false_iff_ne]; omega
      have fop8 : (op != (8 : Int)) = true := by rw [bne, eop8]; rfl
      have emm0 : (mm == (0 : Int)) = false := by rw [beq_eq_false_iff_ne]; exact hz
      have fmm0 : (mm != (0 : Int)) = true := by rw [bne, emm0]; rfl
      go_wp2_with fail
      go_ret
      exact ⟨rfl, HW.out⟩
set_option maxRecDepth 100000 in
set_option maxHeartbeats 12800000 in
theorem form_oc (k : Nat) (op so : Int) (nms : List (List UInt8)) (l : List Nd) (hk : sizesF l ≤ k) (hin : inN 10000000 (.mk op nms so 0 0 l)) (_hk7 : k + 1 ≤ 10000000) (v : Value) (w : World) (P : Nat → Prop) (h : NdV w P (.mk op nms so 0 0 l) v) (hk0 : ¬ (op : Int) < 0) (hk1 : ¬ (17 : Int) < op) (hsb : shapeBad op nms.length l.length = false) (hall : nms.all nameF = true) (o7 : op ≠ 7) (o8 : op ≠ 8) (o16 : op < 16) (hz : so ≠ 0) : Calls Tryz.prog 53 #[v] w fun e w' => e = .returned (.int .i64 ((3 : Nat) : Int)) ∧ Upto [] w w' := by
  obtain ⟨a1, c1, a2, c2, rfl, hs, hg⟩ := h.open
  unfold inN at hin
  have HG := Lib.hid hg
  obtain ⟨a1', c1', ev, hnm⟩ := hs.get
  obtain ⟨rfl, rfl⟩ : a1 = a1' ∧ c1 = c1' := by simpa using ev
  have HN : Hid (∀ i x, nms[i]? = some x → ∃ g o, a1 = some ⟨g, o, none⟩ ∧ w.cell? ⟨g, o + i, none⟩ = some (.string ⟨x.toArray⟩)) := Lib.hid (fun i x hi => hnm i _ (by rw [List.getElem?_map, hi]; rfl))
  have HSZ := Lib.hid hk
  have HIN := Lib.hid hin
  have HAL := Lib.hid hall
  have hu1 : Upto [] w (w.alloc (.cells #[.int .i64 op, .slice a1 nms.length c1, .int .i64 so, .int .i64 0, .int .i64 0, .slice a2 l.length c2] 25)) := (Upto.refl [] w).alloc _
  have HB1 := Lib.hid (new_at w (.cells #[.int .i64 op, .slice a1 nms.length c1, .int .i64 so, .int .i64 0, .int .i64 0, .slice a2 l.length c2] 25))
  have HU1 := Lib.hid hu1
  have hll := hin.2.2.1
  have hnl := hin.1
  have hL0 : (0 : Int) ≤ l.length := by omega
  have hL1 : (l.length : Int) ≤ 10000000 := by omega
  have hN0 : (0 : Int) ≤ nms.length := by omega
  have hN1 : (nms.length : Int) ≤ 10000000 := by omega
  have HH := Lib.hid (has_calls op)
  obtain ⟨a, b, c, habc, ha17, hb17, hc17⟩ : ∃ a b c : Nat, hasF op = (a, b, c) ∧ a ≤ 17 ∧ b ≤ 17 ∧ c ≤ 17 := by
    unfold hasF
    repeat' split
    all_goals exact ⟨_, _, _, rfl, by decide, by decide, by decide⟩
  rw [habc] at HH
  simp only at HH
  obtain ⟨hs0, hs1, hs2⟩ : ¬ nms.length < a ∧ ¬ b < nms.length ∧ l.length = c := by
    unfold shapeBad at hsb
    rw [habc] at hsb
    simp at hsb
    omega
  have ha0 : (0 : Int) ≤ a := by omega
  have hb0 : (0 : Int) ≤ b := by omega
  have hc0 : (0 : Int) ≤ c := by omega
  have ha1 : (a : Int) ≤ 17 := by omega
  have hb1 : (b : Int) ≤ 17 := by omega
  have hc1 : (c : Int) ≤ 17 := by omega
  have q0 : ¬ (nms.length : Int) < a := by omega
  have q1 : ¬ (b : Int) < nms.length := by omega
  have q2 : ((l.length : Int) != (c : Int)) = false := by rw [hs2]; simp
  clear habc hsb hall h hs hg hk hu1 hnm ev hin hs2
  go_enter Tryz.func53, Tryz.ntmps53
  go_wp2_with fail
  refine (HH.out (w.alloc (.cells #[.int .i64 op, .slice a1 nms.length c1, .int .i64 so, .int .i64 0, .int .i64 0, .slice a2 l.length c2] 25))).mono ?_
  rintro e w3 ⟨rfl, hu3⟩
  have HU3 := Lib.hid (HU1.out.trans_ext hu3)
  have hb3 := hu3.at HB1.out (by simp)
  have HB3 := Lib.hid hb3
  obtain ⟨y0, y1, y2, y3, y4, y5⟩ := cells6 hb3
  clear hu3 hb3
  go_wp2_with fail
  go_loopw [6] (fun i wr => ∃ j : Nat, j ≤ nms.length ∧ i = .int .i64 j ∧ Hid (Upto [] w3 wr)) (fun i _ => nms.length - (intOf i).toNat)
  case atStart => exact ⟨0, by omega, rfl, Lib.hid (Upto.refl _ _)⟩
  case round =>
    clear y0 y1 y2 y3 y4 y5
    obtain ⟨j, hj, rfl, HU⟩ := hrel
    have hj0 : (0 : Int) ≤ j := by omega
    have hb := HU.out.at HB3.out (by simp)
    have HB := Lib.hid hb
    obtain ⟨y0, y1, y2, y3, y4, y5⟩ := cells6 hb
    have HW := Lib.hid (HU3.out.trans_ext HU.out)
    rcases Nat.lt_or_ge j nms.length with hlt | hge
    · have hltI : (j : Int) < nms.length := by omega
      obtain ⟨x, hx⟩ : ∃ x, nms[j]? = some x := ⟨_, List.getElem?_eq_getElem hlt⟩
      have hxl := HIN.out.2.1 x (List.mem_of_getElem? hx)
      obtain ⟨g, o, rfl, c0⟩ := HN.out j x hx
      replace c0 := up_cell HW.out c0
      have HC := Lib.hid (isName_calls x wr (by omega))
      have hb2 : nameF x = true := List.all_eq_true.1 HAL.out x (List.mem_of_getElem? hx)
      rw [hb2] at HC
      clear hx hb hb2
      go_wp2_with fail
      refine HC.out.mono ?_
      rintro e w5 ⟨rfl, hu5⟩
      have HU5 := Lib.hid (HU.out.trans_ext hu5)
      clear hu5
      go_wp2_with fail
      go_roundw
      case rel => first | exact ⟨j + 1, by omega, by go_num, HU5⟩ | exact ⟨_, _, _, _, _, _, _, _, _, _, _, _, _, _, _, _, ⟨j + 1, by omega, by go_num, HU5⟩, rfl⟩
      case measure => simp [intOf]; omega
    · have hgeI : ¬ (j : Int) < nms.length := by omega
      clear hb q0 q1 q2 hs0 hs1 ha0 hb0 hc0 ha1 hb1 hc1 HH HAL HN
      have eop7 : (op == (7 : Int)) = false := by rw [beq_eq_false_iff_ne]; omega
      have fop7 : (op != (7 : Int)) = true := by rw [bne, eop7]; rfl
      have eop8 : (op == (8 : Int)) = false := by rw [beq_eq_false_iff_ne]; omega
      have fop8 : (op != (8 : Int)) = true := by rw [bne, eop8]; rfl
      have eso0 : (so == (0 : Int)) = false := by rw [beq_eq_false_iff_ne]; exact hz
      have fso0 : (so != (0 : Int)) = true := by rw [bne, eso0]; rfl
      go_wp2_with fail
      go_ret
      exact ⟨rfl, HW.out⟩
set_option maxRecDepth 100000 in
set_option maxHeartbeats 12800000 in
theorem form_og (k : Nat) (op : Int) (nms : List (List UInt8)) (l : List Nd) (hk : sizesF l ≤ k) (hin : inN 10000000 (.mk op nms 0 0 0 l)) (_hk7 : k + 1 ≤ 10000000) (v : Value) (w : World) (P : Nat → Prop) (h : NdV w P (.mk op nms 0 0 0 l) v) (hk0 : ¬ (op : Int) < 0) (hk1 : ¬ (17 : Int) < op) (hsb : shapeBad op nms.length l.length = false) (hall : nms.all nameF = true) (o7 : op ≠ 7) (o8 : op ≠ 8) (o16 : op < 16) (IH : ∀ (nd : Nd), sizeF nd ≤ k → inN 10000000 nd → ∀ (v : Value) (w : World) (P : Nat → Prop), NdV w P nd v → Calls Tryz.prog 53 #[v] w fun e w' => e = .returned (.int .i64 (formF nameF nd : Nat)) ∧ Upto [] w w') : Calls Tryz.prog 53 #[v] w fun e w' => e = .returned (.int .i64 ((formsF nameF l : Nat) : Int)) ∧ Upto [] w w' := by
  obtain ⟨a1, c1, a2, c2, rfl, hs, hg⟩ := h.open
  unfold inN at hin
  have HG := Lib.hid hg
  obtain ⟨a1', c1', ev, hnm⟩ := hs.get
  obtain ⟨rfl, rfl⟩ : a1 = a1' ∧ c1 = c1' := by simpa using ev
  have HN : Hid (∀ i x, nms[i]? = some x → ∃ g o, a1 = some ⟨g, o, none⟩ ∧ w.cell? ⟨g, o + i, none⟩ = some (.string ⟨x.toArray⟩)) := Lib.hid (fun i x hi => hnm i _ (by rw [List.getElem?_map, hi]; rfl))
  have HSZ := Lib.hid hk
  have HIN := Lib.hid hin
  have HAL := Lib.hid hall
  have hu1 : Upto [] w (w.alloc (.cells #[.int .i64 op, .slice a1 nms.length c1, .int .i64 0, .int .i64 0, .int .i64 0, .slice a2 l.length c2] 25)) := (Upto.refl [] w).alloc _
  have HB1 := Lib.hid (new_at w (.cells #[.int .i64 op, .slice a1 nms.length c1, .int .i64 0, .int .i64 0, .int .i64 0, .slice a2 l.length c2] 25))
  have HU1 := Lib.hid hu1
  have hll := hin.2.2.1
  have hnl := hin.1
  have hL0 : (0 : Int) ≤ l.length := by omega
  have hL1 : (l.length : Int) ≤ 10000000 := by omega
  have hN0 : (0 : Int) ≤ nms.length := by omega
  have hN1 : (nms.length : Int) ≤ 10000000 := by omega
  have HH := Lib.hid (has_calls op)
  obtain ⟨a, b, c, habc, ha17, hb17, hc17⟩ : ∃ a b c : Nat, hasF op = (a, b, c) ∧ a ≤ 17 ∧ b ≤ 17 ∧ c ≤ 17 := by
    unfold hasF
    repeat' split
    all_goals exact ⟨_, _, _, rfl, by decide, by decide, by decide⟩
  rw [habc] at HH
  simp only at HH
  obtain ⟨hs0, hs1, hs2⟩ : ¬ nms.length < a ∧ ¬ b < nms.length ∧ l.length = c := by
    unfold shapeBad at hsb
    rw [habc] at hsb
    simp at hsb
    omega
  have ha0 : (0 : Int) ≤ a := by omega
  have hb0 : (0 : Int) ≤ b := by omega
  have hc0 : (0 : Int) ≤ c := by omega
  have ha1 : (a : Int) ≤ 17 := by omega
  have hb1 : (b : Int) ≤ 17 := by omega
  have hc1 : (c : Int) ≤ 17 := by omega
  have q0 : ¬ (nms.length : Int) < a := by omega
  have q1 : ¬ (b : Int) < nms.length := by omega
  have q2 : ((l.length : Int) != (c : Int)) = false := by rw [hs2]; simp
  clear habc hsb hall h hs hg hk hu1 hnm ev hin hs2
  go_enter Tryz.func53, Tryz.ntmps53
  go_wp2_with fail
  refine (HH.out (w.alloc (.cells #[.int .i64 op, .slice a1 nms.length c1, .int .i64 0, .int .i64 0, .int .i64 0, .slice a2 l.length c2] 25))).mono ?_
  rintro e w3 ⟨rfl, hu3⟩
  have HU3 := Lib.hid (HU1.out.trans_ext hu3)
  have hb3 := hu3.at HB1.out (by simp)
  have HB3 := Lib.hid hb3
  obtain ⟨y0, y1, y2, y3, y4, y5⟩ := cells6 hb3
  clear hu3 hb3
  go_wp2_with fail
  go_loopw [6] (fun i wr => ∃ j : Nat, j ≤ nms.length ∧ i = .int .i64 j ∧ Hid (Upto [] w3 wr)) (fun i _ => nms.length - (intOf i).toNat)
  case atStart => exact ⟨0, by omega, rfl, Lib.hid (Upto.refl _ _)⟩
  case round =>
    clear y0 y1 y2 y3 y4 y5
    obtain ⟨j, hj, rfl, HU⟩ := hrel
    have hj0 : (0 : Int) ≤ j := by omega
    have hb := HU.out.at HB3.out (by simp)
    have HB := Lib.hid hb
    obtain ⟨y0, y1, y2, y3, y4, y5⟩ := cells6 hb
    have HW := Lib.hid (HU3.out.trans_ext HU.out)
    rcases Nat.lt_or_ge j nms.length with hlt | hge
    · have hltI : (j : Int) < nms.length := by omega
      obtain ⟨x, hx⟩ : ∃ x, nms[j]? = some x := ⟨_, List.getElem?_eq_getElem hlt⟩
      have hxl := HIN.out.2.1 x (List.mem_of_getElem? hx)
      obtain ⟨g, o, rfl, c0⟩ := HN.out j x hx
      replace c0 := up_cell HW.out c0
      have HC := Lib.hid (isName_calls x wr (by omega))
      have hb2 : nameF x = true := List.all_eq_true.1 HAL.out x (List.mem_of_getElem? hx)
      rw [hb2] at HC
      clear hx hb hb2
      go_wp2_with fail
      refine HC.out.mono ?_
      rintro e w5 ⟨rfl, hu5⟩
      have HU5 := Lib.hid (HU.out.trans_ext hu5)
      clear hu5
      go_wp2_with fail
      go_roundw
      case rel => first | exact ⟨j + 1, by omega, by go_num, HU5⟩ | exact ⟨_, _, _, _, _, _, _, _, _, _, _, _, _, _, _, _, ⟨j + 1, by omega, by go_num, HU5⟩, rfl⟩
      case measure => simp [intOf]; omega
    · have hgeI : ¬ (j : Int) < nms.length := by omega
      clear hb q0 q1 q2 hs0 hs1 ha0 hb0 hc0 ha1 hb1 hc1 HH HAL HN
      have eop7 : (op == (7 : Int)) = false := by rw [beq_eq_false_iff_ne]; omega
      have fop7 : (op != (7 : Int)) = true := by rw [bne, eop7]; rfl
      have eop8 : (op == (8 : Int)) = false := by rw [beq_eq_false_iff_ne]; omega
      have fop8 : (op != (8 : Int)) = true := by rw [bne, eop8]; rfl
      go_wp2_with fail
      go_loopw [7] (fun i wx => ∃ m : Nat, m ≤ l.length ∧ i = .int .i64 m ∧ Hid (formsF nameF (l.drop m) = formsF nameF l) ∧ Hid (Upto [] wr wx)) (fun i _ => l.length - (intOf i).toNat)
      case atStart => exact ⟨0, by omega, rfl, Lib.hid rfl, Lib.hid (Upto.refl _ _)⟩
      case round =>
        clear y0 y1 y2 y3 y4 y5
        obtain ⟨m, hm, rfl, HB9, HV⟩ := hrel
        have hm0 : (0 : Int) ≤ m := by omega
        have hb := HV.out.at HB.out (by simp)
        have y5 := cell_of hb 5
        simp only [List.getElem?_toArray, List.getElem?_cons_zero, List.getElem?_cons_succ] at y5
        have HW2 := Lib.hid (HW.out.trans_ext HV.out)
        rcases Nat.lt_or_ge m l.length with hlt | hge2
        · have hltI : (m : Int) < l.length := by omega
          obtain ⟨x, hx⟩ : ∃ x, l[m]? = some x := ⟨_, List.getElem?_eq_getElem hlt⟩
          have HDR : Hid (l.drop m = x :: l.drop (m + 1)) := Lib.hid (by
            obtain ⟨hi, h3⟩ := List.getElem?_eq_some_iff.1 hx
            rw [List.drop_eq_getElem_cons hi, h3])
          obtain ⟨g, o, xo, xn1, xn2, xn3, xs, xm, xq, xl1, xl2, xl3, rfl, d0, d1, d2, d3, d4, d5, hnx⟩ := HG.out m x hx
          replace d0 := up_cell HW2.out d0
          replace d1 := up_cell HW2.out d1
          replace d2 := up_cell HW2.out d2
          replace d3 := up_cell HW2.out d3
          replace d4 := up_cell HW2.out d4
          replace d5 := up_cell HW2.out d5
          have HC := Lib.hid (IH x (by have := HSZ.out; have := sizesF_mem (List.mem_of_getElem? hx); omega) (insN_mem HIN.out.2.2.2 (List.mem_of_getElem? hx)) _ wr P (hnx.ext HW2.out))
          by_cases hz : formF nameF x = 0
          · have HA2 : Hid (formsF nameF (l.drop (m + 1)) = formsF nameF l) := Lib.hid (by
              rw [← HB9.out, HDR.out]
              conv => rhs; unfold formsF
              rw [hz]
              rfl)
            rw [hz] at HC
            clear hx hb hz hnx
            go_wp2_with fail
            refine HC.out.mono ?_
            rintro e w5 ⟨rfl, hu5⟩
            have HU5 := Lib.hid (HV.out.trans_ext hu5)
            clear hu5
            go_wp2_with fail
            go_roundw
            case rel => first | exact ⟨m + 1, by omega, by go_num, HA2, HU5⟩ | exact ⟨_, _, _, _, _, _, _, _, _, _, _, _, _, _, _, _, _, _, _, ⟨m + 1, by omega, by go_num, HA2, HU5⟩, rfl⟩
            case measure => simp [intOf]; omega
          · have HF : Hid (formsF nameF l = formF nameF x) := Lib.hid (by
              rw [← HB9.out, HDR.out]
              unfold formsF
              rw [if_pos hz])
            generalize hfx : formF nameF x = fx at *
            have ez : ((fx : Int) == 0) = false := by rw [beq_eq_false_iff_ne]; omega
            have ez2 : ((fx : Int) != 0) = true := by rw [bne, ez]; rfl
            clear hx hb hz hnx hfx
            go_wp2_with fail
            refine HC.out.mono ?_
            rintro e w5 ⟨rfl, hu5⟩
            have HU5 := Lib.hid (HW2.out.trans_ext hu5)
            clear hu5
            go_wp2_with fail
            go_ret
            rw [HF.out]
            exact ⟨rfl, HU5.out⟩
        · have hgeJ : ¬ (m : Int) < l.length := by omega
          have HF : Hid (formsF nameF l = 0) := Lib.hid (by
            rw [← HB9.out, List.drop_of_length_le (by omega)]
            rfl)
          clear hb
          go_wp2_with fail
          go_ret
          rw [HF.out]
          exact ⟨rfl, HW2.out⟩
set_option maxRecDepth 100000 in
set_option maxHeartbeats 12800000 in
theorem form_hc (k : Nat) (op so : Int) (nms : List (List UInt8)) (l : List Nd) (hk : sizesF l ≤ k) (hin : inN 10000000 (.mk op nms so 0 0 l)) (_hk7 : k + 1 ≤ 10000000) (v : Value) (w : World) (P : Nat → Prop) (h : NdV w P (.mk op nms so 0 0 l) v) (hk0 : ¬ (op : Int) < 0) (hk1 : ¬ (17 : Int) < op) (hsb : shapeBad op nms.length l.length = false) (hall : nms.all nameF = true) (o7 : op ≠ 7) (o8 : op ≠ 8) (o16 : ¬ op < 16) (hz : so < 0) : Calls Tryz.prog 53 #[v] w fun e w' => e = .returned (.int .i64 ((2 : Nat) : Int)) ∧ Upto [] w w' := by
  obtain ⟨a1, c1, a2, c2, rfl, hs, hg⟩ := h.open
  unfold inN at hin
  have HG := Lib.hid hg
  obtain ⟨a1', c1', ev, hnm⟩ := hs.get
  obtain ⟨rfl, rfl⟩ : a1 = a1' ∧ c1 = c1' := by simpa using ev
  have HN : Hid (∀ i x, nms[i]? = some x → ∃ g o, a1 = some ⟨g, o, none⟩ ∧ w.cell? ⟨g, o + i, none⟩ = some (.string ⟨x.toArray⟩)) := Lib.hid (fun i x hi => hnm i _ (by rw [List.getElem?_map, hi]; rfl))
  have HSZ := Lib.hid hk
  have HIN := Lib.hid hin
  have HAL := Lib.hid hall
  have hu1 : Upto [] w (w.alloc (.cells #[.int .i64 op, .slice a1 nms.length c1, .int .i64 so, .int .i64 0, .int .i64 0, .slice a2 l.length c2] 25)) := (Upto.refl [] w).alloc _
  have HB1 := Lib.hid (new_at w (.cells #[.int .i64 op, .slice a1 nms.length c1, .int .i64 so, .int .i64 0, .int .i64 0, .slice a2 l.length c2] 25))
  have HU1 := Lib.hid hu1
  have hll := hin.2.2.1
  have hnl := hin.1
  have hL0 : (0 : Int) ≤ l.length := by omega
  have hL1 : (l.length : Int) ≤ 10000000 := by omega
  have hN0 : (0 : Int) ≤ nms.length := by omega
  have hN1 : (nms.length : Int) ≤ 10000000 := by omega
  have HH := Lib.hid (has_calls op)
  obtain ⟨a, b, c, habc, ha17, hb17, hc17⟩ : ∃ a b c : Nat, hasF op = (a, b, c) ∧ a ≤ 17 ∧ b ≤ 17 ∧ c ≤ 17 := by
    unfold hasF
    repeat' split
    all_goals exact ⟨_, _, _, rfl, by decide, by decide, by decide⟩
  rw [habc] at HH
  simp only at HH
  obtain ⟨hs0, hs1, hs2⟩ : ¬ nms.length < a ∧ ¬ b < nms.length ∧ l.length = c := by
    unfold shapeBad at hsb
    rw [habc] at hsb
    simp at hsb
    omega
  have ha0 : (0 : Int) ≤ a := by omega
  have hb0 : (0 : Int) ≤ b := by omega
  have hc0 : (0 : Int) ≤ c := by omega
  have ha1 : (a : Int) ≤ 17 := by omega
  have hb1 : (b : Int) ≤ 17 := by omega
  have hc1 : (c : Int) ≤ 17 := by omega
  have q0 : ¬ (nms.length : Int) < a := by omega
  have q1 : ¬ (b : Int) < nms.length := by omega
  have q2 : ((l.length : Int) != (c : Int)) = false := by rw [hs2]; simp
  clear habc hsb hall h hs hg hk hu1 hnm ev hin hs2
  go_enter Tryz.func53, Tryz.ntmps53
  go_wp2_with fail
  refine (HH.out (w.alloc (.cells #[.int .i64 op, .slice a1 nms.length c1, .int .i64 so, .int .i64 0, .int .i64 0, .slice a2 l.length c2] 25))).mono ?_
  rintro e w3 ⟨rfl, hu3⟩
  have HU3 := Lib.hid (HU1.out.trans_ext hu3)
  have hb3 := hu3.at HB1.out (by simp)
  have HB3 := Lib.hid hb3
  obtain ⟨y0, y1, y2, y3, y4, y5⟩ := cells6 hb3
  clear hu3 hb3
  go_wp2_with fail
  go_loopw [6] (fun i wr => ∃ j : Nat, j ≤ nms.length ∧ i = .int .i64 j ∧ Hid (Upto [] w3 wr)) (fun i _ => nms.length - (intOf i).toNat)
  case atStart => exact ⟨0, by omega, rfl, Lib.hid (Upto.refl _ _)⟩
  case round =>
    clear y0 y1 y2 y3 y4 y5
    obtain ⟨j, hj, rfl, HU⟩ := hrel
    have hj0 : (0 : Int) ≤ j := by omega
    have hb := HU.out.at HB3.out (by simp)
    have HB := Lib.hid hb
    obtain ⟨y0, y1, y2, y3, y4, y5⟩ := cells6 hb
    have HW := Lib.hid (HU3.out.trans_ext HU.out)
    rcases Nat.lt_or_ge j nms.length with hlt | hge
    · have hltI : (j : Int) < nms.length := by omega
      obtain ⟨x, hx⟩ : ∃ x, nms[j]? = some x := ⟨_, List.getElem?_eq_getElem hlt⟩
      have hxl := HIN.out.2.1 x (List.mem_of_getElem? hx)
      obtain ⟨g, o, rfl, c0⟩ := HN.out j x hx
      replace c0 := up_cell HW.out c0
      have HC := Lib.hid (isName_calls x wr (by omega))
      have hb2 : nameF x = true := List.all_eq_true.1 HAL.out x (List.mem_of_getElem? hx)
      rw [hb2] at HC
      clear hx hb hb2
      go_wp2_with fail
      refine HC.out.mono ?_
      rintro e w5 ⟨rfl, hu5⟩
      have HU5 := Lib.hid (HU.out.trans_ext hu5)
      clear hu5
      go_wp2_with fail
      go_roundw
      case rel => first | exact ⟨j + 1, by omega, by go_num, HU5⟩ | exact ⟨_, _, _, _, _, _, _, _, _, _, _, _, _, _, _, _, ⟨j + 1, by omega, by go_num, HU5⟩, rfl⟩
      case measure => simp [intOf]; omega
    · have hgeI : ¬ (j : Int) < nms.length := by omega
      clear hb q0 q1 q2 hs0 hs1 ha0 hb0 hc0 ha1 hb1 hc1 HH HAL HN
      have eop7 : (op == (7 : Int)) = false := by rw [beq_eq_false_iff_ne]; omega
      have fop7 : (op != (7 : Int)) = true := by rw [bne, eop7]; rfl
      have eop8 : (op == (8 : Int)) = false := by rw [beq_eq_false_iff_ne]; omega
      have fop8 : (op != (8 : Int)) = true := by rw [bne, eop8]; rfl
      go_wp2_with fail
      go_ret
      exact ⟨rfl, HW.out⟩
set_option maxRecDepth 100000 in
set_option maxHeartbeats 12800000 in
theorem form_hd (k : Nat) (op so : Int) (nms : List (List UInt8)) (l : List Nd) (hk : sizesF l ≤ k) (hin : inN 10000000 (.mk op nms so 0 0 l)) (_hk7 : k + 1 ≤ 10000000) (v : Value) (w : World) (P : Nat → Prop) (h : NdV w P (.mk op nms so 0 0 l) v) (hk0 : ¬ (op : Int) < 0) (hk1 : ¬ (17 : Int) < op) (hsb : shapeBad op nms.length l.length = false) (hall : nms.all nameF = true) (o7 : op ≠ 7) (o8 : op ≠ 8) (o16 : ¬ op < 16) (h1 : ¬ so < 0) (hz : 3 < so) : Calls Tryz.prog 53 #[v] w fun e w' => e = .returned (.int .i64 ((2 : Nat) : Int)) ∧ Upto [] w w' := by
  obtain ⟨a1, c1, a2, c2, rfl, hs, hg⟩ := h.open
  unfold inN at hin
  have HG := Lib.hid hg
  obtain ⟨a1', c1', ev, hnm⟩ := hs.get
  obtain ⟨rfl, rfl⟩ : a1 = a1' ∧ c1 = c1' := by simpa using ev
  have HN : Hid (∀ i x, nms[i]? = some x → ∃ g o, a1 = some ⟨g, o, none⟩ ∧ w.cell? ⟨g, o + i, none⟩ = some (.string ⟨x.toArray⟩)) := Lib.hid (fun i x hi => hnm i _ (by rw [List.getElem?_map, hi]; rfl))
  have HSZ := Lib.hid hk
  have HIN := Lib.hid hin
  have HAL := Lib.hid hall
  have hu1 : Upto [] w (w.alloc (.cells #[.int .i64 op, .slice a1 nms.length c1, .int .i64 so, .int .i64 0, .int .i64 0, .slice a2 l.length c2] 25)) := (Upto.refl [] w).alloc _
  have HB1 := Lib.hid (new_at w (.cells #[.int .i64 op, .slice a1 nms.length c1, .int .i64 so, .int .i64 0, .int .i64 0, .slice a2 l.length c2] 25))
  have HU1 := Lib.hid hu1
  have hll := hin.2.2.1
  have hnl := hin.1
  have hL0 : (0 : Int) ≤ l.length := by omega
  have hL1 : (l.length : Int) ≤ 10000000 := by omega
  have hN0 : (0 : Int) ≤ nms.length := by omega
  have hN1 : (nms.length : Int) ≤ 10000000 := by omega
  have HH := Lib.hid (has_calls op)
  obtain ⟨a, b, c, habc, ha17, hb17, hc17⟩ : ∃ a b c : Nat, hasF op = (a, b, c) ∧ a ≤ 17 ∧ b ≤ 17 ∧ c ≤ 17 := by
    unfold hasF
    repeat' split
    all_goals exact ⟨_, _, _, rfl, by decide, by decide, by decide⟩
  rw [habc] at HH
  simp only at HH
  obtain ⟨hs0, hs1, hs2⟩ : ¬ nms.length < a ∧ ¬ b < nms.length ∧ l.length = c := by
    unfold shapeBad at hsb
    rw [habc] at hsb
    simp at hsb
    omega
  have ha0 : (0 : Int) ≤ a := by omega
  have hb0 : (0 : Int) ≤ b := by omega
  have hc0 : (0 : Int) ≤ c := by omega
  have ha1 : (a : Int) ≤ 17 := by omega
  have hb1 : (b : Int) ≤ 17 := by omega
  have hc1 : (c : Int) ≤ 17 := by omega
  have q0 : ¬ (nms.length : Int) < a := by omega
  have q1 : ¬ (b : Int) < nms.length := by omega
  have q2 : ((l.length : Int) != (c : Int)) = false := by rw [hs2]; simp
  clear habc hsb hall h hs hg hk hu1 hnm ev hin hs2
  go_enter Tryz.func53, Tryz.ntmps53
  go_wp2_with fail
  refine (HH.out (w.alloc (.cells #[.int .i64 op, .slice a1 nms.length c1, .int .i64 so, .int .i64 0, .int .i64 0, .slice a2 l.length c2] 25))).mono ?_
  rintro e w3 ⟨rfl, hu3⟩
  have HU3 := Lib.hid (HU1.out.trans_ext hu3)
  have hb3 := hu3.at HB1.out (by simp)
  have HB3 := Lib.hid hb3
  obtain ⟨y0, y1, y2, y3, y4, y5⟩ := cells6 hb3
  clear hu3 hb3
  go_wp2_with fail
  go_loopw [6] (fun i wr => ∃ j : Nat, j ≤ nms.length ∧ i = .int .i64 j ∧ Hid (Upto [] w3 wr)) (fun i _ => nms.length - (intOf i).toNat)
  case atStart => exact ⟨0, by omega, rfl, Lib.hid (Upto.refl _ _)⟩
  case round =>
    clear y0 y1 y2 y3 y4 y5
    obtain ⟨j, hj, rfl, HU⟩ := hrel
    have hj0 : (0 : Int) ≤ j := by omega
    have hb := HU.out.at HB3.out (by simp)
    have HB := Lib.hid hb
    obtain ⟨y0, y1, y2, y3, y4, y5⟩ := cells6 hb
    have HW := Lib.hid (HU3.out.trans_ext HU.out)
    rcases Nat.lt_or_ge j nms.length with hlt | hge
    · have hltI : (j : Int) < nms.length := by omega
      obtain ⟨x, hx⟩ : ∃ x, nms[j]? = some x := ⟨_, List.getElem?_eq_getElem hlt⟩
      have hxl := HIN.out.2.1 x (List.mem_of_getElem? hx)
      obtain ⟨g, o, rfl, c0⟩ := HN.out j x hx
      replace c0 := up_cell HW.out c0
      have HC := Lib.hid (isName_calls x wr (by omega))
      have hb2 : nameF x = true := List.all_eq_true.1 HAL.out x (List.mem_of_getElem? hx)
      rw [hb2] at HC
      clear hx hb hb2
      go_wp2_with fail
      refine HC.out.mono ?_
      rintro e w5 ⟨rfl, hu5⟩
      have HU5 := Lib.hid (HU.out.trans_ext hu5)
      clear hu5
      go_wp2_with fail
      go_roundw
      case rel => first | exact ⟨j + 1, by omega, by go_num, HU5⟩ | exact ⟨_, _, _, _, _, _, _, _, _, _, _, _, _, _, _, _, ⟨j + 1, by omega, by go_num, HU5⟩, rfl⟩
      case measure => simp [intOf]; omega
    · have hgeI : ¬ (j : Int) < nms.length := by omega
      clear hb q0 q1 q2 hs0 hs1 ha0 hb0 hc0 ha1 hb1 hc1 HH HAL HN
      have eop7 : (op == (7 : Int)) = false := by rw [beq_eq_false_iff_ne]; omega
      have fop7 : (op != (7 : Int)) = true := by rw [bne, eop7]; rfl
      have eop8 : (op == (8 : Int)) = false := by rw [beq_eq_false_iff_ne]; omega
      have fop8 : (op != (8 : Int)) = true := by rw [bne, eop8]; rfl
      go_wp2_with fail
      go_ret
      exact ⟨rfl, HW.out⟩
set_option maxRecDepth 100000 in
set_option maxHeartbeats 12800000 in
theorem form_hg (k : Nat) (op so : Int) (nms : List (List UInt8)) (l : List Nd) (hk : sizesF l ≤ k) (hin : inN 10000000 (.mk op nms so 0 0 l)) (_hk7 : k + 1 ≤ 10000000) (v : Value) (w : World) (P : Nat → Prop) (h : NdV w P (.mk op nms so 0 0 l) v) (hk0 : ¬ (op : Int) < 0) (hk1 : ¬ (17 : Int) < op) (hsb : shapeBad op nms.length l.length = false) (hall : nms.all nameF = true) (o7 : op ≠ 7) (o8 : op ≠ 8) (o16 : ¬ op < 16) (h1 : ¬ so < 0) (h2 : ¬ 3 < so) (IH : ∀ (nd : Nd), sizeF nd ≤ k → inN 10000000 nd → ∀ (v : Value) (w : World) (P : Nat → Prop), NdV w P nd v → Calls Tryz.prog 53 #[v] w fun e w' => e = .returned (.int .i64 (formF nameF nd : Nat)) ∧ Upto [] w w') : Calls Tryz.prog 53 #[v] w fun e w' => e = .returned (.int .i64 ((formsF nameF l : Nat) : Int)) ∧ Upto [] w w' := by
  obtain ⟨a1, c1, a2, c2, rfl, hs, hg⟩ := h.open
  unfold inN at hin
  have HG := Lib.hid hg
  obtain ⟨a1', c1', ev, hnm⟩ := hs.get
  obtain ⟨rfl, rfl⟩ : a1 = a1' ∧ c1 = c1' := by simpa using ev
  have HN : Hid (∀ i x, nms[i]? = some x → ∃ g o, a1 = some ⟨g, o, none⟩ ∧ w.cell? ⟨g, o + i, none⟩ = some (.string ⟨x.toArray⟩)) := Lib.hid (fun i x hi => hnm i _ (by rw [List.getElem?_map, hi]; rfl))
  have HSZ := Lib.hid hk
  have HIN := Lib.hid hin
  have HAL := Lib.hid hall
  have hu1 : Upto [] w (w.alloc (.cells #[.int .i64 op, .slice a1 nms.length c1, .int .i64 so, .int .i64 0, .int .i64 0, .slice a2 l.length c2] 25)) := (Upto.refl [] w).alloc _
  have HB1 := Lib.hid (new_at w (.cells #[.int .i64 op, .slice a1 nms.length c1, .int .i64 so, .int .i64 0, .int .i64 0, .slice a2 l.length c2] 25))
  have HU1 := Lib.hid hu1
  have hll := hin.2.2.1
  have hnl := hin.1
  have hL0 : (0 : Int) ≤ l.length := by omega
  have hL1 : (l.length : Int) ≤ 10000000 := by omega
  have hN0 : (0 : Int) ≤ nms.length := by omega
  have hN1 : (nms.length : Int) ≤ 10000000 := by omega
  have HH := Lib.hid (has_calls op)
  obtain ⟨a, b, c, habc, ha17, hb17, hc17⟩ : ∃ a b c : Nat, hasF op = (a, b, c) ∧ a ≤ 17 ∧ b ≤ 17 ∧ c ≤ 17 := by
    unfold hasF
    repeat' split
    all_goals exact ⟨_, _, _, rfl, by decide, by decide, by decide⟩
  rw [habc] at HH
  simp only at HH
  obtain ⟨hs0, hs1, hs2⟩ : ¬ nms.length < a ∧ ¬ b < nms.length ∧ l.length = c := by
    unfold shapeBad at hsb
    rw [habc] at hsb
    simp at hsb
    omega
  have ha0 : (0 : Int) ≤ a := by omega
  have hb0 : (0 : Int) ≤ b := by omega
  have hc0 : (0 : Int) ≤ c := by omega
  have ha1 : (a : Int) ≤ 17 := by omega
  have hb1 : (b : Int) ≤ 17 := by omega
  have hc1 : (c : Int) ≤ 17 := by omega
  have q0 : ¬ (nms.length : Int) < a := by omega
  have q1 : ¬ (b : Int) < nms.length := by omega
  have q2 : ((l.length : Int) != (c : Int)) = false := by rw [hs2]; simp
  clear habc hsb hall h hs hg hk hu1 hnm ev hin hs2
  go_enter Tryz.func53, Tryz.ntmps53
  go_wp2_with fail
  refine (HH.out (w.alloc (.cells #[.int .i64 op, .slice a1 nms.length c1, .int .i64 so, .int .i64 0, .int .i64 0, .slice a2 l.length c2] 25))).mono ?_
  rintro e w3 ⟨rfl, hu3⟩
  have HU3 := Lib.hid (HU1.out.trans_ext hu3)
  have hb3 := hu3.at HB1.out (by simp)
  have HB3 := Lib.hid hb3
  obtain ⟨y0, y1, y2, y3, y4, y5⟩ := cells6 hb3
  clear hu3 hb3
  go_wp2_with fail
  go_loopw [6] (fun i wr => ∃ j : Nat, j ≤ nms.length ∧ i = .int .i64 j ∧ Hid (Upto [] w3 wr)) (fun i _ => nms.length - (intOf i).toNat)
  case atStart => exact ⟨0, by omega, rfl, Lib.hid (Upto.refl _ _)⟩
  case round =>
    clear y0 y1 y2 y3 y4 y5
    obtain ⟨j, hj, rfl, HU⟩ := hrel
    have hj0 : (0 : Int) ≤ j := by omega
    have hb := HU.out.at HB3.out (by simp)
    have HB := Lib.hid hb
    obtain ⟨y0, y1, y2, y3, y4, y5⟩ := cells6 hb
    have HW := Lib.hid (HU3.out.trans_ext HU.out)
    rcases Nat.lt_or_ge j nms.length with hlt | hge
    · have hltI : (j : Int) < nms.length := by omega
      obtain ⟨x, hx⟩ : ∃ x, nms[j]? = some x := ⟨_, List.getElem?_eq_getElem hlt⟩
      have hxl := HIN.out.2.1 x (List.mem_of_getElem? hx)
      obtain ⟨g, o, rfl, c0⟩ := HN.out j x hx
      replace c0 := up_cell HW.out c0
      have HC := Lib.hid (isName_calls x wr (by omega))
      have hb2 : nameF x = true := List.all_eq_true.1 HAL.out x (List.mem_of_getElem? hx)
      rw [hb2] at HC
      clear hx hb hb2
      go_wp2_with fail
      refine HC.out.mono ?_
      rintro e w5 ⟨rfl, hu5⟩
      have HU5 := Lib.hid (HU.out.trans_ext hu5)
      clear hu5
      go_wp2_with fail
      go_roundw
      case rel => first | exact ⟨j + 1, by omega, by go_num, HU5⟩ | exact ⟨_, _, _, _, _, _, _, _, _, _, _, _, _, _, _, _, ⟨j + 1, by omega, by go_num, HU5⟩, rfl⟩
      case measure => simp [intOf]; omega
    · have hgeI : ¬ (j : Int) < nms.length := by omega
      clear hb q0 q1 q2 hs0 hs1 ha0 hb0 hc0 ha1 hb1 hc1 HH HAL HN
      have eop7 : (op == (7 : Int)) = false := by rw [beq_eq_false_iff_ne]; omega
      have fop7 : (op != (7 : Int)) = true := by rw [bne, eop7]; rfl
      have eop8 : (op == (8 : Int)) = false := by rw [beq_eq_false_iff_ne]; omega
      have fop8 : (op != (8 : Int)) = true := by rw [bne, eop8]; rfl
      go_wp2_with fail
      go_loopw [7] (fun i wx => ∃ m : Nat, m ≤ l.length ∧ i = .int .i64 m ∧ Hid (formsF nameF (l.drop m) = formsF nameF l) ∧ Hid (Upto [] wr wx)) (fun i _ => l.length - (intOf i).toNat)
      case atStart => exact ⟨0, by omega, rfl, Lib.hid rfl, Lib.hid (Upto.refl _ _)⟩
      case round =>
        clear y0 y1 y2 y3 y4 y5
        obtain ⟨m, hm, rfl, HB9, HV⟩ := hrel
        have hm0 : (0 : Int) ≤ m := by omega
        have hb := HV.out.at HB.out (by simp)
        have y5 := cell_of hb 5
        simp only [List.getElem?_toArray, List.getElem?_cons_zero, List.getElem?_cons_succ] at y5
        have HW2 := Lib.hid (HW.out.trans_ext HV.out)
        rcases Nat.lt_or_ge m l.length with hlt | hge2
        · have hltI : (m : Int) < l.length := by omega
          obtain ⟨x, hx⟩ : ∃ x, l[m]? = some x := ⟨_, List.getElem?_eq_getElem hlt⟩
          have HDR : Hid (l.drop m = x :: l.drop (m + 1)) := Lib.hid (by
            obtain ⟨hi, h3⟩ := List.getElem?_eq_some_iff.1 hx
            rw [List.drop_eq_getElem_cons hi, h3])
          obtain ⟨g, o, xo, xn1, xn2, xn3, xs, xm, xq, xl1, xl2, xl3, rfl, d0, d1, d2, d3, d4, d5, hnx⟩ := HG.out m x hx
          replace d0 := up_cell HW2.out d0
          replace d1 := up_cell HW2.out d1
          replace d2 := up_cell HW2.out d2
          replace d3 := up_cell HW2.out d3
          replace d4 := up_cell HW2.out d4
          replace d5 := up_cell HW2.out d5
          have HC := Lib.hid (IH x (by have := HSZ.out; have := sizesF_mem (List.mem_of_getElem? hx); omega) (insN_mem HIN.out.2.2.2 (List.mem_of_getElem? hx)) _ wr P (hnx.ext HW2.out))
          by_cases hz : formF nameF x = 0
          · have HA2 : Hid (formsF nameF (l.drop (m + 1)) = formsF nameF l) := Lib.hid (by
              rw [← HB9.out, HDR.out]
              conv => rhs; unfold formsF
              rw [hz]
              rfl)
            rw [hz] at HC
            clear hx hb hz hnx
            go_wp2_with fail
            refine HC.out.mono ?_
            rintro e w5 ⟨rfl, hu5⟩
            have HU5 := Lib.hid (HV.out.trans_ext hu5)
            clear hu5
            go_wp2_with fail
            go_roundw
            case rel => first | exact ⟨m + 1, by omega, by go_num, HA2, HU5⟩ | exact ⟨_, _, _, _, _, _, _, _, _, _, _, _, _, _, _, _, _, _, _, ⟨m + 1, by omega, by go_num, HA2, HU5⟩, rfl⟩
            case measure => simp [intOf]; omega
          · have HF : Hid (formsF nameF l = formF nameF x) := Lib.hid (by
              rw [← HB9.out, HDR.out]
              unfold formsF
              rw [if_pos hz])
            generalize hfx : formF nameF x = fx at *
            have ez : ((fx : Int) == 0) = false := by rw [beq_eq_false_iff_ne]; omega
            have ez2 : ((fx : Int) != 0) = true := by rw [bne, ez]; rfl
            clear hx hb hz hnx hfx
            go_wp2_with fail
            refine HC.out.mono ?_
            rintro e w5 ⟨rfl, hu5⟩
            have HU5 := Lib.hid (HW2.out.trans_ext hu5)
            clear hu5
            go_wp2_with fail
            go_ret
            rw [HF.out]
            exact ⟨rfl, HU5.out⟩
        · have hgeJ : ¬ (m : Int) < l.length := by omega
          have HF : Hid (formsF nameF l = 0) := Lib.hid (by
            rw [← HB9.out, List.drop_of_length_le (by omega)]
            rfl)
          clear hb
          go_wp2_with fail
          go_ret
          rw [HF.out]
          exact ⟨rfl, HW2.out⟩
theorem form_calls : ∀ (k : Nat) (nd : Nd), sizeF nd ≤ k → inN 10000000 nd → k ≤ 10000000 → ∀ (v : Value) (w : World) (P : Nat → Prop), NdV w P nd v → Calls Tryz.prog 53 #[v] w fun e w' => e = .returned (.int .i64 (formF nameF nd : Nat)) ∧ Upto [] w w'
  | 0, nd, hk, _, _, _, _, _, _ => by have := sizeF_pos nd; omega
  | k + 1, .mk op nms so nn mm l, hk, hin, hk7, v, w, P, h => by
    have hsz : sizesF l ≤ k := by simp only [sizeF] at hk; omega
    have IH : ∀ (nd : Nd), sizeF nd ≤ k → inN 10000000 nd → ∀ (v : Value) (w : World) (P : Nat → Prop), NdV w P nd v → Calls Tryz.prog 53 #[v] w fun e w' => e = .returned (.int .i64 (formF nameF nd : Nat)) ∧ Upto [] w w' := fun nd h1 h2 => form_calls k nd h1 h2 (by omega)
    by_cases hbad : kindBad op = true ∨ shapeBad op nms.length l.length = true ∨ nms.all nameF = false
    · exact form_bad k op so nn mm nms l hk hin hk7 v w P h hbad
    obtain ⟨b1, b2, b3⟩ : kindBad op = false ∧ shapeBad op nms.length l.length = false ∧ nms.all nameF = true := by
      refine ⟨?_, ?_, ?_⟩
      · cases e : kindBad op with
        | false => rfl
        | true => exact absurd (Or.inl e) hbad
      · cases e : shapeBad op nms.length l.length with
        | false => rfl
        | true => exact absurd (Or.inr (Or.inl e)) hbad
      · cases e : nms.all nameF with
        | true => rfl
        | false => exact absurd (Or.inr (Or.inr e)) hbad
    clear hbad
    obtain ⟨g0, g17⟩ : ¬ op < 0 ∧ ¬ 17 < op := by
      have h := b1
      unfold kindBad at h
      simp at h
      omega
    have HT : ∀ n : Nat, (if zeroBad op so nn mm then 3 else if rangeBad op so nn mm then 2 else formsF nameF l) = n → formF nameF (.mk op nms so nn mm l) = n := fun n hn => by
      unfold formF
      rw [if_neg (by rw [b1]; decide), if_neg (by rw [b2]; decide), if_neg (by rw [b3]; decide)]
      exact hn
    by_cases c7 : op = 7
    · subst c7
      by_cases t1 : mm ≠ 0
      · rw [HT 3 (by rw [if_pos (by simp [zeroBad, *])])]
        exact form_7a k so nn mm nms l hsz hin hk7 v w P h (by omega) (by omega) b2 b3 t1
      obtain rfl : mm = 0 := Decidable.not_not.1 t1
      by_cases t2 : so ≠ 0
      · rw [HT 3 (by rw [if_pos (by simp [zeroBad, *])])]
        exact form_7b k so nn nms l hsz hin hk7 v w P h (by omega) (by omega) b2 b3 t2
      obtain rfl : so = 0 := Decidable.not_not.1 t2
      by_cases t3 : nn < 0
      · rw [HT 2 (by rw [if_neg (by simp [zeroBad, *]), if_pos (by simp [rangeBad, *])])]
        exact form_7c k nn nms l hsz hin hk7 v w P h (by omega) (by omega) b2 b3 t3
      by_cases t4 : 7 < nn
      · rw [HT 2 (by rw [if_neg (by simp [zeroBad, *]), if_pos (by simp [rangeBad, *])])]
        exact form_7d k nn nms l hsz hin hk7 v w P h (by omega) (by omega) b2 b3 t3 t4
      rw [HT (formsF nameF l) (by rw [if_neg (by simp [zeroBad, *]), if_neg (by simp [rangeBad, *])])]
      exact form_7g k nn nms l hsz hin hk7 v w P h (by omega) (by omega) b2 b3 t3 t4 IH
    by_cases c8 : op = 8
    · subst c8
      by_cases t2 : so ≠ 0
      · rw [HT 3 (by rw [if_pos (by simp [zeroBad, *])])]
        exact form_8a k so nn mm nms l hsz hin hk7 v w P h (by omega) (by omega) b2 b3 t2
      obtain rfl : so = 0 := Decidable.not_not.1 t2
      by_cases t3 : mm < 1
      · rw [HT 2 (by rw [if_neg (by simp [zeroBad, *]), if_pos (by simp [rangeBad, *])])]
        exact form_8b k nn mm nms l hsz hin hk7 v w P h (by omega) (by omega) b2 b3 t3
      by_cases t4 : 64 < mm
      · rw [HT 2 (by rw [if_neg (by simp [zeroBad, *]), if_pos (by simp [rangeBad, *])])]
        exact form_8c k nn mm nms l hsz hin hk7 v w P h (by omega) (by omega) b2 b3 t3 t4
      by_cases t5 : nn < 0
      · rw [HT 2 (by rw [if_neg (by simp [zeroBad, *]), if_pos (by simp [rangeBad, *])])]
        exact form_8d k nn mm nms l hsz hin hk7 v w P h (by omega) (by omega) b2 b3 t3 t4 t5
      by_cases t6 : mm ≤ nn
      · rw [HT 2 (by rw [if_neg (by simp [zeroBad, *]), if_pos (by simp [rangeBad, *])])]
        exact form_8e k nn mm nms l hsz hin hk7 v w P h (by omega) (by omega) b2 b3 t3 t4 t5 t6
      rw [HT (formsF nameF l) (by rw [if_neg (by simp [zeroBad, *]), if_neg (by simp [rangeBad, *])])]
      exact form_8g k nn mm nms l hsz hin hk7 v w P h (by omega) (by omega) b2 b3 t3 t4 t5 t6 IH
    by_cases c16 : op < 16
    · by_cases t1 : nn ≠ 0
      · rw [HT 3 (by rw [if_pos (by simp [zeroBad, *])])]
        exact form_oa k op so nn mm nms l hsz hin hk7 v w P h (by omega) (by omega) b2 b3 c7 c8 c16 t1
      obtain rfl : nn = 0 := Decidable.not_not.1 t1
      by_cases t2 : mm ≠ 0
      · rw [HT 3 (by rw [if_pos (by simp [zeroBad, *])])]
        exact form_ob k op so mm nms l hsz hin hk7 v w P h (by omega) (by omega) b2 b3 c7 c8 c16 t2
      obtain rfl : mm = 0 := Decidable.not_not.1 t2
      by_cases t3 : so ≠ 0
      · rw [HT 3 (by rw [if_pos (by simp [zeroBad, *])])]
        exact form_oc k op so nms l hsz hin hk7 v w P h (by omega) (by omega) b2 b3 c7 c8 c16 t3
      obtain rfl : so = 0 := Decidable.not_not.1 t3
      rw [HT (formsF nameF l) (by rw [if_neg (by simp [zeroBad, *]), if_neg (by simp [rangeBad, *])])]
      exact form_og k op nms l hsz hin hk7 v w P h (by omega) (by omega) b2 b3 c7 c8 c16 IH
    by_cases t1 : nn ≠ 0
    · rw [HT 3 (by rw [if_pos (by simp [zeroBad, *])])]
      exact form_ha k op so nn mm nms l hsz hin hk7 v w P h (by omega) (by omega) b2 b3 c7 c8 c16 t1
    obtain rfl : nn = 0 := Decidable.not_not.1 t1
    by_cases t2 : mm ≠ 0
    · rw [HT 3 (by rw [if_pos (by simp [zeroBad, *])])]
      exact form_hb k op so mm nms l hsz hin hk7 v w P h (by omega) (by omega) b2 b3 c7 c8 c16 t2
    obtain rfl : mm = 0 := Decidable.not_not.1 t2
    by_cases t3 : so < 0
    · rw [HT 2 (by rw [if_neg (by simp [zeroBad, *]), if_pos (by simp [rangeBad, *])])]
      exact form_hc k op so nms l hsz hin hk7 v w P h (by omega) (by omega) b2 b3 c7 c8 c16 t3
    by_cases t4 : 3 < so
    · rw [HT 2 (by rw [if_neg (by simp [zeroBad, *]), if_pos (by simp [rangeBad, *])])]
      exact form_hd k op so nms l hsz hin hk7 v w P h (by omega) (by omega) b2 b3 c7 c8 c16 t3 t4
    rw [HT (formsF nameF l) (by rw [if_neg (by simp [zeroBad, *]), if_neg (by simp [rangeBad, *])])]
    exact form_hg k op so nms l hsz hin hk7 v w P h (by omega) (by omega) b2 b3 c7 c8 c16 t3 t4 IH
theorem ident_real {x : List UInt8} (h : nameF x = true) : Real 1 x 0 := by
  unfold nameF at h
  simp only [Bool.and_eq_true, decide_eq_true_eq] at h
  obtain ⟨⟨h1, h2⟩, h3⟩ := h
  refine Or.inr ⟨h1, fun y hy => List.all_eq_true.1 h2 y hy, ?_⟩
  cases hc : classify x with
  | error e => rw [hc] at h3; cases h3
  | ok p =>
    obtain ⟨k, v⟩ := p
    rw [hc] at h3
    simp only [decide_eq_true_eq] at h3
    subst h3
    have hv : v = 0 := by
      cases x with
      | nil => cases hc
      | cons b t =>
        simp only [classify] at hc
        split at hc
        · split at hc
          · cases hc
          · split at hc
            · cases hc
            · cases hc
        · split at hc
          · cases hc
          · split at hc
            · cases hc
            · split at hc
              · cases hc
              · exact (Prod.mk.inj (Except.ok.inj hc)).2.symm
    rw [hv]
set_option maxRecDepth 100000 in
set_option maxHeartbeats 3200000 in
theorem checkR_calls (nd : Nd) (v : Value) (w : World) (P : Nat → Prop) (h : NdV w P nd v) (hk : sizeF nd ≤ 10000000) (hin : inN 10000000 nd) : Calls Tryz.prog 18 #[v] w fun e w' => e = .returned (.int .i64 (checkF nameF nd : Nat)) ∧ Upto [] w w' := by
  obtain ⟨xo, xn1, xn2, xn3, xs, xm, xq, xl1, xl2, xl3, rfl⟩ := h.six
  have hua : Upto [] w (w.alloc (.cells #[.int .i64 xo, .slice xn1 xn2 xn3, .int .i64 xs, .int .i64 xm, .int .i64 xq, .slice xl1 xl2 xl3] 25)) := (Upto.refl [] w).alloc _
  have HS := Lib.hid (fun u (hu : Upto [] w u) => form_calls _ nd hk hin (Nat.le_refl _) _ u P (h.ext hu))
  have HD := Lib.hid (fun u (hu : Upto [] w u) => greatR_calls nd _ u P (h.ext hu) hk)
  have HUA := Lib.hid hua
  have HNB := Lib.hid (new_at w (.cells #[.int .i64 xo, .slice xn1 xn2 xn3, .int .i64 xs, .int .i64 xm, .int .i64 xq, .slice xl1 xl2 xl3] 25))
  clear h hua hin
  by_cases h1 : formF nameF nd = 0
  · have HF : Hid (checkF nameF nd = greatF nd) := Lib.hid (by unfold checkF; rw [h1]; rfl)
    rw [HF.out]
    rw [h1] at HS
    clear h1
    go_enter Tryz.func18, Tryz.ntmps18
    go_wp2_with fail
    refine (HS.out _ HUA.out).mono ?_
    rintro e w5 ⟨rfl, hu5⟩
    have HU5 := Lib.hid (HUA.out.trans_ext hu5)
    have hb5 := hu5.at HNB.out (by simp)
    obtain ⟨y0, y1, y2, y3, y4, y5⟩ := cells6 hb5
    clear hu5 hb5
    go_wp2_with fail
    refine (HD.out _ HU5.out).mono ?_
    rintro e w6 ⟨rfl, hu6⟩
    have HU6 := Lib.hid (HU5.out.trans_ext hu6)
    clear hu6
    go_wp2_with fail
    go_ret
    exact ⟨rfl, HU6.out⟩
  · have HF : Hid (checkF nameF nd = formF nameF nd) := Lib.hid (by unfold checkF; rw [if_pos h1])
    rw [HF.out]
    generalize hfx : formF nameF nd = fx at *
    have ez : ((fx : Int) == 0) = false := by rw [beq_eq_false_iff_ne]; omega
    have ez2 : ((fx : Int) != 0) = true := by rw [bne, ez]; rfl
    clear hfx h1
    go_enter Tryz.func18, Tryz.ntmps18
    go_wp2_with fail
    refine (HS.out _ HUA.out).mono ?_
    rintro e w5 ⟨rfl, hu5⟩
    have HU5 := Lib.hid (HUA.out.trans_ext hu5)
    clear hu5
    go_wp2_with fail
    go_ret
    exact ⟨rfl, HU5.out⟩
set_option maxRecDepth 100000 in
set_option maxHeartbeats 6400000 in
theorem right_calls (q : Qn) (v : Value) (w : World) (P : Nat → Prop) (h : QnV w P q v) (hk : sizeF q.body ≤ 10000000) (hin : inN 10000000 q.body) (hfn : ∀ y ∈ q.free, y.1.length ≤ 10000000) : Calls Tryz.prog 35 #[v] w fun e w' => e = .returned (.int .i64 (rightF nameF q : Nat)) ∧ Upto [] w w' := by
  obtain ⟨f1, f3, o1, a1, a2, a3, s1, n1, m1, l1, l2, l3, rfl, hv, hn⟩ := h.open
  have hu1 : Upto [] w (w.alloc (.cells #[.slice f1 q.free.length f3, .int .i64 o1, .slice a1 a2 a3, .int .i64 s1, .int .i64 n1, .int .i64 m1, .slice l1 l2 l3] 45)) := (Upto.refl [] w).alloc _
  have HU1 := Lib.hid hu1
  have HB1 := Lib.hid (new_at w (.cells #[.slice f1 q.free.length f3, .int .i64 o1, .slice a1 a2 a3, .int .i64 s1, .int .i64 n1, .int .i64 m1, .slice l1 l2 l3] 45))
  by_cases h8 : 8 < q.free.length
  · have h8I : (8 : Int) < q.free.length := by omega
    have HF : Hid (rightF nameF q = 8) := Lib.hid (by unfold rightF; rw [if_pos h8])
    rw [HF.out]
    clear h hv hn hk hin hfn hu1
    go_enter Tryz.func35, Tryz.ntmps35
    go_wp2_with fail
    go_ret
    exact ⟨rfl, HU1.out⟩
  have h8I : ¬ (8 : Int) < q.free.length := by omega
  have H8 := Lib.hid h8
  have HG := Lib.hid (vars_slice hv)
  have HFN := Lib.hid hfn
  have HCK := Lib.hid (fun u (hu : Upto [] w u) => checkR_calls q.body _ u P (hn.ext hu) hk hin)
  have hL0 : (0 : Int) ≤ q.free.length := by omega
  have hL1 : (q.free.length : Int) ≤ 8 := by omega
  clear h hv hn hk hin hfn hu1 h8
  go_enter Tryz.func35, Tryz.ntmps35
  go_wp2_with fail
  go_loopw [3] (fun i wr => ∃ j : Nat, j ≤ q.free.length ∧ i = .int .i64 j ∧ Hid (varsE nameF (q.free.drop j) ((q.free.take j).map Prod.fst) = varsE nameF q.free []) ∧ Hid (Upto [] (w.alloc (.cells #[.slice f1 q.free.length f3, .int .i64 o1, .slice a1 a2 a3, .int .i64 s1, .int .i64 n1, .int .i64 m1, .slice l1 l2 l3] 45)) wr)) (fun i _ => q.free.length - (intOf i).toNat)
  case atStart => exact ⟨0, by omega, rfl, Lib.hid (by simp), Lib.hid (Upto.refl _ _)⟩
  case round =>
    obtain ⟨j, hj, rfl, HE, HU⟩ := hrel
    have hj0 : (0 : Int) ≤ j := by omega
    have hb := HU.out.at HB1.out (by simp)
    obtain ⟨y0, y1, y2, y3, y4, y5, y6⟩ := cells7 hb
    have HW := Lib.hid (HU1.out.trans_ext HU.out)
    rcases Nat.lt_or_ge j q.free.length with hlt | hge
    · have hltI : (j : Int) < q.free.length := by omega
      obtain ⟨x, hx⟩ : ∃ x, q.free[j]? = some x := ⟨_, List.getElem?_eq_getElem hlt⟩
      have HDR : Hid (q.free.drop j = x :: q.free.drop (j + 1)) := Lib.hid (by
        obtain ⟨hi, h3⟩ := List.getElem?_eq_some_iff.1 hx
        rw [List.drop_eq_getElem_cons hi, h3])
      have HTK : Hid ((q.free.take (j + 1)).map Prod.fst = (q.free.take j).map Prod.fst ++ [x.1]) := Lib.hid (by
        rw [List.take_add_one, hx]
        simp)
      have hnl := HFN.out x (List.mem_of_getElem? hx)
      obtain ⟨g, o, rfl, c0, c1⟩ := HG.out j x hx
      have HGx := HG
      replace c0 := up_cell HW.out c0
      replace c1 := up_cell HW.out c1
      obtain ⟨x1, x2⟩ := x
      simp only at c0 c1 hnl HTK
      have hxa : Upto [] wr (wr.alloc (.cells #[.string ⟨x1.toArray⟩, .int .i64 x2] 91)) := (Upto.refl [] wr).alloc _
      have HXV := Lib.hid (HU.out.trans_ext hxa)
      have HXA := Lib.hid (HW.out.trans_ext hxa)
      have hn := new_at wr (.cells #[.string ⟨x1.toArray⟩, .int .i64 x2] 91)
      have HN := Lib.hid hn
      have HBx := Lib.hid (hxa.at hb (by simp))
      obtain ⟨n0, n1⟩ := cells2 hn
      have HC := Lib.hid (isName_calls x1 (wr.alloc (.cells #[.string ⟨x1.toArray⟩, .int .i64 x2] 91)) (by omega))
      have hbb : nameF x1 = true ∨ nameF x1 = false := by cases nameF x1 <;> simp
      rcases hbb with hb2 | hb2
      case inr =>
        have HF : Hid (rightF nameF q = 3) := Lib.hid (right_vars H8.out (by decide) (by rw [← HE.out, HDR.out]; unfold varsE; rw [if_pos hb2]))
        rw [hb2] at HC
        clear hx hb hb2 hxa hn hnl
        go_wp2_with fail
        refine HC.out.mono ?_
        rintro e w5 ⟨rfl, hu5⟩
        have HU5 := Lib.hid (HXA.out.trans_ext hu5)
        clear hu5
        go_wp2_with fail
        go_ret
        rw [HF.out]
        exact ⟨rfl, HU5.out⟩
      case inl =>
        by_cases hs : (decide (x2 < 0) || decide (3 < x2)) = true
        · have HF : Hid (rightF nameF q = 2) := Lib.hid (right_vars H8.out (by decide) (by rw [← HE.out, HDR.out]; unfold varsE; rw [if_neg (by rw [hb2]; decide), if_pos hs]))
          rw [hb2] at HC
          have hs2 : x2 < 0 ∨ (¬ x2 < 0 ∧ 3 < x2) := by simp at hs; omega
          clear hx hb hb2 hxa hn hnl hs
          rcases hs2 with hs2 | ⟨hs2, hs3⟩
          · go_wp2_with fail
            refine HC.out.mono ?_
            rintro e w5 ⟨rfl, hu5⟩
            have HU5 := Lib.hid (HXA.out.trans_ext hu5)
            have hb5 := hu5.at HN.out (by simp)
            obtain ⟨z0, z1⟩ := cells2 hb5
            clear hu5 hb5 z0
            go_wp2_with fail
            go_ret
            rw [HF.out]
            exact ⟨rfl, HU5.out⟩
          · go_wp2_with fail
            refine HC.out.mono ?_
            rintro e w5 ⟨rfl, hu5⟩
            have HU5 := Lib.hid (HXA.out.trans_ext hu5)
            have hb5 := hu5.at HN.out (by simp)
            obtain ⟨z0, z1⟩ := cells2 hb5
            clear hu5 hb5 z0
            go_wp2_with fail
            go_ret
            rw [HF.out]
            exact ⟨rfl, HU5.out⟩
        have HS := Lib.hid hs
        have hs2 : ¬ x2 < 0 := by simp at hs; omega
        have hs3 : ¬ 3 < x2 := by simp at hs; omega
        have HNM := Lib.hid hb2
        have HXX := Lib.hid hx
        rw [hb2] at HC
        clear hx hb hb2 hxa hn hnl hs
        go_wp2_with fail
        refine HC.out.mono ?_
        rintro e w5 ⟨rfl, hu5⟩
        have HU5 := Lib.hid (HXA.out.trans_ext hu5)
        have HV5 := Lib.hid (HXV.out.trans_ext hu5)
        have HN5 := Lib.hid (hu5.at HN.out (by simp))
        have HB5 := Lib.hid (hu5.at HBx.out (by simp))
        have hb5 := HN5.out
        have hq5 := HB5.out
        obtain ⟨z0, z1⟩ := cells2 hb5
        clear hu5 hb5 hq5 y0 y1 y2 y3 y4 y5 y6 n0 n1
        go_wp2_with fail
        clear z0 z1
        go_loopw [5] (fun i wx => ∃ m : Nat, m ≤ j ∧ i = .int .i64 m ∧ Hid (∀ p y, p < m → q.free[p]? = some y → y.1 ≠ x1) ∧ Hid (Upto [] w5 wx)) (fun i _ => j - (intOf i).toNat)
        case atStart => exact ⟨0, by omega, rfl, Lib.hid (fun p y hp => by omega), Lib.hid (Upto.refl _ _)⟩
        case round =>
          obtain ⟨m, hm, rfl, HB9, HV⟩ := hrel
          have hm0 : (0 : Int) ≤ m := by omega
          have HW9 := Lib.hid (HU5.out.trans_ext HV.out)
          rcases Nat.lt_or_ge m j with hlt2 | hge2
          · have hltJ : (m : Int) < j := by omega
            have hltK : (m : Int) < q.free.length := by omega
            obtain ⟨y, hy⟩ : ∃ y, q.free[m]? = some y := ⟨_, List.getElem?_eq_getElem (by omega)⟩
            obtain ⟨g', o', eg, p0, -⟩ := HGx.out m y hy
            simp at eg
            obtain ⟨rfl, rfl⟩ := eg
            replace p0 := up_cell HW9.out p0
            have hq9 := HV.out.at HB5.out (by simp)
            have hx9 := HV.out.at HN5.out (by simp)
            have hd := (Upto.refl [] wr).drew
            have hq8 := hd.at hq9 (by simp)
            have hx8 := hd.at hx9 (by simp)
            have p1 := (hd.cell (p := ⟨g, o + m * 2, none⟩) (World.block_lt_of_cell? wr _ p0) (by simp)).trans p0
            have u0 := cell_of hq9 0
            have u1 := cell_of hq8 0
            have t0 := cell_of hx9 0
            have t1 := cell_of hx8 0
            simp only [List.getElem?_toArray, List.getElem?_cons_zero] at u0 u1 t0 t1
            have HD := Lib.hid (HV.out.trans_ext hd)
            have HDW := Lib.hid (HW9.out.trans_ext hd)
            obtain ⟨y1, y2⟩ := y
            simp only at p0 p1
            by_cases hxy : y1 = x1
            · have HF : Hid (rightF nameF q = 7) := Lib.hid (right_vars H8.out (by decide) (by
                rw [← HE.out, HDR.out]; unfold varsE
                rw [if_neg (by rw [HNM.out]; decide), if_neg HS.out, if_pos]
                rw [List.contains_iff_mem]
                exact List.mem_map.2 ⟨(y1, y2), List.mem_of_getElem? (i := m) (by rw [List.getElem?_take_of_lt hlt2]; exact hy), hxy⟩))
              subst hxy
              clear hy hq9 hx9 hq8 hx8 hd
              go_wp2_with fail
              go_region
              all_goals (
                go_wp2_with fail
                go_ret
                rw [HF.out]
                exact ⟨rfl, HDW.out⟩)
            · have HA2 : Hid (∀ p y, p < m + 1 → q.free[p]? = some y → y.1 ≠ x1) := Lib.hid (fun p y hp hyy => by
                by_cases hpm : p = m
                · subst hpm
                  rw [hy] at hyy
                  cases hyy
                  exact hxy
                · exact HB9.out p y (by omega) hyy)
              have q1 : (y1 == x1) = false := by simpa using hxy
              have q2 : (y1 != x1) = true := by rw [bne, q1]; rfl
              clear hy hq9 hx9 hq8 hx8 hd hxy
              go_wp2_with fail
              go_region
              all_goals (
                go_wp2_with fail
                go_roundw
                case rel => exact ⟨m + 1, by omega, by go_num, HA2, HD⟩
                case measure => simp [intOf]; omega)
          · have hgeJ : ¬ (m : Int) < j := by omega
            have HE2 : Hid (varsE nameF (q.free.drop (j + 1)) ((q.free.take (j + 1)).map Prod.fst) = varsE nameF q.free []) := Lib.hid (by
              rw [HTK.out, ← HE.out, HDR.out]
              conv => rhs; unfold varsE
              rw [if_neg (by rw [HNM.out]; decide), if_neg HS.out, if_neg]
              rw [List.contains_iff_mem]
              intro hmm
              obtain ⟨y, hy, e⟩ := List.mem_map.1 hmm
              obtain ⟨i, hi⟩ := List.mem_iff_getElem?.1 hy
              by_cases hij : i < j
              · rw [List.getElem?_take_of_lt hij] at hi
                exact HB9.out i y (by omega) hi e
              · rw [List.getElem?_take_eq_none (by omega)] at hi
                cases hi)
            have HV9 := Lib.hid (HV5.out.trans_ext HV.out)
            go_wp2_with fail
            go_roundw
            case rel => exact ⟨j + 1, by omega, by go_num, HE2, HV9⟩
            case measure => simp [intOf]; omega
    · have hgeI : ¬ (j : Int) < q.free.length := by omega
      have HF : Hid (rightF nameF q = checkF nameF q.body) := Lib.hid (right_body H8.out (by
        rw [← HE.out, List.drop_of_length_le (by omega)]
        rfl))
      have HC := Lib.hid (HCK.out wr HW.out)
      clear hb
      go_wp2_with fail
      refine HC.out.mono ?_
      rintro e w5 ⟨rfl, hu5⟩
      have HU5 := Lib.hid (HW.out.trans_ext hu5)
      clear hu5
      go_wp2_with fail
      go_ret
      rw [HF.out]
      exact ⟨rfl, HU5.out⟩
theorem seen_look {w : World} {b : Nat} {L : List (List UInt8)} (hm : MapL Tryz.prog 9 w b (L.map kwE)) (x : List UInt8) (hl : x.length ≤ 9223372036854775807) : (Instr.lookup 96 (.map (some b)) (.string ⟨x.toArray⟩) false).run Tryz.prog w = .ok (.bool (L.contains x)) w := by
  rcases hm.look lawS Tryz.underlying96 (zeroB w) (sb_key hl) false with ⟨h1, h2⟩ | ⟨u, h1, h2⟩
  · have : L.contains x = false := by
      cases hc : L.contains x with
      | false => rfl
      | true => exact absurd rfl (h2 (kwE x) (List.mem_map.2 ⟨x, by simpa using hc, rfl⟩))
    rw [this]
    exact h1
  · obtain ⟨y, hy, hq⟩ := List.mem_map.1 h1
    have hq1 : sb y = sb x := congrArg Prod.fst hq
    have hq2 : Value.bool true = u := congrArg Prod.snd hq
    have hyx := sb_inj hq1
    subst hyx
    have : L.contains y = true := by simpa using hy
    rw [this, hq2]
    exact h2
theorem seen_new {L : List (List UInt8)} {x : List UInt8} (h : L.contains x = false) : ∀ p ∈ L.map kwE, p.1 ≠ sb x := by
  intro p hp e
  obtain ⟨y, hy, rfl⟩ := List.mem_map.1 hp
  have hyx : y = x := sb_inj e
  subst hyx
  rw [List.contains_iff_mem.2 hy] at h
  cases h
theorem sortW_nil {s : Int} : sortW s = [] ↔ s < 0 ∨ 3 < s := by
  unfold sortW
  split; simp; omega
  split; simp; omega
  split; simp; omega
  split; simp; omega
  simp; omega
set_option maxRecDepth 100000 in
set_option maxHeartbeats 12800000 in
theorem checkq_calls (q : Qn) (v : Value) (w : World) (P : Nat → Prop) (h : QnV w P q v) (hk : sizeF q.body ≤ 10000000) (hin : inN 10000000 q.body) (hfn : ∀ y ∈ q.free, y.1.length ≤ 10000000) (hE : Env w ∧ SEnv w ∧ FEnv w) : Calls Tryz.prog 34 #[v] w fun e w' => e = .returned (.int .i64 (rightF nameF q : Nat)) ∧ Upto [] w w' := by
  obtain ⟨he, hse, hfe⟩ := hE
  obtain ⟨f1, f3, o1, a1, a2, a3, s1, n1, m1, l1, l2, l3, rfl, hv, hn⟩ := h.open
  have hu1 : Upto [] w (w.alloc (.cells #[.slice f1 q.free.length f3, .int .i64 o1, .slice a1 a2 a3, .int .i64 s1, .int .i64 n1, .int .i64 m1, .slice l1 l2 l3] 48)) := (Upto.refl [] w).alloc _
  have HU1 := Lib.hid hu1
  by_cases h8 : 8 < q.free.length
  · have h8I : (8 : Int) < q.free.length := by omega
    have HF : Hid (rightF nameF q = 8) := Lib.hid (by unfold rightF; rw [if_pos h8])
    rw [HF.out]
    clear h hv hn hk hin hfn hu1 he hse hfe
    go_enter Tryz.func34, Tryz.ntmps34
    go_wp2_with fail
    go_ret
    exact ⟨rfl, HU1.out⟩
  have h8I : ¬ (8 : Int) < q.free.length := by omega
  have H8 := Lib.hid h8
  have HG := Lib.hid (vars_slice hv)
  have HFN := Lib.hid hfn
  have HCK := Lib.hid (fun u (hu : Upto [] w u) => checkf_calls q.body _ u P (hn.ext hu) hk hin (he.ext hu) (hfe.ext hu))
  have HID := Lib.hid (fun (x : List UInt8) (hx : x.length ≤ 281474976710656) u (hu : Upto [] w u) => isIdent_calls x u (he.ext hu) hx)
  have HSN := Lib.hid (fun (s : Int) u (hu : Upto [] w u) => sname_calls s u (hse.upto hu (by simp)))
  have hL0 : (0 : Int) ≤ q.free.length := by omega
  have hL1 : (q.free.length : Int) ≤ 8 := by omega
  have hm0 := MapL.made Tryz.prog 9 (w.alloc (.cells #[.slice f1 q.free.length f3, .int .i64 o1, .slice a1 a2 a3, .int .i64 s1, .int .i64 n1, .int .i64 m1, .slice l1 l2 l3] 48))
  have hsz : (w.alloc (.cells #[.slice f1 q.free.length f3, .int .i64 o1, .slice a1 a2 a3, .int .i64 s1, .int .i64 n1, .int .i64 m1, .slice l1 l2 l3] 48)).heap.size = w.heap.size + 1 := by simp
  rw [hsz] at hm0
  have HM0 := Lib.hid hm0
  have hu2 : Upto [] w ((w.alloc (.cells #[.slice f1 q.free.length f3, .int .i64 o1, .slice a1 a2 a3, .int .i64 s1, .int .i64 n1, .int .i64 m1, .slice l1 l2 l3] 48)).alloc (.map #[] 0)) := hu1.alloc _
  have HU2 := Lib.hid hu2
  have HB1 := Lib.hid (alloc_old (new_at w (.cells #[.slice f1 q.free.length f3, .int .i64 o1, .slice a1 a2 a3, .int .i64 s1, .int .i64 n1, .int .i64 m1, .slice l1 l2 l3] 48)) (.map #[] 0))
  have hmm := @run_makeMap Tryz.prog
  clear h hv hn hk hin hfn hu1 hu2 h8 hm0 hsz he hse hfe
  go_enter Tryz.func34, Tryz.ntmps34
  go_wp2_with fail
  generalize hW2 : ((w.alloc (.cells #[.slice f1 q.free.length f3, .int .i64 o1, .slice a1 a2 a3, .int .i64 s1, .int .i64 n1, .int .i64 m1, .slice l1 l2 l3] 48)).alloc (.map #[] 0)) = W2 at *
  obtain ⟨bm, hbm, HBM⟩ : ∃ bm, bm = w.heap.size + 1 ∧ Hid (bm = w.heap.size + 1) := ⟨_, rfl, Lib.hid rfl⟩
  rw [← hbm] at HM0 ⊢
  have HBW : Hid (w.heap.size < W2.heap.size) := Lib.hid (by rw [← hW2]; simp; omega)
  clear hW2 hbm hmm
  go_loopw [14] (fun i wr => ∃ j : Nat, j ≤ q.free.length ∧ i = .int .i64 j ∧ Hid (varsE nameF (q.free.drop j) ((q.free.take j).map Prod.fst) = varsE nameF q.free []) ∧ Hid (MapL Tryz.prog 9 wr bm (((q.free.take j).map Prod.fst).map kwE)) ∧ Hid (Upto [bm] W2 wr)) (fun i _ => q.free.length - (intOf i).toNat)
  case atStart => exact ⟨0, by omega, rfl, Lib.hid (by simp), HM0, Lib.hid (Upto.refl _ _)⟩
  case round =>
    obtain ⟨j, hj, rfl, HE, HM, HU⟩ := hrel
    have hj0 : (0 : Int) ≤ j := by omega
    have hb := HU.out.at HB1.out (by have := HBM.out; simp; omega)
    obtain ⟨y0, y1, y2, y3, y4, y5, y6⟩ := cells7 hb
    have HW : Hid (Upto [] w wr) := Lib.hid (HU2.out.trans HU.out (fun k hk => by have := HBM.out; simp at hk; subst hk; right; omega))
    rcases Nat.lt_or_ge j q.free.length with hlt | hge
    · have hltI : (j : Int) < q.free.length := by omega
      obtain ⟨x, hx⟩ : ∃ x, q.free[j]? = some x := ⟨_, List.getElem?_eq_getElem hlt⟩
      have HDR : Hid (q.free.drop j = x :: q.free.drop (j + 1)) := Lib.hid (by
        obtain ⟨hi, h3⟩ := List.getElem?_eq_some_iff.1 hx
        rw [List.drop_eq_getElem_cons hi, h3])
      have HTK : Hid ((q.free.take (j + 1)).map Prod.fst = (q.free.take j).map Prod.fst ++ [x.1]) := Lib.hid (by
        rw [List.take_add_one, hx]
        simp)
      have hnl := HFN.out x (List.mem_of_getElem? hx)
      obtain ⟨g, o, rfl, c0, c1⟩ := HG.out j x hx
      replace c0 := up_cell HW.out c0
      replace c1 := up_cell HW.out c1
      obtain ⟨x1, x2⟩ := x
      simp only at c0 c1 hnl HTK
      have hxa : Upto [] wr (wr.alloc (.cells #[.string ⟨x1.toArray⟩, .int .i64 x2] 86)) := (Upto.refl [] wr).alloc _
      have HXV := Lib.hid (HU.out.trans_same (hxa.mono (by simp)))
      have HXA := Lib.hid (HW.out.trans_ext hxa)
      have HXM := Lib.hid (HM.out.upto hxa (by simp))
      have hn := new_at wr (.cells #[.string ⟨x1.toArray⟩, .int .i64 x2] 86)
      have HN := Lib.hid hn
      obtain ⟨n0, n1⟩ := cells2 hn
      have HC := Lib.hid (HID.out x1 (by omega) _ HXA.out)
      rw [ident_all] at HC
      have hbb : nameF x1 = true ∨ nameF x1 = false := by cases nameF x1 <;> simp
      rcases hbb with hb2 | hb2
      case inr =>
        have HF : Hid (rightF nameF q = 3) := Lib.hid (right_vars H8.out (by decide) (by rw [← HE.out, HDR.out]; unfold varsE; rw [if_pos hb2]))
        rw [hb2] at HC
        clear hx hb hb2 hxa hn hnl
        go_wp2_with fail
        refine HC.out.mono ?_
        rintro e w5 ⟨rfl, hu5⟩
        have HU5 := Lib.hid (HXA.out.trans_ext hu5)
        clear hu5
        go_wp2_with fail
        go_ret
        rw [HF.out]
        exact ⟨rfl, HU5.out⟩
      case inl =>
        have hKx : x1.length ≤ 9223372036854775807 := by omega
        by_cases hs : (decide (x2 < 0) || decide (3 < x2)) = true
        · have HF : Hid (rightF nameF q = 2) := Lib.hid (right_vars H8.out (by decide) (by rw [← HE.out, HDR.out]; unfold varsE; rw [if_neg (by rw [hb2]; decide), if_pos hs]))
          rw [hb2] at HC
          have HSW : Hid (sortW x2 = []) := Lib.hid (sortW_nil.2 (by simpa using hs))
          clear hx hb hb2 hxa hn hnl hs hKx
          go_wp2_with fail
          refine HC.out.mono ?_
          rintro e w5 ⟨rfl, hu5⟩
          have HU5 := Lib.hid (HXA.out.trans_ext hu5)
          have HS := Lib.hid (HSN.out x2 _ HU5.out)
          rw [HSW.out] at HS
          have hb5 := hu5.at HN.out (by simp)
          obtain ⟨z0, z1⟩ := cells2 hb5
          clear hu5 hb5 z0
          go_wp2_with fail
          refine HS.out.mono ?_
          rintro e w6 ⟨rfl, hu6⟩
          have HU6 := Lib.hid (HU5.out.trans_ext hu6)
          clear hu6
          go_wp2_with fail
          go_ret
          rw [HF.out]
          exact ⟨rfl, HU6.out⟩
        have HS9 := Lib.hid hs
        have HSW : Hid (sortW x2 ≠ []) := Lib.hid (fun e => hs (by have := sortW_nil.1 e; simpa using this))
        have HNM := Lib.hid hb2
        rw [hb2] at HC
        obtain ⟨SW, hSW⟩ : ∃ SW, SW = sortW x2 := ⟨_, rfl⟩
        have hsw0 : SW ≠ [] := by rw [hSW]; exact HSW.out
        have HSV : Hid (sortW x2 = SW) := Lib.hid hSW.symm
        have e1 : (SW == []) = false := by simpa using hsw0
        have e2 : SW.isEmpty = false := by cases SW with | nil => exact absurd rfl hsw0 | cons a r => rfl
        clear hx hb hb2 hxa hn hnl hs hSW hsw0
        go_wp2_with fail
        refine HC.out.mono ?_
        rintro e w5 ⟨rfl, hu5⟩
        have HU5 := Lib.hid (HXA.out.trans_ext hu5)
        have HV5 := Lib.hid (HXV.out.trans_same (hu5.mono (by simp)))
        have HM5 := Lib.hid (HXM.out.upto hu5 (by simp))
        have HS := Lib.hid (HSN.out x2 _ HU5.out)
        rw [HSV.out] at HS
        have HN5 := Lib.hid (hu5.at HN.out (by simp))
        have hb5 := HN5.out
        obtain ⟨z0, z1⟩ := cells2 hb5
        clear hu5 hb5
        go_wp2_with fail
        refine HS.out.mono ?_
        rintro e w6 ⟨rfl, hu6⟩
        have HU6 := Lib.hid (HU5.out.trans_ext hu6)
        have HV6 := Lib.hid (HV5.out.trans_same (hu6.mono (by simp)))
        have HM6 := Lib.hid (HM5.out.upto hu6 (by simp))
        have hb6 := hu6.at HN5.out (by simp)
        obtain ⟨u0, u1⟩ := cells2 hb6
        have hlk := seen_look HM6.out x1 hKx
        clear hu6 hb6 z0 z1
        have hbb : ((q.free.take j).map Prod.fst).contains x1 = true ∨ ((q.free.take j).map Prod.fst).contains x1 = false := by cases ((q.free.take j).map Prod.fst).contains x1 <;> simp
        rcases hbb with hb2 | hb2
        · have HF : Hid (rightF nameF q = 7) := Lib.hid (right_vars H8.out (by decide) (by
            rw [← HE.out, HDR.out]; unfold varsE
            rw [if_neg (by rw [HNM.out]; decide), if_neg HS9.out, if_pos hb2]))
          rw [hb2] at hlk
          clear hb2
          go_wp2_with fail
          go_ret
          rw [HF.out]
          exact ⟨rfl, HU6.out⟩
        · have HE2 : Hid (varsE nameF (q.free.drop (j + 1)) ((q.free.take (j + 1)).map Prod.fst) = varsE nameF q.free []) := Lib.hid (by
            rw [HTK.out, ← HE.out, HDR.out]
            conv => rhs; unfold varsE
            rw [if_neg (by rw [HNM.out]; decide), if_neg HS9.out, if_neg (by rw [hb2]; decide)])
          have HNW := Lib.hid (seen_new hb2)
          have HKX := Lib.hid (sb_key hKx)
          have HT2 : Hid (((q.free.take (j + 1)).map Prod.fst).map kwE = ((q.free.take j).map Prod.fst).map kwE ++ [(sb x1, .bool true)]) := Lib.hid (by rw [HTK.out, List.map_append]; rfl)
          rw [hb2] at hlk
          clear hb2
          go_wp2_with (refine wpList_insert _ rfl _ _ _ 96 rfl 9 4 lawS Tryz.underlying96 bm _ rfl HM6.out (sb x1) (.bool true) _ rfl rfl HKX.out HNW.out ?_; intro w7 hm7 hg7)
          have HM7 := Lib.hid hm7
          have HV7 := Lib.hid (HV6.out.grown hg7 (fun k hk => by cases hk; simp))
          clear hm7 hg7 hlk
          go_wp2_with fail
          go_roundw
          case rel => exact ⟨j + 1, by omega, by go_num, HE2, by rw [HT2.out]; exact HM7, HV7⟩
          case measure => simp [intOf]; omega
    · have hgeI : ¬ (j : Int) < q.free.length := by omega
      have HF : Hid (rightF nameF q = checkF nameF q.body) := Lib.hid (right_body H8.out (by
        rw [← HE.out, List.drop_of_length_le (by omega)]
        rfl))
      have HC := Lib.hid (HCK.out wr HW.out)
      clear hb
      go_wp2_with fail
      refine HC.out.mono ?_
      rintro e w5 ⟨rfl, hu5⟩
      have HU5 := Lib.hid (HW.out.trans_ext hu5)
      clear hu5
      go_wp2_with fail
      go_ret
      rw [HF.out]
      exact ⟨rfl, HU5.out⟩
theorem quest_read {q : Qn} (hv : okV q.free) (hb : okF q.body) (hd : depthF q.body ≤ 129) (hg : greatF q.body = 0) (hl : (freeS q.free ++ fullG q.body).length ≤ 65536) : readF queryP (freeS q.free ++ fullG q.body) = ⟨q, 0, 0, 0⟩ := by
  have hvv : ∀ v ∈ q.free, 0 ≤ v.2 ∧ v.2 < 4 := fun v hm => (hv.2.1 v hm).2
  rw [quest_text hvv] at hl ⊢
  obtain ⟨k1, k2⟩ := quest_ok hv hb
  obtain ⟨ts, k3, k4⟩ := lex_text k1 k2 hl
  unfold readF
  rw [k3]
  simp only
  rw [quest_parse hv hb hd k4]
  simp only
  exact quest_end k4 hg
set_option maxRecDepth 100000 in
set_option maxHeartbeats 12800000 in
theorem formulaParenthesized_walk (q : Qn) (v : Value) (w : World) (hq : ArgQ w q v) (hE : Env w ∧ SEnv w ∧ FEnv w) : Calls Tryz.prog 7 #[v] w fun e w' => e = .returned (.bool true) ∧ Upto [] w w' := by
  obtain ⟨he, hse, hfe⟩ := hE
  obtain ⟨hval, hsz, hin, hbg⟩ : QnV w AnyB q v ∧ sizeF q.body ≤ 10000000 ∧ inN 10000000 q.body ∧ bigN q.body := ⟨hq.val, by have := hq.sz; omega, inN.mono (by decide) _ hq.ins, inN.big (by decide) _ hq.ins⟩
  have hfr : q.free.length ≤ 10000000 := by have := hq.fr; omega
  have hfn : ∀ y ∈ q.free, y.1.length ≤ 10000000 := fun y hy => by have := hq.nm y hy; omega
  have HQV := Lib.hid hval
  obtain ⟨f1, f3, o1, a1, a2, a3, s1, n1, m1, l1, l2, l3, rfl, hv, hn⟩ := hval.open
  have HK : Hid (∀ u, Upto [] w u → Calls Tryz.prog 16 #[] u fun e w' => e = .returned (.bool true) ∧ Upto [] u w') := Lib.hid (fun u hu => fknown_calls u (he.ext hu) (hse.upto hu (by simp)))
  have HSM := Lib.hid (fun u (hu : Upto [] w u) => small_calls q.body _ u AnyB (hn.ext hu) hsz hbg)
  have HRT := Lib.hid (fun u (hu : Upto [] w u) => right_calls q _ u AnyB (QnV.keep (Keep.upto hu (by simp)) hval) hsz hin hfn)
  have HEE := Lib.hid (fun u (hu : Upto [] w u) => (⟨he.ext hu, hse.upto hu (by simp), hfe.ext hu⟩ : Env u ∧ SEnv u ∧ FEnv u))
  have HSZ := Lib.hid (And.intro hsz (And.intro hin (And.intro hfn (And.intro hbg hfr))))
  have HVN := Lib.hid (And.intro hv hn)
  have hu1 : Upto [] w (w.alloc (.cells #[.slice f1 q.free.length f3, .int .i64 o1, .slice a1 a2 a3, .int .i64 s1, .int .i64 n1, .int .i64 m1, .slice l1 l2 l3] 45)) := (Upto.refl [] w).alloc _
  have HU1 := Lib.hid hu1
  have hb1 := new_at w (.cells #[.slice f1 q.free.length f3, .int .i64 o1, .slice a1 a2 a3, .int .i64 s1, .int .i64 n1, .int .i64 m1, .slice l1 l2 l3] 45)
  have HB1 := Lib.hid hb1
  have hbb : smallF q.body = true ∨ smallF q.body = false := by cases smallF q.body <;> simp
  rcases hbb with hs | hs
  case inr =>
    have HS2 := Lib.hid (fun u (hu : Upto [] w u) => by have := HSM.out u hu; rwa [hs] at this)
    clear hq hval hsz hin hbg hfr hfn hv hn hu1 hb1 he hse hfe hs
    go_enter Tryz.func7, Tryz.ntmps7
    go_wp2_with fail
    refine (HK.out _ HU1.out).mono ?_
    rintro e w2 ⟨rfl, hu2⟩
    have HU2 := Lib.hid (HU1.out.trans_ext hu2)
    have hb2 := hu2.at HB1.out (by simp)
    obtain ⟨y0, y1, y2, y3, y4, y5, y6⟩ := cells7 hb2
    clear hu2 hb2
    go_wp2_with fail
    refine (HS2.out _ HU2.out).mono ?_
    rintro e w3 ⟨rfl, hu3⟩
    have HU3 := Lib.hid (HU2.out.trans_ext hu3)
    clear hu3
    go_wp2_with fail
    refine (HK.out _ HU3.out).mono ?_
    rintro e w4 ⟨rfl, hu4⟩
    have HU4 := Lib.hid (HU3.out.trans_ext hu4)
    clear hu4
    go_wp2_with fail
    go_ret
    exact ⟨rfl, HU4.out⟩
  have HSF := Lib.hid hs
  have HS2 := Lib.hid (fun u (hu : Upto [] w u) => by have := HSM.out u hu; rwa [hs] at this)
  by_cases hr : rightF nameF q = 0
  case neg =>
    obtain ⟨R, hR⟩ : ∃ R, R = rightF nameF q := ⟨_, rfl⟩
    have HR2 := Lib.hid (fun u (hu : Upto [] w u) => by have := HRT.out u hu; rwa [← hR] at this)
    have hR0 : R ≠ 0 := by rw [hR]; exact hr
    have e1 : ((R : Int) == 0) = false := by rw [beq_eq_false_iff_ne]; omega
    have e2 : ((R : Int) != 0) = true := by rw [bne, e1]; rfl
    clear hq hval hsz hin hbg hfr hfn hv hn hu1 hb1 he hse hfe hs hr hR hR0
    go_enter Tryz.func7, Tryz.ntmps7
    go_wp2_with fail
    refine (HK.out _ HU1.out).mono ?_
    rintro e w2 ⟨rfl, hu2⟩
    have HU2 := Lib.hid (HU1.out.trans_ext hu2)
    have hb2 := hu2.at HB1.out (by simp)
    have HB2 := Lib.hid hb2
    obtain ⟨y0, y1, y2, y3, y4, y5, y6⟩ := cells7 hb2
    clear hu2 hb2
    go_wp2_with fail
    refine (HS2.out _ HU2.out).mono ?_
    rintro e w3 ⟨rfl, hu3⟩
    have HU3 := Lib.hid (HU2.out.trans_ext hu3)
    have hb3 := hu3.at HB2.out (by simp)
    obtain ⟨z0, z1, z2, z3, z4, z5, z6⟩ := cells7 hb3
    clear hu3 hb3 y0 y1 y2 y3 y4 y5 y6
    go_wp2_with fail
    refine (HR2.out _ HU3.out).mono ?_
    rintro e w4 ⟨rfl, hu4⟩
    have HU4 := Lib.hid (HU3.out.trans_ext hu4)
    clear hu4
    go_wp2_with fail
    refine (HK.out _ HU4.out).mono ?_
    rintro e w5 ⟨rfl, hu5⟩
    have HU5 := Lib.hid (HU4.out.trans_ext hu5)
    clear hu5
    go_wp2_with fail
    go_ret
    exact ⟨rfl, HU5.out⟩
  have HRR := Lib.hid hr
  have HR2 := Lib.hid (fun u (hu : Upto [] w u) => by have := HRT.out u hu; rwa [hr] at this)
  obtain ⟨hok1, hok2, hgr⟩ := right_ok (fun x h => ident_real h) hr
  have hsm : sizeF q.body ≤ 300 ∧ depthF q.body ≤ 60 := by
    unfold smallF at hs
    simp only [Bool.and_eq_true, decide_eq_true_eq] at hs
    exact hs.1
  have HOK := Lib.hid (And.intro hok1 (And.intro hok2 (And.intro hgr hsm)))
  have hlf : (fullG q.body).length ≤ 150000 := by have := full_len _ q.body (Nat.le_refl _) hok2; omega
  have hlr : (freeS q.free).length ≤ 2000000000 := by
    have h1 := frP_len (M := 10000000) q.free hfn
    have h2 := hok1.1
    have h3 : q.free.length * (10000000 + 20) ≤ 8 * (10000000 + 20) := Nat.mul_le_mul_right _ h2
    unfold freeS
    split
    · simp
    · simp only [List.length_append, List.length_cons, List.length_nil]; omega
  have HFR := Lib.hid (fun u (hu : Upto [] w u) => free_text_calls q.free _ u AnyB (SlP.ext hv hu) (by have := hok1.1; omega) hfn)
  have HFU := Lib.hid (fun u (hu : Upto [] w u) => full_all _ q.body (Nat.le_refl _) hok2 (by omega) w AnyB _ u hu (hn.ext hu))
  obtain ⟨SA, hSA, HSA⟩ : ∃ SA, SA = freeS q.free ∧ Hid (SA = freeS q.free) := ⟨_, rfl, Lib.hid rfl⟩
  obtain ⟨SB, hSB, HSB⟩ : ∃ SB, SB = fullG q.body ∧ Hid (SB = fullG q.body) := ⟨_, rfl, Lib.hid rfl⟩
  rw [← hSA] at HFR hlr
  rw [← hSB] at HFU hlf
  have sm0 : SA.length + SB.length ≤ 9223372036854775807 := by omega
  clear hq hval hsz hin hbg hfr hfn hv hn hu1 hb1 he hse hfe hs hr hok1 hok2 hgr hsm hSA hSB
  go_enter Tryz.func7, Tryz.ntmps7
  go_wp2_with fail
  refine (HK.out _ HU1.out).mono ?_
  rintro e w2 ⟨rfl, hu2⟩
  have HU2 := Lib.hid (HU1.out.trans_ext hu2)
  have hb2 := hu2.at HB1.out (by simp)
  have HB2 := Lib.hid hb2
  obtain ⟨y0, y1, y2, y3, y4, y5, y6⟩ := cells7 hb2
  clear hu2 hb2
  go_wp2_with fail
  refine (HS2.out _ HU2.out).mono ?_
  rintro e w3 ⟨rfl, hu3⟩
  have HU3 := Lib.hid (HU2.out.trans_ext hu3)
  have hb3 := hu3.at HB2.out (by simp)
  have HB3 := Lib.hid hb3
  obtain ⟨z0, z1, z2, z3, z4, z5, z6⟩ := cells7 hb3
  clear hu3 hb3 y0 y1 y2 y3 y4 y5 y6
  go_wp2_with fail
  refine (HR2.out _ HU3.out).mono ?_
  rintro e w4 ⟨rfl, hu4⟩
  have HU4 := Lib.hid (HU3.out.trans_ext hu4)
  have hb4 := hu4.at HB3.out (by simp)
  have HB4 := Lib.hid hb4
  obtain ⟨u0, u1, u2, u3, u4, u5, u6⟩ := cells7 hb4
  clear hu4 hb4 z0 z1 z2 z3 z4 z5 z6
  go_wp2_with fail
  have eu0 := fun u : Ext w4 => u.cell u0
  have eu1 := fun u : Ext w4 => u.cell u1
  have eu2 := fun u : Ext w4 => u.cell u2
  have eu3 := fun u : Ext w4 => u.cell u3
  have eu4 := fun u : Ext w4 => u.cell u4
  have eu5 := fun u : Ext w4 => u.cell u5
  have eu6 := fun u : Ext w4 => u.cell u6
  clear u0 u1 u2 u3 u4 u5 u6
  refine wp_region_seg_all [2, 5] [] [0, 1, 2, 3, 4, 5, 6, 7] (by kernel_rfl) (by kernel_rfl) ?_
  iterate 2 (refine seg_plain rfl rfl rfl rfl rfl ?_; intro K' hK'; go_big_quiet_op; go_big_quiet_on)
  refine seg_call rfl rfl rfl rfl (fun w => by go_simp) (fun w' hu hd => HFR.out _ (HU4.out.trans_ext hu)) ?_
  simp only [Act.put, List.setIfInBounds_toArray, List.set_cons_zero, List.set_cons_succ]
  iterate 2 (refine seg_plain rfl rfl rfl rfl rfl ?_; intro K' hK'; go_big_quiet_op; go_big_quiet_on)
  refine seg_call rfl rfl rfl rfl (fun w => by go_simp) (fun w' hu hd => HFU.out _ (HU4.out.trans_ext hu)) ?_
  simp only [Act.put, List.setIfInBounds_toArray, List.set_cons_zero, List.set_cons_succ]
  iterate 2 (refine seg_plain rfl rfl rfl rfl rfl ?_; intro K' hK'; go_big_quiet_op; go_big_quiet_on)
  intro w5 hg
  have HU5 := Lib.hid (HU4.out.trans_ext hg.up)
  have HB5 := Lib.hid (hg.up.at HB4.out (by simp))
  clear hg eu0 eu1 eu2 eu3 eu4 eu5 eu6
  by_cases h6 : 60000 < SA.length + SB.length
  · have h6I : (60000 : Int) < SA.length + SB.length := by omega
    clear h6
    go_wp2_with fail
    go_ret
    exact ⟨rfl, HU5.out⟩
  have h6I : ¬ (60000 : Int) < SA.length + SB.length := by omega
  have HPQ : Hid (∀ u, Upto [] w u → Calls Tryz.prog 39 #[.string ⟨(SA ++ SB).toArray⟩] u (PRPost u ⟨q, 0, 0, 0⟩)) := Lib.hid (fun u hu => by
    obtain ⟨k1, k2, k3, k4, k5⟩ := HOK.out
    have h := parse_calls (SA ++ SB) (by rw [List.length_append]; omega) u (HEE.out u hu).1 (HEE.out u hu).2.1
    have hr := quest_read k1 k2 (by omega) k3 (by rw [List.length_append, ← HSA.out, ← HSB.out]; omega)
    rw [← HSA.out, ← HSB.out] at hr
    rw [hr] at h
    exact h)
  clear h6
  go_wp2_with fail
  rw [ByteArray.mk_append_mk]
  refine (HPQ.out _ HU5.out).mono ?_
  rintro e w6 ⟨v6, rfl, hq6, hu6⟩
  simp only at hq6
  obtain ⟨x1, x3, xo, xa1, xa2, xa3, xs, xn, xm, xl1, xl2, xl3, rfl, hxv, hxn⟩ := hq6.open
  obtain ⟨x2, hx2⟩ : ∃ x2, q.free.length = x2 := ⟨_, rfl⟩
  have HQ6 := Lib.hid hq6
  rw [hx2] at HQ6 ⊢
  have HU6 := Lib.hid (HU5.out.trans_ext hu6)
  have HB6 := Lib.hid (hu6.at HB5.out (by simp))
  clear hxv hxn hq6 hu6
  go_wp2_with fail
  generalize hWB : ((w6.alloc (.cells #[.slice x1 x2 x3, .int .i64 xo, .slice xa1 xa2 xa3, .int .i64 xs, .int .i64 xn, .int .i64 xm, .slice xl1 xl2 xl3] 48)).alloc (.cells #[.int .i64 0, .int .i64 0] 36)) = WB
  have hub : Upto [] w6 WB := by rw [← hWB]; exact ((Upto.refl [] w6).alloc _).alloc _
  have hx : WB.heap[w6.heap.size]? = some (.cells #[.slice x1 x2 x3, .int .i64 xo, .slice xa1 xa2 xa3, .int .i64 xs, .int .i64 xn, .int .i64 xm, .slice xl1 xl2 xl3] 48 (0, 0)) := by rw [← hWB]; exact alloc_old (new_at w6 _) _
  have hp : WB.heap[w6.heap.size + 1]? = some (.cells #[.int .i64 0, .int .i64 0] 36 (0, 0)) := by rw [← hWB]; exact new_at1 w6 _ _
  have hf := hub.at HB6.out (by simp)
  have HUB := Lib.hid (HU6.out.trans_ext hub)
  have hqb := QnV.keep (Keep.upto hub (by simp)) HQ6.out
  have HQB := Lib.hid hqb
  clear hWB
  generalize w6.heap.size = G at *
  have HBQ := Lib.hid (fun u (hu : Upto [] WB u) => backq_calls q _ u (New w5) (QnV.keep (Keep.upto hu (by simp)) hqb) HSZ.out.1 HSZ.out.2.2.2.1 HSZ.out.2.2.2.2)
  have HAL := Lib.hid (fun u v (hu : Upto [] WB u) (hv : QnV u AnyB q v) => by
    have h := alike_calls q q AnyB AnyB v _ u HSZ.out.2.2.2.2 (huge_of _ HSZ.out.1 HSZ.out.2.2.2.1) HSZ.out.2.2.2.2 hv (QnV.keep (Keep.upto (HUB.out.trans_ext hu) (by simp)) HQV.out)
    rwa [(alikeF_eq q q).2 rfl] at h)
  have HCX := Lib.hid (fun u (hu : Upto [] WB u) => by
    have h := checkq_calls q _ u (New w5) (QnV.keep (Keep.upto hu (by simp)) hqb) HSZ.out.1 HSZ.out.2.1 HSZ.out.2.2.1 (HEE.out u (HUB.out.trans_ext hu))
    rwa [HRR.out] at h)
  have ex0 : ∀ u : Ext WB, u.w.cell? ⟨G, 0, none⟩ = some (.slice x1 x2 x3) := fun u => u.cell (cell_of hx 0)
  have ex1 : ∀ u : Ext WB, u.w.cell? ⟨G, 1, none⟩ = some (.int .i64 xo) := fun u => u.cell (cell_of hx 1)
  have ex2 : ∀ u : Ext WB, u.w.cell? ⟨G, 2, none⟩ = some (.slice xa1 xa2 xa3) := fun u => u.cell (cell_of hx 2)
  have ex3 : ∀ u : Ext WB, u.w.cell? ⟨G, 3, none⟩ = some (.int .i64 xs) := fun u => u.cell (cell_of hx 3)
  have ex4 : ∀ u : Ext WB, u.w.cell? ⟨G, 4, none⟩ = some (.int .i64 xn) := fun u => u.cell (cell_of hx 4)
  have ex5 : ∀ u : Ext WB, u.w.cell? ⟨G, 5, none⟩ = some (.int .i64 xm) := fun u => u.cell (cell_of hx 5)
  have ex6 : ∀ u : Ext WB, u.w.cell? ⟨G, 6, none⟩ = some (.slice xl1 xl2 xl3) := fun u => u.cell (cell_of hx 6)
  have ep0 : ∀ u : Ext WB, u.w.cell? ⟨G + 1, 0, none⟩ = some (.int .i64 0) := fun u => u.cell (cell_of hp 0)
  have ep1 : ∀ u : Ext WB, u.w.cell? ⟨G + 1, 1, none⟩ = some (.int .i64 0) := fun u => u.cell (cell_of hp 1)
  have ef0 : ∀ u : Ext WB, u.w.cell? ⟨w.heap.size, 0, none⟩ = some (.slice f1 q.free.length f3) := fun u => u.cell (cell_of hf 0)
  have ef1 : ∀ u : Ext WB, u.w.cell? ⟨w.heap.size, 1, none⟩ = some (.int .i64 o1) := fun u => u.cell (cell_of hf 1)
  have ef2 : ∀ u : Ext WB, u.w.cell? ⟨w.heap.size, 2, none⟩ = some (.slice a1 a2 a3) := fun u => u.cell (cell_of hf 2)
  have ef3 : ∀ u : Ext WB, u.w.cell? ⟨w.heap.size, 3, none⟩ = some (.int .i64 s1) := fun u => u.cell (cell_of hf 3)
  have ef4 : ∀ u : Ext WB, u.w.cell? ⟨w.heap.size, 4, none⟩ = some (.int .i64 n1) := fun u => u.cell (cell_of hf 4)
  have ef5 : ∀ u : Ext WB, u.w.cell? ⟨w.heap.size, 5, none⟩ = some (.int .i64 m1) := fun u => u.cell (cell_of hf 5)
  have ef6 : ∀ u : Ext WB, u.w.cell? ⟨w.heap.size, 6, none⟩ = some (.slice l1 l2 l3) := fun u => u.cell (cell_of hf 6)
  clear hx hp hf hub hqb hx2
  refine wp_region_seg_all [9, 11, 15] [] [0, 1, 2, 3, 4, 5, 6, 7, 8, 9, 10, 11, 12, 13, 14, 15, 16, 17, 18] (by kernel_rfl) (by kernel_rfl) ?_
  iterate 9 (refine seg_plain rfl rfl rfl rfl rfl ?_; intro K' hK'; go_big_quiet_op; go_big_quiet_on)
  refine seg_callO (Y := (Option Addr × Nat × Nat) × (Int × Option Addr × Nat × Nat) × Int × Int × Int × Option Addr × Nat × Nat) (fun y => .agg #[.slice y.1.1 y.1.2.1 y.1.2.2, .int .i64 y.2.1.1, .slice y.2.1.2.1 y.2.1.2.2.1 y.2.1.2.2.2, .int .i64 y.2.2.1, .int .i64 y.2.2.2.1, .int .i64 y.2.2.2.2.1, .slice y.2.2.2.2.2.1 y.2.2.2.2.2.2.1 y.2.2.2.2.2.2.2]) (fun y u => QnV u AnyB q (.agg #[.slice y.1.1 y.1.2.1 y.1.2.2, .int .i64 y.2.1.1, .slice y.2.1.2.1 y.2.1.2.2.1 y.2.1.2.2.2, .int .i64 y.2.2.1, .int .i64 y.2.2.2.1, .int .i64 y.2.2.2.2.1, .slice y.2.2.2.2.2.1 y.2.2.2.2.2.2.1 y.2.2.2.2.2.2.2])) (fun _ => []) rfl rfl rfl rfl (fun _ _ _ h hu => QnV.keep (Keep.upto hu (by simp)) h) (fun _ => List.nodup_nil) (fun w => by go_simp) (fun w' hu hd => (HBQ.out w' hu).mono fun e w2 ⟨v, h1, h2, h3⟩ => by
      obtain ⟨r1, r2, r3, ro, ra1, ra2, ra3, rs, rn, rm, rl1, rl2, rl3, rfl⟩ := h2.seven
      exact ⟨((r1, r2, r3), (ro, ra1, ra2, ra3), rs, rn, rm, rl1, rl2, rl3), h1, h3, QnV.keep (Keep.mono (fun _ _ _ => trivial)) h2, fun b hb => by cases hb⟩) ?_
  rintro ⟨⟨r1, r2, r3⟩, ⟨ro, ra1, ra2, ra3⟩, rs, rn, rm, rl1, rl2, rl3⟩
  simp only [Act.put, List.setIfInBounds_toArray, List.set_cons_zero, List.set_cons_succ]
  (refine seg_plain rfl rfl rfl rfl rfl ?_; intro K' hK'; go_big_quiet_op; go_big_quiet_on)
  refine seg_call rfl rfl rfl rfl (fun w => by go_simp) (fun w' hu hd => HAL.out w' _ hu (hd.1 (by kernel_rfl))) ?_
  simp only [Act.put, List.setIfInBounds_toArray, List.set_cons_zero, List.set_cons_succ]
  iterate 3 (refine seg_plain rfl rfl rfl rfl rfl ?_; intro K' hK'; go_big_quiet_op; go_big_quiet_on)
  refine seg_call rfl rfl rfl rfl (fun w => by go_simp) (fun w' hu hd => HCX.out w' hu) ?_
  simp only [Act.put, List.setIfInBounds_toArray, List.set_cons_zero, List.set_cons_succ]
  iterate 3 (refine seg_plain rfl rfl rfl rfl rfl ?_; intro K' hK'; go_big_quiet_op; go_big_quiet_on)
  intro w9 hg
  have HW9 := Lib.hid (HUB.out.trans_ext hg.up)
  clear hg
  go_wp2_with fail
  go_ret
  exact ⟨rfl, HW9.out⟩
end Go.Proofs.YtkhbpebpljdifaaGreatDoor
