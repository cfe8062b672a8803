/- Texts merged, in build order: Oq, F7a, F7b, F7c, F7d, F7g, F8a, F8b, F8c, F8d, F8e, F8g, Foa, Fob, Fha, Fhb, Foc, Fog, Fhc, Fhd, Fhg, Z3, Z4, Z5, Op3. -/
import Derived.Test.YtkhbpebpljdifaaGreatDoorMFonD
import Derived.Laws.IdiomArrays
namespace Go.Proofs.YtkhbpebpljdifaaGreatDoor
open Go.RowKit Go.PL Go.Maps
open Go.ChangeShapes Go.WideShapes Go.ChangeAt Go.Deep
section
variable {H : Type} {enc : TypeId × Value → H} {W : World}
structure ArgN (W : World) (n : Nd) (v : Value) : Prop where
  val : NdV W AnyB n v
  sz : sizeF n ≤ 1048576
  ins : inN 1048576 n
theorem open_formula {v : Value} {d : DataW H} {ps : List MemPlace} (hv : ∃ cs, v = .agg cs ∧ cs.size = Tryz.prog.cellsOf 25) (h : DataW.Trod enc Tryz.prog W 0 (fun _ => true) true 25 v d ps) (hM : Rows.uptoBulk d ≤ 1048576) : ∃ n, ArgN W n v := by
  obtain ⟨cs, rfl, hcs⟩ := hv
  obtain ⟨fuel, h⟩ := h
  obtain ⟨cs⟩ := cs
  rw [show Tryz.prog.cellsOf 25 = 6 by kernel_rfl] at hcs
  simp only [Value.cells] at h
  obtain ⟨nd, k1, k2, k3⟩ := open_node 1048576 _ _ _ (by simpa using hcs) h hM
  have k2' : sizeF nd ≤ Rows.uptoBulk d := k2
  exact ⟨nd, k1, by omega, k3⟩
end
end Go.Proofs.YtkhbpebpljdifaaGreatDoor
namespace Go.Proofs.YtkhbpebpljdifaaGreatDoor
open Go.RowKit Go.PL Go.Maps
set_option maxRecDepth 100000 in
set_option maxHeartbeats 12800000 in
theorem form_7a (k : Nat) (so nn mm : Int) (nms : List (List UInt8)) (l : List Nd) (hk : sizesF l ≤ k) (hin : inN 10000000 (.mk 7 nms so nn mm l)) (hk7 : k + 1 ≤ 10000000) (v : Value) (w : World) (P : Nat → Prop) (h : NdV w P (.mk 7 nms so nn mm l) v) (hk0 : ¬ (7 : Int) < 0) (hk1 : ¬ (17 : Int) < 7) (hsb : shapeBad 7 nms.length l.length = false) (hall : nms.all nameF = true) (hz : mm ≠ 0) : Calls Tryz.prog 53 #[v] w fun e w' => e = .returned (.int .i64 ((3 : Nat) : Int)) ∧ Upto [] w w' := by
  obtain ⟨a1, c1, a2, c2, rfl, hs, hg⟩ := h.open
  unfold inN at hin
  have HG := Lib.hid hg
  obtain ⟨a1', c1', ev, hnm⟩ := hs.get
  obtain ⟨rfl, rfl⟩ : a1 = a1' ∧ c1 = c1' := by simpa using ev
  have HN : Hid (∀ i x, nms[i]? = some x → ∃ g o, a1 = some ⟨g, o, none⟩ ∧ w.cell? ⟨g, o + i, none⟩ = some (.string ⟨x.toArray⟩)) := Lib.hid (fun i x hi => hnm i _ (by rw [List.getElem?_map, hi]; rfl))
  have HSZ := Lib.hid hk
  have HIN := Lib.hid hin
  have HAL := Lib.hid hall
  have hu1 : Upto [] w (w.alloc (.cells #[.int .i64 7, .slice a1 nms.length c1, .int .i64 so, .int .i64 nn, .int .i64 mm, .slice a2 l.length c2] 25)) := (Upto.refl [] w).alloc _
  have HB1 := Lib.hid (new_at w (.cells #[.int .i64 7, .slice a1 nms.length c1, .int .i64 so, .int .i64 nn, .int .i64 mm, .slice a2 l.length c2] 25))
  have HU1 := Lib.hid hu1
  have hll := hin.2.2.1
  have hnl := hin.1
  have hL0 : (0 : Int) ≤ l.length := by omega
  have hL1 : (l.length : Int) ≤ 10000000 := by omega
  have hN0 : (0 : Int) ≤ nms.length := by omega
  have hN1 : (nms.length : Int) ≤ 10000000 := by omega
  have HH := Lib.hid (has_calls 7)
  obtain ⟨a, b, c, habc, ha17, hb17, hc17⟩ : ∃ a b c : Nat, hasF 7 = (a, b, c) ∧ a ≤ 17 ∧ b ≤ 17 ∧ c ≤ 17 := by
    unfold hasF
    repeat' split
    all_goals exact ⟨_, _, _, rfl, by decide, by decide, by decide⟩
  rw [habc] at HH
  simp only at HH
  obtain ⟨hs0, hs1, hs2⟩ : ¬ nms.length < a ∧ ¬ b < nms.length ∧ l.length = c := by
    unfold shapeBad at hsb
    rw [habc] at hsb
    simp at hsb
    omega
  have ha0 : (0 : Int) ≤ a := by omega
  have hb0 : (0 : Int) ≤ b := by omega
  have hc0 : (0 : Int) ≤ c := by omega
  have ha1 : (a : Int) ≤ 17 := by omega
  have hb1 : (b : Int) ≤ 17 := by omega
  have hc1 : (c : Int) ≤ 17 := by omega
  have q0 : ¬ (nms.length : Int) < a := by omega
  have q1 : ¬ (b : Int) < nms.length := by omega
  have q2 : ((l.length : Int) != (c : Int)) = false := by rw [hs2]; simp
  clear habc hsb hall h hs hg hk hu1 hnm ev hin hs2
  go_enter Tryz.func53, Tryz.ntmps53
  go_wp2_with fail
  refine (HH.out (w.alloc (.cells #[.int .i64 7, .slice a1 nms.length c1, .int .i64 so, .int .i64 nn, .int .i64 mm, .slice a2 l.length c2] 25))).mono ?_
  rintro e w3 ⟨rfl, hu3⟩
  have HU3 := Lib.hid (HU1.out.trans_ext hu3)
  have hb3 := hu3.at HB1.out (by simp)
  have HB3 := Lib.hid hb3
  obtain ⟨y0, y1, y2, y3, y4, y5⟩ := cells6 hb3
  clear hu3 hb3
  go_wp2_with fail
  go_loopw [6] (fun i wr => ∃ j : Nat, j ≤ nms.length ∧ i = .int .i64 j ∧ Hid (Upto [] w3 wr)) (fun i _ => nms.length - (intOf i).toNat)
  case atStart => exact ⟨0, by omega, rfl, Lib.hid (Upto.refl _ _)⟩
  case round =>
    clear y0 y1 y2 y3 y4 y5
    obtain ⟨j, hj, rfl, HU⟩ := hrel
    have hj0 : (0 : Int) ≤ j := by omega
    have hb := HU.out.at HB3.out (by simp)
    have HB := Lib.hid hb
    obtain ⟨y0, y1, y2, y3, y4, y5⟩ := cells6 hb
    have HW := Lib.hid (HU3.out.trans_ext HU.out)
    rcases Nat.lt_or_ge j nms.length with hlt | hge
    · have hltI : (j : Int) < nms.length := by omega
      obtain ⟨x, hx⟩ : ∃ x, nms[j]? = some x := ⟨_, List.getElem?_eq_getElem hlt⟩
      have hxl := HIN.out.2.1 x (List.mem_of_getElem? hx)
      obtain ⟨g, o, rfl, c0⟩ := HN.out j x hx
      replace c0 := up_cell HW.out c0
      have HC := Lib.hid (isName_calls x wr (by omega))
      have hb2 : nameF x = true := List.all_eq_true.1 HAL.out x (List.mem_of_getElem? hx)
      rw [hb2] at HC
      clear hx hb hb2
      go_wp2_with fail
      refine HC.out.mono ?_
      rintro e w5 ⟨rfl, hu5⟩
      have HU5 := Lib.hid (HU.out.trans_ext hu5)
      clear hu5
      go_wp2_with fail
      go_roundw
      case rel => first | exact ⟨j + 1, by omega, by go_num, HU5⟩ | exact ⟨_, _, _, _, _, _, _, _, _, _, _, _, _, _, _, _, ⟨j + 1, by omega, by go_num, HU5⟩, rfl⟩
      case measure => simp [intOf]; omega
    · have hgeI : ¬ (j : Int) < nms.length := by omega
      clear hb q0 q1 q2 hs0 hs1 ha0 hb0 hc0 ha1 hb1 hc1 HH HAL HN
      have emm0 : (mm == (0 : Int)) = false := by rw [beq_eq_false_iff_ne]; exact hz
      have fmm0 : (mm != (0 : Int)) = true := by rw [bne, emm0]; rfl
      go_wp2_with fail
      go_ret
      exact ⟨rfl, HW.out⟩
set_option maxRecDepth 100000 in
set_option maxHeartbeats 12800000 in
theorem form_7b (k : Nat) (so nn : Int) (nms : List (List UInt8)) (l : List Nd) (hk : sizesF l ≤ k) (hin : inN 10000000 (.mk 7 nms so nn 0 l)) (hk7 : k + 1 ≤ 10000000) (v : Value) (w : World) (P : Nat → Prop) (h : NdV w P (.mk 7 nms so nn 0 l) v) (hk0 : ¬ (7 : Int) < 0) (hk1 : ¬ (17 : Int) < 7) (hsb : shapeBad 7 nms.length l.length = false) (hall : nms.all nameF = true) (hz : so ≠ 0) : Calls Tryz.prog 53 #[v] w fun e w' => e = .returned (.int .i64 ((3 : Nat) : Int)) ∧ Upto [] w w' := by
  obtain ⟨a1, c1, a2, c2, rfl, hs, hg⟩ := h.open
  unfold inN at hin
  have HG := Lib.hid hg
  obtain ⟨a1', c1', ev, hnm⟩ := hs.get
  obtain ⟨rfl, rfl⟩ : a1 = a1' ∧ c1 = c1' := by simpa using ev
  have HN : Hid (∀ i x, nms[i]? = some x → ∃ g o, a1 = some ⟨g, o, none⟩ ∧ w.cell? ⟨g, o + i, none⟩ = some (.string ⟨x.toArray⟩)) := Lib.hid (fun i x hi => hnm i _ (by rw [List.getElem?_map, hi]; rfl))
  have HSZ := Lib.hid hk
  have HIN := Lib.hid hin
  have HAL := Lib.hid hall
  have hu1 : Upto [] w (w.alloc (.cells #[.int .i64 7, .slice a1 nms.length c1, .int .i64 so, .int .i64 nn, .int .i64 0, .slice a2 l.length c2] 25)) := (Upto.refl [] w).alloc _
  have HB1 := Lib.hid (new_at w (.cells #[.int .i64 7, .slice a1 nms.length c1, .int .i64 so, .int .i64 nn, .int .i64 0, .slice a2 l.length c2] 25))
  have HU1 := Lib.hid hu1
  have hll := hin.2.2.1
  have hnl := hin.1
  have hL0 : (0 : Int) ≤ l.length := by omega
  have hL1 : (l.length : Int) ≤ 10000000 := by omega
  have hN0 : (0 : Int) ≤ nms.length := by omega
  have hN1 : (nms.length : Int) ≤ 10000000 := by omega
  have HH := Lib.hid (has_calls 7)
  obtain ⟨a, b, c, habc, ha17, hb17, hc17⟩ : ∃ a b c : Nat, hasF 7 = (a, b, c) ∧ a ≤ 17 ∧ b ≤ 17 ∧ c ≤ 17 := by
    unfold hasF
    repeat' split
    all_goals exact ⟨_, _, _, rfl, by decide, by decide, by decide⟩
  rw [habc] at HH
  simp only at HH
  obtain ⟨hs0, hs1, hs2⟩ : ¬ nms.length < a ∧ ¬ b < nms.length ∧ l.length = c := by
    unfold shapeBad at hsb
    rw [habc] at hsb
    simp at hsb
    omega
  have ha0 : (0 : Int) ≤ a := by omega
  have hb0 : (0 : Int) ≤ b := by omega
  have hc0 : (0 : Int) ≤ c := by omega
  have ha1 : (a : Int) ≤ 17 := by omega
  have hb1 : (b : Int) ≤ 17 := by omega
  have hc1 : (c : Int) ≤ 17 := by omega
  have q0 : ¬ (nms.length : Int) < a := by omega
  have q1 : ¬ (b : Int) < nms.length := by omega
  have q2 : ((l.length : Int) != (c : Int)) = false := by rw [hs2]; simp
  clear habc hsb hall h hs hg hk hu1 hnm ev hin hs2
  go_enter Tryz.func53, Tryz.ntmps53
  go_wp2_with fail
  refine (HH.out (w.alloc (.cells #[.int .i64 7, .slice a1 nms.length c1, .int .i64 so, .int .i64 nn, .int .i64 0, .slice a2 l.length c2] 25))).mono ?_
  rintro e w3 ⟨rfl, hu3⟩
  have HU3 := Lib.hid (HU1.out.trans_ext hu3)
  have hb3 := hu3.at HB1.out (by simp)
  have HB3 := Lib.hid hb3
  obtain ⟨y0, y1, y2, y3, y4, y5⟩ := cells6 hb3
  clear hu3 hb3
  go_wp2_with fail
  go_loopw [6] (fun i wr => ∃ j : Nat, j ≤ nms.length ∧ i = .int .i64 j ∧ Hid (Upto [] w3 wr)) (fun i _ => nms.length - (intOf i).toNat)
  case atStart => exact ⟨0, by omega, rfl, Lib.hid (Upto.refl _ _)⟩
  case round =>
    clear y0 y1 y2 y3 y4 y5
    obtain ⟨j, hj, rfl, HU⟩ := hrel
    have hj0 : (0 : Int) ≤ j := by omega
    have hb := HU.out.at HB3.out (by simp)
    have HB := Lib.hid hb
    obtain ⟨y0, y1, y2, y3, y4, y5⟩ := cells6 hb
    have HW := Lib.hid (HU3.out.trans_ext HU.out)
    rcases Nat.lt_or_ge j nms.length with hlt | hge
    · have hltI : (j : Int) < nms.length := by omega
      obtain ⟨x, hx⟩ : ∃ x, nms[j]? = some x := ⟨_, List.getElem?_eq_getElem hlt⟩
      have hxl := HIN.out.2.1 x (List.mem_of_getElem? hx)
      obtain ⟨g, o, rfl, c0⟩ := HN.out j x hx
      replace c0 := up_cell HW.out c0
      have HC := Lib.hid (isName_calls x wr (by omega))
      have hb2 : nameF x = true := List.all_eq_true.1 HAL.out x (List.mem_of_getElem? hx)
      rw [hb2] at HC
      clear hx hb hb2
      go_wp2_with fail
      refine HC.out.mono ?_
      rintro e w5 ⟨rfl, hu5⟩
      have HU5 := Lib.hid (HU.out.trans_ext hu5)
      clear hu5
      go_wp2_with fail
      go_roundw
      case rel => first | exact ⟨j + 1, by omega, by go_num, HU5⟩ | exact ⟨_, _, _, _, _, _, _, _, _, _, _, _, _, _, _, _, ⟨j + 1, by omega, by go_num, HU5⟩, rfl⟩
      case measure => simp [intOf]; omega
    · have hgeI : ¬ (j : Int) < nms.length := by omega
      clear hb q0 q1 q2 hs0 hs1 ha0 hb0 hc0 ha1 hb1 hc1 HH HAL HN
      have eso0 : (so == (0 : Int)) = false := by rw [beq_eq_false_iff_ne]; exact hz
      have fso0 : (so != (0 : Int)) = true := by rw [bne, eso0]; rfl
      go_wp2_with fail
      go_ret
      exact ⟨rfl, HW.out⟩
set_option maxRecDepth 100000 in
set_option maxHeartbeats 12800000 in
theorem form_7c (k : Nat) (nn : Int) (nms : List (List UInt8)) (l : List Nd) (hk : sizesF l ≤ k) (hin : inN 10000000 (.mk 7 nms 0 nn 0 l)) (hk7 : k + 1 ≤ 10000000) (v : Value) (w : World) (P : Nat → Prop) (h : NdV w P (.mk 7 nms 0 nn 0 l) v) (hk0 : ¬ (7 : Int) < 0) (hk1 : ¬ (17 : Int) < 7) (hsb : shapeBad 7 nms.length l.length = false) (hall : nms.all nameF = true) (hz : nn < 0) : Calls Tryz.prog 53 #[v] w fun e w' => e = .returned (.int .i64 ((2 : Nat) : Int)) ∧ Upto [] w w' := by
  obtain ⟨a1, c1, a2, c2, rfl, hs, hg⟩ := h.open
  unfold inN at hin
  have HG := Lib.hid hg
  obtain ⟨a1', c1', ev, hnm⟩ := hs.get
  obtain ⟨rfl, rfl⟩ : a1 = a1' ∧ c1 = c1' := by simpa using ev
  have HN : Hid (∀ i x, nms[i]? = some x → ∃ g o, a1 = some ⟨g, o, none⟩ ∧ w.cell? ⟨g, o + i, none⟩ = some (.string ⟨x.toArray⟩)) := Lib.hid (fun i x hi => hnm i _ (by rw [List.getElem?_map, hi]; rfl))
  have HSZ := Lib.hid hk
  have HIN := Lib.hid hin
  have HAL := Lib.hid hall
  have hu1 : Upto [] w (w.alloc (.cells #[.int .i64 7, .slice a1 nms.length c1, .int .i64 0, .int .i64 nn, .int .i64 0, .slice a2 l.length c2] 25)) := (Upto.refl [] w).alloc _
  have HB1 := Lib.hid (new_at w (.cells #[.int .i64 7, .slice a1 nms.length c1, .int .i64 0, .int .i64 nn, .int .i64 0, .slice a2 l.length c2] 25))
  have HU1 := Lib.hid hu1
  have hll := hin.2.2.1
  have hnl := hin.1
  have hL0 : (0 : Int) ≤ l.length := by omega
  have hL1 : (l.length : Int) ≤ 10000000 := by omega
  have hN0 : (0 : Int) ≤ nms.length := by omega
  have hN1 : (nms.length : Int) ≤ 10000000 := by omega
  have HH := Lib.hid (has_calls 7)
  obtain ⟨a, b, c, habc, ha17, hb17, hc17⟩ : ∃ a b c : Nat, hasF 7 = (a, b, c) ∧ a ≤ 17 ∧ b ≤ 17 ∧ c ≤ 17 := by
    unfold hasF
    repeat' split
    all_goals exact ⟨_, _, _, rfl, by decide, by decide, by decide⟩
  rw [habc] at HH
  simp only at HH
  obtain ⟨hs0, hs1, hs2⟩ : ¬ nms.length < a ∧ ¬ b < nms.length ∧ l.length = c := by
    unfold shapeBad at hsb
    rw [habc] at hsb
    simp at hsb
    omega
  have ha0 : (0 : Int) ≤ a := by omega
  have hb0 : (0 : Int) ≤ b := by omega
  have hc0 : (0 : Int) ≤ c := by omega
  have ha1 : (a : Int) ≤ 17 := by omega
  have hb1 : (b : Int) ≤ 17 := by omega
  have hc1 : (c : Int) ≤ 17 := by omega
  have q0 : ¬ (nms.length : Int) < a := by omega
  have q1 : ¬ (b : Int) < nms.length := by omega
  have q2 : ((l.length : Int) != (c : Int)) = false := by rw [hs2]; simp
  clear habc hsb hall h hs hg hk hu1 hnm ev hin hs2
  go_enter Tryz.func53, Tryz.ntmps53
  go_wp2_with fail
  refine (HH.out (w.alloc (.cells #[.int .i64 7, .slice a1 nms.length c1, .int .i64 0, .int .i64 nn, .int .i64 0, .slice a2 l.length c2] 25))).mono ?_
  rintro e w3 ⟨rfl, hu3⟩
  have HU3 := Lib.hid (HU1.out.trans_ext hu3)
  have hb3 := hu3.at HB1.out (by simp)
  have HB3 := Lib.hid hb3
  obtain ⟨y0, y1, y2, y3, y4, y5⟩ := cells6 hb3
  clear hu3 hb3
  go_wp2_with fail
  go_loopw [6] (fun i wr => ∃ j : Nat, j ≤ nms.length ∧ i = .int .i64 j ∧ Hid (Upto [] w3 wr)) (fun i _ => nms.length - (intOf i).toNat)
  case atStart => exact ⟨0, by omega, rfl, Lib.hid (Upto.refl _ _)⟩
  case round =>
    clear y0 y1 y2 y3 y4 y5
    obtain ⟨j, hj, rfl, HU⟩ := hrel
    have hj0 : (0 : Int) ≤ j := by omega
    have hb := HU.out.at HB3.out (by simp)
    have HB := Lib.hid hb
    obtain ⟨y0, y1, y2, y3, y4, y5⟩ := cells6 hb
    have HW := Lib.hid (HU3.out.trans_ext HU.out)
    rcases Nat.lt_or_ge j nms.length with hlt | hge
    · have hltI : (j : Int) < nms.length := by omega
      obtain ⟨x, hx⟩ : ∃ x, nms[j]? = some x := ⟨_, List.getElem?_eq_getElem hlt⟩
      have hxl := HIN.out.2.1 x (List.mem_of_getElem? hx)
      obtain ⟨g, o, rfl, c0⟩ := HN.out j x hx
      replace c0 := up_cell HW.out c0
      have HC := Lib.hid (isName_calls x wr (by omega))
      have hb2 : nameF x = true := List.all_eq_true.1 HAL.out x (List.mem_of_getElem? hx)
      rw [hb2] at HC
      clear hx hb hb2
      go_wp2_with fail
      refine HC.out.mono ?_
      rintro e w5 ⟨rfl, hu5⟩
      have HU5 := Lib.hid (HU.out.trans_ext hu5)
      clear hu5
      go_wp2_with fail
      go_roundw
      case rel => first | exact ⟨j + 1, by omega, by go_num, HU5⟩ | exact ⟨_, _, _, _, _, _, _, _, _, _, _, _, _, _, _, _, ⟨j + 1, by omega, by go_num, HU5⟩, rfl⟩
      case measure => simp [intOf]; omega
    · have hgeI : ¬ (j : Int) < nms.length := by omega
      clear hb q0 q1 q2 hs0 hs1 ha0 hb0 hc0 ha1 hb1 hc1 HH HAL HN
      go_wp2_with fail
      go_ret
      exact ⟨rfl, HW.out⟩
set_option maxRecDepth 100000 in
set_option maxHeartbeats 12800000 in
theorem form_7d (k : Nat) (nn : Int) (nms : List (List UInt8)) (l : List Nd) (hk : sizesF l ≤ k) (hin : inN 10000000 (.mk 7 nms 0 nn 0 l)) (hk7 : k + 1 ≤ 10000000) (v : Value) (w : World) (P : Nat → Prop) (h : NdV w P (.mk 7 nms 0 nn 0 l) v) (hk0 : ¬ (7 : Int) < 0) (hk1 : ¬ (17 : Int) < 7) (hsb : shapeBad 7 nms.length l.length = false) (hall : nms.all nameF = true) (h1 : ¬ nn < 0) (hz : 7 < nn) : Calls Tryz.prog 53 #[v] w fun e w' => e = .returned (.int .i64 ((2 : Nat) : Int)) ∧ Upto [] w w' := by
  obtain ⟨a1, c1, a2, c2, rfl, hs, hg⟩ := h.open
  unfold inN at hin
  have HG := Lib.hid hg
  obtain ⟨a1', c1', ev, hnm⟩ := hs.get
  obtain ⟨rfl, rfl⟩ : a1 = a1' ∧ c1 = c1' := by simpa using ev
  have HN : Hid (∀ i x, nms[i]? = some x → ∃ g o, a1 = some ⟨g, o, none⟩ ∧ w.cell? ⟨g, o + i, none⟩ = some (.string ⟨x.toArray⟩)) := Lib.hid (fun i x hi => hnm i _ (by rw [List.getElem?_map, hi]; rfl))
  have HSZ := Lib.hid hk
  have HIN := Lib.hid hin
  have HAL := Lib.hid hall
  have hu1 : Upto [] w (w.alloc (.cells #[.int .i64 7, .slice a1 nms.length c1, .int .i64 0, .int .i64 nn, .int .i64 0, .slice a2 l.length c2] 25)) := (Upto.refl [] w).alloc _
  have HB1 := Lib.hid (new_at w (.cells #[.int .i64 7, .slice a1 nms.length c1, .int .i64 0, .int .i64 nn, .int .i64 0, .slice a2 l.length c2] 25))
  have HU1 := Lib.hid hu1
  have hll := hin.2.2.1
  have hnl := hin.1
  have hL0 : (0 : Int) ≤ l.length := by omega
  have hL1 : (l.length : Int) ≤ 10000000 := by omega
  have hN0 : (0 : Int) ≤ nms.length := by omega
  have hN1 : (nms.length : Int) ≤ 10000000 := by omega
  have HH := Lib.hid (has_calls 7)
  obtain ⟨a, b, c, habc, ha17, hb17, hc17⟩ : ∃ a b c : Nat, hasF 7 = (a, b, c) ∧ a ≤ 17 ∧ b ≤ 17 ∧ c ≤ 17 := by
    unfold hasF
    repeat' split
    all_goals exact ⟨_, _, _, rfl, by decide, by decide, by decide⟩
  rw [habc] at HH
  simp only at HH
  obtain ⟨hs0, hs1, hs2⟩ : ¬ nms.length < a ∧ ¬ b < nms.length ∧ l.length = c := by
    unfold shapeBad at hsb
    rw [habc] at hsb
    simp at hsb
    omega
  have ha0 : (0 : Int) ≤ a := by omega
  have hb0 : (0 : Int) ≤ b := by omega
  have hc0 : (0 : Int) ≤ c := by omega
  have ha1 : (a : Int) ≤ 17 := by omega
  have hb1 : (b : Int) ≤ 17 := by omega
  have hc1 : (c : Int) ≤ 17 := by omega
  have q0 : ¬ (nms.length : Int) < a := by omega
  have q1 : ¬ (b : Int) < nms.length := by omega
  have q2 : ((l.length : Int) != (c : Int)) = false := by rw [hs2]; simp
  clear habc hsb hall h hs hg hk hu1 hnm ev hin hs2
  go_enter Tryz.func53, Tryz.ntmps53
  go_wp2_with fail
  refine (HH.out (w.alloc (.cells #[.int .i64 7, .slice a1 nms.length c1, .int .i64 0, .int .i64 nn, .int .i64 0, .slice a2 l.length c2] 25))).mono ?_
  rintro e w3 ⟨rfl, hu3⟩
  have HU3 := Lib.hid (HU1.out.trans_ext hu3)
  have hb3 := hu3.at HB1.out (by simp)
  have HB3 := Lib.hid hb3
  obtain ⟨y0, y1, y2, y3, y4, y5⟩ := cells6 hb3
  clear hu3 hb3
  go_wp2_with fail
  go_loopw [6] (fun i wr => ∃ j : Nat, j ≤ nms.length ∧ i = .int .i64 j ∧ Hid (Upto [] w3 wr)) (fun i _ => nms.length - (intOf i).toNat)
  case atStart => exact ⟨0, by omega, rfl, Lib.hid (Upto.refl _ _)⟩
  case round =>
    clear y0 y1 y2 y3 y4 y5
    obtain ⟨j, hj, rfl, HU⟩ := hrel
    have hj0 : (0 : Int) ≤ j := by omega
    have hb := HU.out.at HB3.out (by simp)
    have HB := Lib.hid hb
    obtain ⟨y0, y1, y2, y3, y4, y5⟩ := cells6 hb
    have HW := Lib.hid (HU3.out.trans_ext HU.out)
    rcases Nat.lt_or_ge j nms.length with hlt | hge
    · have hltI : (j : Int) < nms.length := by omega
      obtain ⟨x, hx⟩ : ∃ x, nms[j]? = some x := ⟨_, List.getElem?_eq_getElem hlt⟩
      have hxl := HIN.out.2.1 x (List.mem_of_getElem? hx)
      obtain ⟨g, o, rfl, c0⟩ := HN.out j x hx
      replace c0 := up_cell HW.out c0
      have HC := Lib.hid (isName_calls x wr (by omega))
      have hb2 : nameF x = true := List.all_eq_true.1 HAL.out x (List.mem_of_getElem? hx)
      rw [hb2] at HC
      clear hx hb hb2
      go_wp2_with fail
      refine HC.out.mono ?_
      rintro e w5 ⟨rfl, hu5⟩
      have HU5 := Lib.hid (HU.out.trans_ext hu5)
      clear hu5
      go_wp2_with fail
      go_roundw
      case rel => first | exact ⟨j + 1, by omega, by go_num, HU5⟩ | exact ⟨_, _, _, _, _, _, _, _, _, _, _, _, _, _, _, _, ⟨j + 1, by omega, by go_num, HU5⟩, rfl⟩
      case measure => simp [intOf]; omega
    · have hgeI : ¬ (j : Int) < nms.length := by omega
      clear hb q0 q1 q2 hs0 hs1 ha0 hb0 hc0 ha1 hb1 hc1 HH HAL HN
      go_wp2_with fail
      go_ret
      exact ⟨rfl, HW.out⟩
set_option maxRecDepth 100000 in
set_option maxHeartbeats 12800000 in
theorem form_7g (k : Nat) (nn : Int) (nms : List (List UInt8)) (l : List Nd) (hk : sizesF l ≤ k) (hin : inN 10000000 (.mk 7 nms 0 nn 0 l)) (hk7 : k + 1 ≤ 10000000) (v : Value) (w : World) (P : Nat → Prop) (h : NdV w P (.mk 7 nms 0 nn 0 l) v) (hk0 : ¬ (7 : Int) < 0) (hk1 : ¬ (17 : Int) < 7) (hsb : shapeBad 7 nms.length l.length = false) (hall : nms.all nameF = true) (h1 : ¬ nn < 0) (h2 : ¬ 7 < nn) (IH : ∀ (nd : Nd), sizeF nd ≤ k → inN 10000000 nd → ∀ (v : Value) (w : World) (P : Nat → Prop), NdV w P nd v → Calls Tryz.prog 53 #[v] w fun e w' => e = .returned (.int .i64 (formF nameF nd : Nat)) ∧ Upto [] w w') : Calls Tryz.prog 53 #[v] w fun e w' => e = .returned (.int .i64 ((formsF nameF l : Nat) : Int)) ∧ Upto [] w w' := by
  obtain ⟨a1, c1, a2, c2, rfl, hs, hg⟩ := h.open
  unfold inN at hin
  have HG := Lib.hid hg
  obtain ⟨a1', c1', ev, hnm⟩ := hs.get
  obtain ⟨rfl, rfl⟩ : a1 = a1' ∧ c1 = c1' := by simpa using ev
  have HN : Hid (∀ i x, nms[i]? = some x → ∃ g o, a1 = some ⟨g, o, none⟩ ∧ w.cell? ⟨g, o + i, none⟩ = some (.string ⟨x.toArray⟩)) := Lib.hid (fun i x hi => hnm i _ (by rw [List.getElem?_map, hi]; rfl))
  have HSZ := Lib.hid hk
  have HIN := Lib.hid hin
  have HAL := Lib.hid hall
  have hu1 : Upto [] w (w.alloc (.cells #[.int .i64 7, .slice a1 nms.length c1, .int .i64 0, .int .i64 nn, .int .i64 0, .slice a2 l.length c2] 25)) := (Upto.refl [] w).alloc _
  have HB1 := Lib.hid (new_at w (.cells #[.int .i64 7, .slice a1 nms.length c1, .int .i64 0, .int .i64 nn, .int .i64 0, .slice a2 l.length c2] 25))
  have HU1 := Lib.hid hu1
  have hll := hin.2.2.1
  have hnl := hin.1
  have hL0 : (0 : Int) ≤ l.length := by omega
  have hL1 : (l.length : Int) ≤ 10000000 := by omega
  have hN0 : (0 : Int) ≤ nms.length := by omega
  have hN1 : (nms.length : Int) ≤ 10000000 := by omega
  have HH := Lib.hid (has_calls 7)
  obtain ⟨a, b, c, habc, ha17, hb17, hc17⟩ : ∃ a b c : Nat, hasF 7 = (a, b, c) ∧ a ≤ 17 ∧ b ≤ 17 ∧ c ≤ 17 := by
    unfold hasF
    repeat' split
    all_goals exact ⟨_, _, _, rfl, by decide, by decide, by decide⟩
  rw [habc] at HH
  simp only at HH
  obtain ⟨hs0, hs1, hs2⟩ : ¬ nms.length < a ∧ ¬ b < nms.length ∧ l.length = c := by
    unfold shapeBad at hsb
    rw [habc] at hsb
    simp at hsb
    omega
  have ha0 : (0 : Int) ≤ a := by omega
  have hb0 : (0 : Int) ≤ b := by omega
  have hc0 : (0 : Int) ≤ c := by omega
  have ha1 : (a : Int) ≤ 17 := by omega
  have hb1 : (b : Int) ≤ 17 := by omega
  have hc1 : (c : Int) ≤ 17 := by omega
  have q0 : ¬ (nms.length : Int) < a := by omega
  have q1 : ¬ (b : Int) < nms.length := by omega
  have q2 : ((l.length : Int) != (c : Int)) = false := by rw [hs2]; simp
  clear habc hsb hall h hs hg hk hu1 hnm ev hin hs2
  go_enter Tryz.func53, Tryz.ntmps53
  go_wp2_with fail
  refine (HH.out (w.alloc (.cells #[.int .i64 7, .slice a1 nms.length c1, .int .i64 0, .int .i64 nn, .int .i64 0, .slice a2 l.length c2] 25))).mono ?_
  rintro e w3 ⟨rfl, hu3⟩
  have HU3 := Lib.hid (HU1.out.trans_ext hu3)
  have hb3 := hu3.at HB1.out (by simp)
  have HB3 := Lib.hid hb3
  obtain ⟨y0, y1, y2, y3, y4, y5⟩ := cells6 hb3
  clear hu3 hb3
  go_wp2_with fail
  go_loopw [6] (fun i wr => ∃ j : Nat, j ≤ nms.length ∧ i = .int .i64 j ∧ Hid (Upto [] w3 wr)) (fun i _ => nms.length - (intOf i).toNat)
  case atStart => exact ⟨0, by omega, rfl, Lib.hid (Upto.refl _ _)⟩
  case round =>
    clear y0 y1 y2 y3 y4 y5
    obtain ⟨j, hj, rfl, HU⟩ := hrel
    have hj0 : (0 : Int) ≤ j := by omega
    have hb := HU.out.at HB3.out (by simp)
    have HB := Lib.hid hb
    obtain ⟨y0, y1, y2, y3, y4, y5⟩ := cells6 hb
    have HW := Lib.hid (HU3.out.trans_ext HU.out)
    rcases Nat.lt_or_ge j nms.length with hlt | hge
    · have hltI : (j : Int) < nms.length := by omega
      obtain ⟨x, hx⟩ : ∃ x, nms[j]? = some x := ⟨_, List.getElem?_eq_getElem hlt⟩
      have hxl := HIN.out.2.1 x (List.mem_of_getElem? hx)
      obtain ⟨g, o, rfl, c0⟩ := HN.out j x hx
      replace c0 := up_cell HW.out c0
      have HC := Lib.hid (isName_calls x wr (by omega))
      have hb2 : nameF x = true := List.all_eq_true.1 HAL.out x (List.mem_of_getElem? hx)
      rw [hb2] at HC
      clear hx hb hb2
      go_wp2_with fail
      refine HC.out.mono ?_
      rintro e w5 ⟨rfl, hu5⟩
      have HU5 := Lib.hid (HU.out.trans_ext hu5)
      clear hu5
      go_wp2_with fail
      go_roundw
      case rel => first | exact ⟨j + 1, by omega, by go_num, HU5⟩ | exact ⟨_, _, _, _, _, _, _, _, _, _, _, _, _, _, _, _, ⟨j + 1, by omega, by go_num, HU5⟩, rfl⟩
      case measure => simp [intOf]; omega
    · have hgeI : ¬ (j : Int) < nms.length := by omega
      clear hb q0 q1 q2 hs0 hs1 ha0 hb0 hc0 ha1 hb1 hc1 HH HAL HN
      go_wp2_with fail
      go_loopw [7] (fun i wx => ∃ m : Nat, m ≤ l.length ∧ i = .int .i64 m ∧ Hid (formsF nameF (l.drop m) = formsF nameF l) ∧ Hid (Upto [] wr wx)) (fun i _ => l.length - (intOf i).toNat)
      case atStart => exact ⟨0, by omega, rfl, Lib.hid rfl, Lib.hid (Upto.refl _ _)⟩
      case round =>
        clear y0 y1 y2 y3 y4 y5
        obtain ⟨m, hm, rfl, HB9, HV⟩ := hrel
        have hm0 : (0 : Int) ≤ m := by omega
        have hb := HV.out.at HB.out (by simp)
        have y5 := cell_of hb 5
        simp only [List.getElem?_toArray, List.getElem?_cons_zero, List.getElem?_cons_succ] at y5
        have HW2 := Lib.hid (HW.out.trans_ext HV.out)
        rcases Nat.lt_or_ge m l.length with hlt | hge2
        · have hltI : (m : Int) < l.length := by omega
          obtain ⟨x, hx⟩ : ∃ x, l[m]? = some x := ⟨_, List.getElem?_eq_getElem hlt⟩
          have HDR : Hid (l.drop m = x :: l.drop (m + 1)) := Lib.hid (by
            obtain ⟨hi, h3⟩ := List.getElem?_eq_some_iff.1 hx
            rw [List.drop_eq_getElem_cons hi, h3])
          obtain ⟨g, o, xo, xn1, xn2, xn3, xs, xm, xq, xl1, xl2, xl3, rfl, d0, d1, d2, d3, d4, d5, hnx⟩ := HG.out m x hx
          replace d0 := up_cell HW2.out d0
          replace d1 := up_cell HW2.out d1
          replace d2 := up_cell HW2.out d2
          replace d3 := up_cell HW2.out d3
          replace d4 := up_cell HW2.out d4
          replace d5 := up_cell HW2.out d5
          have HC := Lib.hid (IH x (by have := HSZ.out; have := sizesF_mem (List.mem_of_getElem? hx); omega) (insN_mem HIN.out.2.2.2 (List.mem_of_getElem? hx)) _ wr P (hnx.ext HW2.out))
          by_cases hz : formF nameF x = 0
          · have HA2 : Hid (formsF nameF (l.drop (m + 1)) = formsF nameF l) := Lib.hid (by
              rw [← HB9.out, HDR.out]
              conv => rhs; unfold formsF
              rw [hz]
              rfl)
            rw [hz] at HC
            clear hx hb hz hnx
            go_wp2_with fail
            refine HC.out.mono ?_
            rintro e w5 ⟨rfl, hu5⟩
            have HU5 := Lib.hid (HV.out.trans_ext hu5)
            clear hu5
            go_wp2_with fail
            go_roundw
            case rel => first | exact ⟨m + 1, by omega, by go_num, HA2, HU5⟩ | exact ⟨_, _, _, _, _, _, _, _, _, _, _, _, _, _, _, _, _, _, _, ⟨m + 1, by omega, by go_num, HA2, HU5⟩, rfl⟩
            case measure => simp [intOf]; omega
          · have HF : Hid (formsF nameF l = formF nameF x) := Lib.hid (by
              rw [← HB9.out, HDR.out]
              unfold formsF
              rw [if_pos hz])
            generalize hfx : formF nameF x = fx at *
            have ez : ((fx : Int) == 0) = false := by rw [beq_eq_false_iff_ne]; omega
            have ez2 : ((fx : Int) != 0) = true := by rw [bne, ez]; rfl
            clear hx hb hz hnx hfx
            go_wp2_with fail
            refine HC.out.mono ?_
            rintro e w5 ⟨rfl, hu5⟩
            have HU5 := Lib.hid (HW2.out.trans_ext hu5)
            clear hu5
            go_wp2_with fail
            go_ret
            rw [HF.out]
            exact ⟨rfl, HU5.out⟩
        · have hgeJ : ¬ (m : Int) < l.length := by omega
          have HF : Hid (formsF nameF l = 0) := Lib.hid (by
            rw [← HB9.out, List.drop_of_length_le (by omega)]
            rfl)
          clear hb
          go_wp2_with fail
          go_ret
          rw [HF.out]
          exact ⟨rfl, HW2.out⟩
set_option maxRecDepth 100000 in
set_option maxHeartbeats 12800000 in
theorem form_8a (k : Nat) (so nn mm : Int) (nms : List (List UInt8)) (l : List Nd) (hk : sizesF l ≤ k) (hin : inN 10000000 (.mk 8 nms so nn mm l)) (hk7 : k + 1 ≤ 10000000) (v : Value) (w : World) (P : Nat → Prop) (h : NdV w P (.mk 8 nms so nn mm l) v) (hk0 : ¬ (8 : Int) < 0) (hk1 : ¬ (17 : Int) < 8) (hsb : shapeBad 8 nms.length l.length = false) (hall : nms.all nameF = true) (hz : so ≠ 0) : Calls Tryz.prog 53 #[v] w fun e w' => e = .returned (.int .i64 ((3 : Nat) : Int)) ∧ Upto [] w w' := by
  obtain ⟨a1, c1, a2, c2, rfl, hs, hg⟩ := h.open
  unfold inN at hin
  have HG := Lib.hid hg
  obtain ⟨a1', c1', ev, hnm⟩ := hs.get
  obtain ⟨rfl, rfl⟩ : a1 = a1' ∧ c1 = c1' := by simpa using ev
  have HN : Hid (∀ i x, nms[i]? = some x → ∃ g o, a1 = some ⟨g, o, none⟩ ∧ w.cell? ⟨g, o + i, none⟩ = some (.string ⟨x.toArray⟩)) := Lib.hid (fun i x hi => hnm i _ (by rw [List.getElem?_map, hi]; rfl))
  have HSZ := Lib.hid hk
  have HIN := Lib.hid hin
  have HAL := Lib.hid hall
  have hu1 : Upto [] w (w.alloc (.cells #[.int .i64 8, .slice a1 nms.length c1, .int .i64 so, .int .i64 nn, .int .i64 mm, .slice a2 l.length c2] 25)) := (Upto.refl [] w).alloc _
  have HB1 := Lib.hid (new_at w (.cells #[.int .i64 8, .slice a1 nms.length c1, .int .i64 so, .int .i64 nn, .int .i64 mm, .slice a2 l.length c2] 25))
  have HU1 := Lib.hid hu1
  have hll := hin.2.2.1
  have hnl := hin.1
  have hL0 : (0 : Int) ≤ l.length := by omega
  have hL1 : (l.length : Int) ≤ 10000000 := by omega
  have hN0 : (0 : Int) ≤ nms.length := by omega
  have hN1 : (nms.length : Int) ≤ 10000000 := by omega
  have HH := Lib.hid (has_calls 8)
  obtain ⟨a, b, c, habc, ha17, hb17, hc17⟩ : ∃ a b c : Nat, hasF 8 = (a, b, c) ∧ a ≤ 17 ∧ b ≤ 17 ∧ c ≤ 17 := by
    unfold hasF
    repeat' split
    all_goals exact ⟨_, _, _, rfl, by decide, by decide, by decide⟩
  rw [habc] at HH
  simp only at HH
  obtain ⟨hs0, hs1, hs2⟩ : ¬ nms.length < a ∧ ¬ b < nms.length ∧ l.length = c := by
    unfold shapeBad at hsb
    rw [habc] at hsb
    simp at hsb
    omega
  have ha0 : (0 : Int) ≤ a := by omega
  have hb0 : (0 : Int) ≤ b := by omega
  have hc0 : (0 : Int) ≤ c := by omega
  have ha1 : (a : Int) ≤ 17 := by omega
  have hb1 : (b : Int) ≤ 17 := by omega
  have hc1 : (c : Int) ≤ 17 := by omega
  have q0 : ¬ (nms.length : Int) < a := by omega
  have q1 : ¬ (b : Int) < nms.length := by omega
  have q2 : ((l.length : Int) != (c : Int)) = false := by rw [hs2]; simp
  clear habc hsb hall h hs hg hk hu1 hnm ev hin hs2
  go_enter Tryz.func53, Tryz.ntmps53
  go_wp2_with fail
  refine (HH.out (w.alloc (.cells #[.int .i64 8, .slice a1 nms.length c1, .int .i64 so, .int .i64 nn, .int .i64 mm, .slice a2 l.length c2] 25))).mono ?_
  rintro e w3 ⟨rfl, hu3⟩
  have HU3 := Lib.hid (HU1.out.trans_ext hu3)
  have hb3 := hu3.at HB1.out (by simp)
  have HB3 := Lib.hid hb3
  obtain ⟨y0, y1, y2, y3, y4, y5⟩ := cells6 hb3
  clear hu3 hb3
  go_wp2_with fail
  go_loopw [6] (fun i wr => ∃ j : Nat, j ≤ nms.length ∧ i = .int .i64 j ∧ Hid (Upto [] w3 wr)) (fun i _ => nms.length - (intOf i).toNat)
  case atStart => exact ⟨0, by omega, rfl, Lib.hid (Upto.refl _ _)⟩
  case round =>
    clear y0 y1 y2 y3 y4 y5
    obtain ⟨j, hj, rfl, HU⟩ := hrel
    have hj0 : (0 : Int) ≤ j := by omega
    have hb := HU.out.at HB3.out (by simp)
    have HB := Lib.hid hb
    obtain ⟨y0, y1, y2, y3, y4, y5⟩ := cells6 hb
    have HW := Lib.hid (HU3.out.trans_ext HU.out)
    rcases Nat.lt_or_ge j nms.length with hlt | hge
    · have hltI : (j : Int) < nms.length := by omega
      obtain ⟨x, hx⟩ : ∃ x, nms[j]? = some x := ⟨_, List.getElem?_eq_getElem hlt⟩
      have hxl := HIN.out.2.1 x (List.mem_of_getElem? hx)
      obtain ⟨g, o, rfl, c0⟩ := HN.out j x hx
      replace c0 := up_cell HW.out c0
      have HC := Lib.hid (isName_calls x wr (by omega))
      have hb2 : nameF x = true := List.all_eq_true.1 HAL.out x (List.mem_of_getElem? hx)
      rw [hb2] at HC
      clear hx hb hb2
      go_wp2_with fail
      refine HC.out.mono ?_
      rintro e w5 ⟨rfl, hu5⟩
      have HU5 := Lib.hid (HU.out.trans_ext hu5)
      clear hu5
      go_wp2_with fail
      go_roundw
      case rel => first | exact ⟨j + 1, by omega, by go_num, HU5⟩ | exact ⟨_, _, _, _, _, _, _, _, _, _, _, _, _, _, _, _, ⟨j + 1, by omega, by go_num, HU5⟩, rfl⟩
      case measure => simp [intOf]; omega
    · have hgeI : ¬ (j : Int) < nms.length := by omega
      clear hb q0 q1 q2 hs0 hs1 ha0 hb0 hc0 ha1 hb1 hc1 HH HAL HN
      have eso0 : (so == (0 : Int)) = false := by rw [beq_eq_false_iff_ne]; exact hz
      have fso0 : (so != (0 : Int)) = true := by rw [bne, eso0]; rfl
      go_wp2_with fail
      go_ret
      exact ⟨rfl, HW.out⟩
set_option maxRecDepth 100000 in
set_option maxHeartbeats 12800000 in
theorem form_8b (k : Nat) (nn mm : Int) (nms : List (List UInt8)) (l : List Nd) (hk : sizesF l ≤ k) (hin : inN 10000000 (.mk 8 nms 0 nn mm l)) (hk7 : k + 1 ≤ 10000000) (v : Value) (w : World) (P : Nat → Prop) (h : NdV w P (.mk 8 nms 0 nn mm l) v) (hk0 : ¬ (8 : Int) < 0) (hk1 : ¬ (17 : Int) < 8) (hsb : shapeBad 8 nms.length l.length = false) (hall : nms.all nameF = true) (hz : mm < 1) : Calls Tryz.prog 53 #[v] w fun e w' => e = .returned (.int .i64 ((2 : Nat) : Int)) ∧ Upto [] w w' := by
  obtain ⟨a1, c1, a2, c2, rfl, hs, hg⟩ := h.open
  unfold inN at hin
  have HG := Lib.hid hg
  obtain ⟨a1', c1', ev, hnm⟩ := hs.get
  obtain ⟨rfl, rfl⟩ : a1 = a1' ∧ c1 = c1' := by simpa using ev
  have HN : Hid (∀ i x, nms[i]? = some x → ∃ g o, a1 = some ⟨g, o, none⟩ ∧ w.cell? ⟨g, o + i, none⟩ = some (.string ⟨x.toArray⟩)) := Lib.hid (fun i x hi => hnm i _ (by rw [List.getElem?_map, hi]; rfl))
  have HSZ := Lib.hid hk
  have HIN := Lib.hid hin
  have HAL := Lib.hid hall
  have hu1 : Upto [] w (w.alloc (.cells #[.int .i64 8, .slice a1 nms.length c1, .int .i64 0, .int .i64 nn, .int .i64 mm, .slice a2 l.length c2] 25)) := (Upto.refl [] w).alloc _
  have HB1 := Lib.hid (new_at w (.cells #[.int .i64 8, .slice a1 nms.length c1, .int .i64 0, .int .i64 nn, .int .i64 mm, .slice a2 l.length c2] 25))
  have HU1 := Lib.hid hu1
  have hll := hin.2.2.1
  have hnl := hin.1
  have hL0 : (0 : Int) ≤ l.length := by omega
  have hL1 : (l.length : Int) ≤ 10000000 := by omega
  have hN0 : (0 : Int) ≤ nms.length := by omega
  have hN1 : (nms.length : Int) ≤ 10000000 := by omega
  have HH := Lib.hid (has_calls 8)
  obtain ⟨a, b, c, habc, ha17, hb17, hc17⟩ : ∃ a b c : Nat, hasF 8 = (a, b, c) ∧ a ≤ 17 ∧ b ≤ 17 ∧ c ≤ 17 := by
    unfold hasF
    repeat' split
    all_goals exact ⟨_, _, _, rfl, by decide, by decide, by decide⟩
  rw [habc] at HH
  simp only at HH
  obtain ⟨hs0, hs1, hs2⟩ : ¬ nms.length < a ∧ ¬ b < nms.length ∧ l.length = c := by
    unfold shapeBad at hsb
    rw [habc] at hsb
    simp at hsb
    omega
  have ha0 : (0 : Int) ≤ a := by omega
  have hb0 : (0 : Int) ≤ b := by omega
  have hc0 : (0 : Int) ≤ c := by omega
  have ha1 : (a : Int) ≤ 17 := by omega
  have hb1 : (b : Int) ≤ 17 := by omega
  have hc1 : (c : Int) ≤ 17 := by omega
  have q0 : ¬ (nms.length : Int) < a := by omega
  have q1 : ¬ (b : Int) < nms.length := by omega
  have q2 : ((l.length : Int) != (c : Int)) = false := by rw [hs2]; simp
  clear habc hsb hall h hs hg hk hu1 hnm ev hin hs2
  go_enter Tryz.func53, Tryz.ntmps53
  go_wp2_with fail
  refine (HH.out (w.alloc (.cells #[.int .i64 8, .slice a1 nms.length c1, .int .i64 0, .int .i64 nn, .int .i64 mm, .slice a2 l.length c2] 25))).mono ?_
  rintro e w3 ⟨rfl, hu3⟩
  have HU3 := Lib.hid (HU1.out.trans_ext hu3)
  have hb3 := hu3.at HB1.out (by simp)
  have HB3 := Lib.hid hb3
  obtain ⟨y0, y1, y2, y3, y4, y5⟩ := cells6 hb3
  clear hu3 hb3
  go_wp2_with fail
  go_loopw [6] (fun i wr => ∃ j : Nat, j ≤ nms.length ∧ i = .int .i64 j ∧ Hid (Upto [] w3 wr)) (fun i _ => nms.length - (intOf i).toNat)
  case atStart => exact ⟨0, by omega, rfl, Lib.hid (Upto.refl _ _)⟩
  case round =>
    clear y0 y1 y2 y3 y4 y5
    obtain ⟨j, hj, rfl, HU⟩ := hrel
    have hj0 : (0 : Int) ≤ j := by omega
    have hb := HU.out.at HB3.out (by simp)
    have HB := Lib.hid hb
    obtain ⟨y0, y1, y2, y3, y4, y5⟩ := cells6 hb
    have HW := Lib.hid (HU3.out.trans_ext HU.out)
    rcases Nat.lt_or_ge j nms.length with hlt | hge
    · have hltI : (j : Int) < nms.length := by omega
      obtain ⟨x, hx⟩ : ∃ x, nms[j]? = some x := ⟨_, List.getElem?_eq_getElem hlt⟩
      have hxl := HIN.out.2.1 x (List.mem_of_getElem? hx)
      obtain ⟨g, o, rfl, c0⟩ := HN.out j x hx
      replace c0 := up_cell HW.out c0
      have HC := Lib.hid (isName_calls x wr (by omega))
      have hb2 : nameF x = true := List.all_eq_true.1 HAL.out x (List.mem_of_getElem? hx)
      rw [hb2] at HC
      clear hx hb hb2
      go_wp2_with fail
      refine HC.out.mono ?_
      rintro e w5 ⟨rfl, hu5⟩
      have HU5 := Lib.hid (HU.out.trans_ext hu5)
      clear hu5
      go_wp2_with fail
      go_roundw
      case rel => first | exact ⟨j + 1, by omega, by go_num, HU5⟩ | exact ⟨_, _, _, _, _, _, _, _, _, _, _, _, _, _, _, _, ⟨j + 1, by omega, by go_num, HU5⟩, rfl⟩
      case measure => simp [intOf]; omega
    · have hgeI : ¬ (j : Int) < nms.length := by omega
      clear hb q0 q1 q2 hs0 hs1 ha0 hb0 hc0 ha1 hb1 hc1 HH HAL HN
      go_wp2_with fail
      go_ret
      exact ⟨rfl, HW.out⟩
set_option maxRecDepth 100000 in
set_option maxHeartbeats 12800000 in
theorem form_8c (k : Nat) (nn mm : Int) (nms : List (List UInt8)) (l : List Nd) (hk : sizesF l ≤ k) (hin : inN 10000000 (.mk 8 nms 0 nn mm l)) (hk7 : k + 1 ≤ 10000000) (v : Value) (w : World) (P : Nat → Prop) (h : NdV w P (.mk 8 nms 0 nn mm l) v) (hk0 : ¬ (8 : Int) < 0) (hk1 : ¬ (17 : Int) < 8) (hsb : shapeBad 8 nms.length l.length = false) (hall : nms.all nameF = true) (h1 : ¬ mm < 1) (hz : 64 < mm) : Calls Tryz.prog 53 #[v] w fun e w' => e = .returned (.int .i64 ((2 : Nat) : Int)) ∧ Upto [] w w' := by
  obtain ⟨a1, c1, a2, c2, rfl, hs, hg⟩ := h.open
  unfold inN at hin
  have HG := Lib.hid hg
  obtain ⟨a1', c1', ev, hnm⟩ := hs.get
  obtain ⟨rfl, rfl⟩ : a1 = a1' ∧ c1 = c1' := by simpa using ev
  have HN : Hid (∀ i x, nms[i]? = some x → ∃ g o, a1 = some ⟨g, o, none⟩ ∧ w.cell? ⟨g, o + i, none⟩ = some (.string ⟨x.toArray⟩)) := Lib.hid (fun i x hi => hnm i _ (by rw [List.getElem?_map, hi]; rfl))
  have HSZ := Lib.hid hk
  have HIN := Lib.hid hin
  have HAL := Lib.hid hall
  have hu1 : Upto [] w (w.alloc (.cells #[.int .i64 8, .slice a1 nms.length c1, .int .i64 0, .int .i64 nn, .int .i64 mm, .slice a2 l.length c2] 25)) := (Upto.refl [] w).alloc _
  have HB1 := Lib.hid (new_at w (.cells #[.int .i64 8, .slice a1 nms.length c1, .int .i64 0, .int .i64 nn, .int .i64 mm, .slice a2 l.length c2] 25))
  have HU1 := Lib.hid hu1
  have hll := hin.2.2.1
  have hnl := hin.1
  have hL0 : (0 : Int) ≤ l.length := by omega
  have hL1 : (l.length : Int) ≤ 10000000 := by omega
  have hN0 : (0 : Int) ≤ nms.length := by omega
  have hN1 : (nms.length : Int) ≤ 10000000 := by omega
  have HH := Lib.hid (has_calls 8)
  obtain ⟨a, b, c, habc, ha17, hb17, hc17⟩ : ∃ a b c : Nat, hasF 8 = (a, b, c) ∧ a ≤ 17 ∧ b ≤ 17 ∧ c ≤ 17 := by
    unfold hasF
    repeat' split
    all_goals exact ⟨_, _, _, rfl, by decide, by decide, by decide⟩
  rw [habc] at HH
  simp only at HH
  obtain ⟨hs0, hs1, hs2⟩ : ¬ nms.length < a ∧ ¬ b < nms.length ∧ l.length = c := by
    unfold shapeBad at hsb
    rw [habc] at hsb
    simp at hsb
    omega
  have ha0 : (0 : Int) ≤ a := by omega
  have hb0 : (0 : Int) ≤ b := by omega
  have hc0 : (0 : Int) ≤ c := by omega
  have ha1 : (a : Int) ≤ 17 := by omega
  have hb1 : (b : Int) ≤ 17 := by omega
  have hc1 : (c : Int) ≤ 17 := by omega
  have q0 : ¬ (nms.length : Int) < a := by omega
  have q1 : ¬ (b : Int) < nms.length := by omega
  have q2 : ((l.length : Int) != (c : Int)) = false := by rw [hs2]; simp
  clear habc hsb hall h hs hg hk hu1 hnm ev hin hs2
  go_enter Tryz.func53, Tryz.ntmps53
  go_wp2_with fail
  refine (HH.out (w.alloc (.cells #[.int .i64 8, .slice a1 nms.length c1, .int .i64 0, .int .i64 nn, .int .i64 mm, .slice a2 l.length c2] 25))).mono ?_
  rintro e w3 ⟨rfl, hu3⟩
  have HU3 := Lib.hid (HU1.out.trans_ext hu3)
  have hb3 := hu3.at HB1.out (by simp)
  have HB3 := Lib.hid hb3
  obtain ⟨y0, y1, y2, y3, y4, y5⟩ := cells6 hb3
  clear hu3 hb3
  go_wp2_with fail
  go_loopw [6] (fun i wr => ∃ j : Nat, j ≤ nms.length ∧ i = .int .i64 j ∧ Hid (Upto [] w3 wr)) (fun i _ => nms.length - (intOf i).toNat)
  case atStart => exact ⟨0, by omega, rfl, Lib.hid (Upto.refl _ _)⟩
  case round =>
    clear y0 y1 y2 y3 y4 y5
    obtain ⟨j, hj, rfl, HU⟩ := hrel
    have hj0 : (0 : Int) ≤ j := by omega
    have hb := HU.out.at HB3.out (by simp)
    have HB := Lib.hid hb
    obtain ⟨y0, y1, y2, y3, y4, y5⟩ := cells6 hb
    have HW := Lib.hid (HU3.out.trans_ext HU.out)
    rcases Nat.lt_or_ge j nms.length with hlt | hge
    · have hltI : (j : Int) < nms.length := by omega
      obtain ⟨x, hx⟩ : ∃ x, nms[j]? = some x := ⟨_, List.getElem?_eq_getElem hlt⟩
      have hxl := HIN.out.2.1 x (List.mem_of_getElem? hx)
      obtain ⟨g, o, rfl, c0⟩ := HN.out j x hx
      replace c0 := up_cell HW.out c0
      have HC := Lib.hid (isName_calls x wr (by omega))
      have hb2 : nameF x = true := List.all_eq_true.1 HAL.out x (List.mem_of_getElem? hx)
      rw [hb2] at HC
      clear hx hb hb2
      go_wp2_with fail
      refine HC.out.mono ?_
      rintro e w5 ⟨rfl, hu5⟩
      have HU5 := Lib.hid (HU.out.trans_ext hu5)
      clear hu5
      go_wp2_with fail
      go_roundw
      case rel => first | exact ⟨j + 1, by omega, by go_num, HU5⟩ | exact ⟨_, _, _, _, _, _, _, _, _, _, _, _, _, _, _, _, ⟨j + 1, by omega, by go_num, HU5⟩, rfl⟩
      case measure => simp [intOf]; omega
    · have hgeI : ¬ (j : Int) < nms.length := by omega
      clear hb q0 q1 q2 hs0 hs1 ha0 hb0 hc0 ha1 hb1 hc1 HH HAL HN
      go_wp2_with fail
      go_ret
      exact ⟨rfl, HW.out⟩
set_option maxRecDepth 100000 in
set_option maxHeartbeats 12800000 in
theorem form_8d (k : Nat) (nn mm : Int) (nms : List (List UInt8)) (l : List Nd) (hk : sizesF l ≤ k) (hin : inN 10000000 (.mk 8 nms 0 nn mm l)) (hk7 : k + 1 ≤ 10000000) (v : Value) (w : World) (P : Nat → Prop) (h : NdV w P (.mk 8 nms 0 nn mm l) v) (hk0 : ¬ (8 : Int) < 0) (hk1 : ¬ (17 : Int) < 8) (hsb : shapeBad 8 nms.length l.length = false) (hall : nms.all nameF = true) (h1 : ¬ mm < 1) (h2 : ¬ 64 < mm) (hz : nn < 0) : Calls Tryz.prog 53 #[v] w fun e w' => e = .returned (.int .i64 ((2 : Nat) : Int)) ∧ Upto [] w w' := by
  obtain ⟨a1, c1, a2, c2, rfl, hs, hg⟩ := h.open
  unfold inN at hin
  have HG := Lib.hid hg
  obtain ⟨a1', c1', ev, hnm⟩ := hs.get
  obtain ⟨rfl, rfl⟩ : a1 = a1' ∧ c1 = c1' := by simpa using ev
  have HN : Hid (∀ i x, nms[i]? = some x → ∃ g o, a1 = some ⟨g, o, none⟩ ∧ w.cell? ⟨g, o + i, none⟩ = some (.string ⟨x.toArray⟩)) := Lib.hid (fun i x hi => hnm i _ (by rw [List.getElem?_map, hi]; rfl))
  have HSZ := Lib.hid hk
  have HIN := Lib.hid hin
  have HAL := Lib.hid hall
  have hu1 : Upto [] w (w.alloc (.cells #[.int .i64 8, .slice a1 nms.length c1, .int .i64 0, .int .i64 nn, .int .i64 mm, .slice a2 l.length c2] 25)) := (Upto.refl [] w).alloc _
  have HB1 := Lib.hid (new_at w (.cells #[.int .i64 8, .slice a1 nms.length c1, .int .i64 0, .int .i64 nn, .int .i64 mm, .slice a2 l.length c2] 25))
  have HU1 := Lib.hid hu1
  have hll := hin.2.2.1
  have hnl := hin.1
  have hL0 : (0 : Int) ≤ l.length := by omega
  have hL1 : (l.length : Int) ≤ 10000000 := by omega
  have hN0 : (0 : Int) ≤ nms.length := by omega
  have hN1 : (nms.length : Int) ≤ 10000000 := by omega
  have HH := Lib.hid (has_calls 8)
  obtain ⟨a, b, c, habc, ha17, hb17, hc17⟩ : ∃ a b c : Nat, hasF 8 = (a, b, c) ∧ a ≤ 17 ∧ b ≤ 17 ∧ c ≤ 17 := by
    unfold hasF
    repeat' split
    all_goals exact ⟨_, _, _, rfl, by decide, by decide, by decide⟩
  rw [habc] at HH
  simp only at HH
  obtain ⟨hs0, hs1, hs2⟩ : ¬ nms.length < a ∧ ¬ b < nms.length ∧ l.length = c := by
    unfold shapeBad at hsb
    rw [habc] at hsb
    simp at hsb
    omega
  have ha0 : (0 : Int) ≤ a := by omega
  have hb0 : (0 : Int) ≤ b := by omega
  have hc0 : (0 : Int) ≤ c := by omega
  have ha1 : (a : Int) ≤ 17 := by omega
  have hb1 : (b : Int) ≤ 17 := by omega
  have hc1 : (c : Int) ≤ 17 := by omega
  have q0 : ¬ (nms.length : Int) < a := by omega
  have q1 : ¬ (b : Int) < nms.length := by omega
  have q2 : ((l.length : Int) != (c : Int)) = false := by rw [hs2]; simp
  clear habc hsb hall h hs hg hk hu1 hnm ev hin hs2
  go_enter Tryz.func53, Tryz.ntmps53
  go_wp2_with fail
  refine (HH.out (w.alloc (.cells #[.int .i64 8, .slice a1 nms.length c1, .int .i64 0, .int .i64 nn, .int .i64 mm, .slice a2 l.length c2] 25))).mono ?_
  rintro e w3 ⟨rfl, hu3⟩
  have HU3 := Lib.hid (HU1.out.trans_ext hu3)
  have hb3 := hu3.at HB1.out (by simp)
  have HB3 := Lib.hid hb3
  obtain ⟨y0, y1, y2, y3, y4, y5⟩ := cells6 hb3
  clear hu3 hb3
  go_wp2_with fail
  go_loopw [6] (fun i wr => ∃ j : Nat, j ≤ nms.length ∧ i = .int .i64 j ∧ Hid (Upto [] w3 wr)) (fun i _ => nms.length - (intOf i).toNat)
  case atStart => exact ⟨0, by omega, rfl, Lib.hid (Upto.refl _ _)⟩
  case round =>
    clear y0 y1 y2 y3 y4 y5
    obtain ⟨j, hj, rfl, HU⟩ := hrel
    have hj0 : (0 : Int) ≤ j := by omega
    have hb := HU.out.at HB3.out (by simp)
    have HB := Lib.hid hb
    obtain ⟨y0, y1, y2, y3, y4, y5⟩ := cells6 hb
    have HW := Lib.hid (HU3.out.trans_ext HU.out)
    rcases Nat.lt_or_ge j nms.length with hlt | hge
    · have hltI : (j : Int) < nms.length := by omega
      obtain ⟨x, hx⟩ : ∃ x, nms[j]? = some x := ⟨_, List.getElem?_eq_getElem hlt⟩
      have hxl := HIN.out.2.1 x (List.mem_of_getElem? hx)
      obtain ⟨g, o, rfl, c0⟩ := HN.out j x hx
      replace c0 := up_cell HW.out c0
      have HC := Lib.hid (isName_calls x wr (by omega))
      have hb2 : nameF x = true := List.all_eq_true.1 HAL.out x (List.mem_of_getElem? hx)
      rw [hb2] at HC
      clear hx hb hb2
      go_wp2_with fail
      refine HC.out.mono ?_
      rintro e w5 ⟨rfl, hu5⟩
      have HU5 := Lib.hid (HU.out.trans_ext hu5)
      clear hu5
      go_wp2_with fail
      go_roundw
      case rel => first | exact ⟨j + 1, by omega, by go_num, HU5⟩ | exact ⟨_, _, _, _, _, _, _, _, _, _, _, _, _, _, _, _, ⟨j + 1, by omega, by go_num, HU5⟩, rfl⟩
      case measure => simp [intOf]; omega
    · have hgeI : ¬ (j : Int) < nms.length := by omega
      clear hb q0 q1 q2 hs0 hs1 ha0 hb0 hc0 ha1 hb1 hc1 HH HAL HN
      go_wp2_with fail
      go_ret
      exact ⟨rfl, HW.out⟩
set_option maxRecDepth 100000 in
set_option maxHeartbeats 12800000 in
theorem form_8e (k : Nat) (nn mm : Int) (nms : List (List UInt8)) (l : List Nd) (hk : sizesF l ≤ k) (hin : inN 10000000 (.mk 8 nms 0 nn mm l)) (hk7 : k + 1 ≤ 10000000) (v : Value) (w : World) (P : Nat → Prop) (h : NdV w P (.mk 8 nms 0 nn mm l) v) (hk0 : ¬ (8 : Int) < 0) (hk1 : ¬ (17 : Int) < 8) (hsb : shapeBad 8 nms.length l.length = false) (hall : nms.all nameF = true) (h1 : ¬ mm < 1) (h2 : ¬ 64 < mm) (h3 : ¬ nn < 0) (hz : mm ≤ nn) : Calls Tryz.prog 53 #[v] w fun e w' => e = .returned (.int .i64 ((2 : Nat) : Int)) ∧ Upto [] w w' := by
  obtain ⟨a1, c1, a2, c2, rfl, hs, hg⟩ := h.open
  unfold inN at hin
  have HG := Lib.hid hg
  obtain ⟨a1', c1', ev, hnm⟩ := hs.get
  obtain ⟨rfl, rfl⟩ : a1 = a1' ∧ c1 = c1' := by simpa using ev
  have HN : Hid (∀ i x, nms[i]? = some x → ∃ g o, a1 = some ⟨g, o, none⟩ ∧ w.cell? ⟨g, o + i, none⟩ = some (.string ⟨x.toArray⟩)) := Lib.hid (fun i x hi => hnm i _ (by rw [List.getElem?_map, hi]; rfl))
  have HSZ := Lib.hid hk
  have HIN := Lib.hid hin
  have HAL := Lib.hid hall
  have hu1 : Upto [] w (w.alloc (.cells #[.int .i64 8, .slice a1 nms.length c1, .int .i64 0, .int .i64 nn, .int .i64 mm, .slice a2 l.length c2] 25)) := (Upto.refl [] w).alloc _
  have HB1 := Lib.hid (new_at w (.cells #[.int .i64 8, .slice a1 nms.length c1, .int .i64 0, .int .i64 nn, .int .i64 mm, .slice a2 l.length c2] 25))
  have HU1 := Lib.hid hu1
  have hll := hin.2.2.1
  have hnl := hin.1
  have hL0 : (0 : Int) ≤ l.length := by omega
  have hL1 : (l.length : Int) ≤ 10000000 := by omega
  have hN0 : (0 : Int) ≤ nms.length := by omega
  have hN1 : (nms.length : Int) ≤ 10000000 := by omega
  have HH := Lib.hid (has_calls 8)
  obtain ⟨a, b, c, habc, ha17, hb17, hc17⟩ : ∃ a b c : Nat, hasF 8 = (a, b, c) ∧ a ≤ 17 ∧ b ≤ 17 ∧ c ≤ 17 := by
    unfold hasF
    repeat' split
    all_goals exact ⟨_, _, _, rfl, by decide, by decide, by decide⟩
  rw [habc] at HH
  simp only at HH
  obtain ⟨hs0, hs1, hs2⟩ : ¬ nms.length < a ∧ ¬ b < nms.length ∧ l.length = c := by
    unfold shapeBad at hsb
    rw [habc] at hsb
    simp at hsb
    omega
  have ha0 : (0 : Int) ≤ a := by omega
  have hb0 : (0 : Int) ≤ b := by omega
  have hc0 : (0 : Int) ≤ c := by omega
  have ha1 : (a : Int) ≤ 17 := by omega
  have hb1 : (b : Int) ≤ 17 := by omega
  have hc1 : (c : Int) ≤ 17 := by omega
  have q0 : ¬ (nms.length : Int) < a := by omega
  have q1 : ¬ (b : Int) < nms.length := by omega
  have q2 : ((l.length : Int) != (c : Int)) = false := by rw [hs2]; simp
  clear habc hsb hall h hs hg hk hu1 hnm ev hin hs2
  go_enter Tryz.func53, Tryz.ntmps53
  go_wp2_with fail
  refine (HH.out (w.alloc (.cells #[.int .i64 8, .slice a1 nms.length c1, .int .i64 0, .int .i64 nn, .int .i64 mm, .slice a2 l.length c2] 25))).mono ?_
  rintro e w3 ⟨rfl, hu3⟩
  have HU3 := Lib.hid (HU1.out.trans_ext hu3)
  have hb3 := hu3.at HB1.out (by simp)
  have HB3 := Lib.hid hb3
  obtain ⟨y0, y1, y2, y3, y4, y5⟩ := cells6 hb3
  clear hu3 hb3
  go_wp2_with fail
  go_loopw [6] (fun i wr => ∃ j : Nat, j ≤ nms.length ∧ i = .int .i64 j ∧ Hid (Upto [] w3 wr)) (fun i _ => nms.length - (intOf i).toNat)
  case atStart => exact ⟨0, by omega, rfl, Lib.hid (Upto.refl _ _)⟩
  case round =>
    clear y0 y1 y2 y3 y4 y5
    obtain ⟨j, hj, rfl, HU⟩ := hrel
    have hj0 : (0 : Int) ≤ j := by omega
    have hb := HU.out.at HB3.out (by simp)
    have HB := Lib.hid hb
    obtain ⟨y0, y1, y2, y3, y4, y5⟩ := cells6 hb
    have HW := Lib.hid (HU3.out.trans_ext HU.out)
    rcases Nat.lt_or_ge j nms.length with hlt | hge
    · have hltI : (j : Int) < nms.length := by omega
      obtain ⟨x, hx⟩ : ∃ x, nms[j]? = some x := ⟨_, List.getElem?_eq_getElem hlt⟩
      have hxl := HIN.out.2.1 x (List.mem_of_getElem? hx)
      obtain ⟨g, o, rfl, c0⟩ := HN.out j x hx
      replace c0 := up_cell HW.out c0
      have HC := Lib.hid (isName_calls x wr (by omega))
      have hb2 : nameF x = true := List.all_eq_true.1 HAL.out x (List.mem_of_getElem? hx)
      rw [hb2] at HC
      clear hx hb hb2
      go_wp2_with fail
      refine HC.out.mono ?_
      rintro e w5 ⟨rfl, hu5⟩
      have HU5 := Lib.hid (HU.out.trans_ext hu5)
      clear hu5
      go_wp2_with fail
      go_roundw
      case rel => first | exact ⟨j + 1, by omega, by go_num, HU5⟩ | exact ⟨_, _, _, _, _, _, _, _, _, _, _, _, _, _, _, _, ⟨j + 1, by omega, by go_num, HU5⟩, rfl⟩
      case measure => simp [intOf]; omega
    · have hgeI : ¬ (j : Int) < nms.length := by omega
      clear hb q0 q1 q2 hs0 hs1 ha0 hb0 hc0 ha1 hb1 hc1 HH HAL HN
      go_wp2_with fail
      go_ret
      exact ⟨rfl, HW.out⟩
set_option maxRecDepth 100000 in
set_option maxHeartbeats 12800000 in
theorem form_8g (k : Nat) (nn mm : Int) (nms : List (List UInt8)) (l : List Nd) (hk : sizesF l ≤ k) (hin : inN 10000000 (.mk 8 nms 0 nn mm l)) (hk7 : k + 1 ≤ 10000000) (v : Value) (w : World) (P : Nat → Prop) (h : NdV w P (.mk 8 nms 0 nn mm l) v) (hk0 : ¬ (8 : Int) < 0) (hk1 : ¬ (17 : Int) < 8) (hsb : shapeBad 8 nms.length l.length = false) (hall : nms.all nameF = true) (h1 : ¬ mm < 1) (h2 : ¬ 64 < mm) (h3 : ¬ nn < 0) (h4 : ¬ mm ≤ nn) (IH : ∀ (nd : Nd), sizeF nd ≤ k → inN 10000000 nd → ∀ (v : Value) (w : World) (P : Nat → Prop), NdV w P nd v → Calls Tryz.prog 53 #[v] w fun e w' => e = .returned (.int .i64 (formF nameF nd : Nat)) ∧ Upto [] w w') : Calls Tryz.prog 53 #[v] w fun e w' => e = .returned (.int .i64 ((formsF nameF l : Nat) : Int)) ∧ Upto [] w w' := by
  obtain ⟨a1, c1, a2, c2, rfl, hs, hg⟩ := h.open
  unfold inN at hin
  have HG := Lib.hid hg
  obtain ⟨a1', c1', ev, hnm⟩ := hs.get
  obtain ⟨rfl, rfl⟩ : a1 = a1' ∧ c1 = c1' := by simpa using ev
  have HN : Hid (∀ i x, nms[i]? = some x → ∃ g o, a1 = some ⟨g, o, none⟩ ∧ w.cell? ⟨g, o + i, none⟩ = some (.string ⟨x.toArray⟩)) := Lib.hid (fun i x hi => hnm i _ (by rw [List.getElem?_map, hi]; rfl))
  have HSZ := Lib.hid hk
  have HIN := Lib.hid hin
  have HAL := Lib.hid hall
  have hu1 : Upto [] w (w.alloc (.cells #[.int .i64 8, .slice a1 nms.length c1, .int .i64 0, .int .i64 nn, .int .i64 mm, .slice a2 l.length c2] 25)) := (Upto.refl [] w).alloc _
  have HB1 := Lib.hid (new_at w (.cells #[.int .i64 8, .slice a1 nms.length c1, .int .i64 0, .int .i64 nn, .int .i64 mm, .slice a2 l.length c2] 25))
  have HU1 := Lib.hid hu1
  have hll := hin.2.2.1
  have hnl := hin.1
  have hL0 : (0 : Int) ≤ l.length := by omega
  have hL1 : (l.length : Int) ≤ 10000000 := by omega
  have hN0 : (0 : Int) ≤ nms.length := by omega
  have hN1 : (nms.length : Int) ≤ 10000000 := by omega
  have HH := Lib.hid (has_calls 8)
  obtain ⟨a, b, c, habc, ha17, hb17, hc17⟩ : ∃ a b c : Nat, hasF 8 = (a, b, c) ∧ a ≤ 17 ∧ b ≤ 17 ∧ c ≤ 17 := by
    unfold hasF
    repeat' split
    all_goals exact ⟨_, _, _, rfl, by decide, by decide, by decide⟩
  rw [habc] at HH
  simp only at HH
  obtain ⟨hs0, hs1, hs2⟩ : ¬ nms.length < a ∧ ¬ b < nms.length ∧ l.length = c := by
    unfold shapeBad at hsb
    rw [habc] at hsb
    simp at hsb
    omega
  have ha0 : (0 : Int) ≤ a := by omega
  have hb0 : (0 : Int) ≤ b := by omega
  have hc0 : (0 : Int) ≤ c := by omega
  have ha1 : (a : Int) ≤ 17 := by omega
  have hb1 : (b : Int) ≤ 17 := by omega
  have hc1 : (c : Int) ≤ 17 := by omega
  have q0 : ¬ (nms.length : Int) < a := by omega
  have q1 : ¬ (b : Int) < nms.length := by omega
  have q2 : ((l.length : Int) != (c : Int)) = false := by rw [hs2]; simp
  clear habc hsb hall h hs hg hk hu1 hnm ev hin hs2
  go_enter Tryz.func53, Tryz.ntmps53
  go_wp2_with fail
  refine (HH.out (w.alloc (.cells #[.int .i64 8, .slice a1 nms.length c1, .int .i64 0, .int .i64 nn, .int .i64 mm, .slice a2 l.length c2] 25))).mono ?_
  rintro e w3 ⟨rfl, hu3⟩
  have HU3 := Lib.hid (HU1.out.trans_ext hu3)
  have hb3 := hu3.at HB1.out (by simp)
  have HB3 := Lib.hid hb3
  obtain ⟨y0, y1, y2, y3, y4, y5⟩ := cells6 hb3
  clear hu3 hb3
  go_wp2_with fail
  go_loopw [6] (fun i wr => ∃ j : Nat, j ≤ nms.length ∧ i = .int .i64 j ∧ Hid (Upto [] w3 wr)) (fun i _ => nms.length - (intOf i).toNat)
  case atStart => exact ⟨0, by omega, rfl, Lib.hid (Upto.refl _ _)⟩
  case round =>
    clear y0 y1 y2 y3 y4 y5
    obtain ⟨j, hj, rfl, HU⟩ := hrel
    have hj0 : (0 : Int) ≤ j := by omega
    have hb := HU.out.at HB3.out (by simp)
    have HB := Lib.hid hb
    obtain ⟨y0, y1, y2, y3, y4, y5⟩ := cells6 hb
    have HW := Lib.hid (HU3.out.trans_ext HU.out)
    rcases Nat.lt_or_ge j nms.length with hlt | hge
    · have hltI : (j : Int) < nms.length := by omega
      obtain ⟨x, hx⟩ : ∃ x, nms[j]? = some x := ⟨_, List.getElem?_eq_getElem hlt⟩
      have hxl := HIN.out.2.1 x (List.mem_of_getElem? hx)
      obtain ⟨g, o, rfl, c0⟩ := HN.out j x hx
      replace c0 := up_cell HW.out c0
      have HC := Lib.hid (isName_calls x wr (by omega))
      have hb2 : nameF x = true := List.all_eq_true.1 HAL.out x (List.mem_of_getElem? hx)
      rw [hb2] at HC
      clear hx hb hb2
      go_wp2_with fail
      refine HC.out.mono ?_
      rintro e w5 ⟨rfl, hu5⟩
      have HU5 := Lib.hid (HU.out.trans_ext hu5)
      clear hu5
      go_wp2_with fail
      go_roundw
      case rel => first | exact ⟨j + 1, by omega, by go_num, HU5⟩ | exact ⟨_, _, _, _, _, _, _, _, _, _, _, _, _, _, _, _, ⟨j + 1, by omega, by go_num, HU5⟩, rfl⟩
      case measure => simp [intOf]; omega
    · have hgeI : ¬ (j : Int) < nms.length := by omega
      clear hb q0 q1 q2 hs0 hs1 ha0 hb0 hc0 ha1 hb1 hc1 HH HAL HN
      go_wp2_with fail
      go_loopw [7] (fun i wx => ∃ m : Nat, m ≤ l.length ∧ i = .int .i64 m ∧ Hid (formsF nameF (l.drop m) = formsF nameF l) ∧ Hid (Upto [] wr wx)) (fun i _ => l.length - (intOf i).toNat)
      case atStart => exact ⟨0, by omega, rfl, Lib.hid rfl, Lib.hid (Upto.refl _ _)⟩
      case round =>
        clear y0 y1 y2 y3 y4 y5
        obtain ⟨m, hm, rfl, HB9, HV⟩ := hrel
        have hm0 : (0 : Int) ≤ m := by omega
        have hb := HV.out.at HB.out (by simp)
        have y5 := cell_of hb 5
        simp only [List.getElem?_toArray, List.getElem?_cons_zero, List.getElem?_cons_succ] at y5
        have HW2 := Lib.hid (HW.out.trans_ext HV.out)
        rcases Nat.lt_or_ge m l.length with hlt | hge2
        · have hltI : (m : Int) < l.length := by omega
          obtain ⟨x, hx⟩ : ∃ x, l[m]? = some x := ⟨_, List.getElem?_eq_getElem hlt⟩
          have HDR : Hid (l.drop m = x :: l.drop (m + 1)) := Lib.hid (by
            obtain ⟨hi, h3⟩ := List.getElem?_eq_some_iff.1 hx
            rw [List.drop_eq_getElem_cons hi, h3])
          obtain ⟨g, o, xo, xn1, xn2, xn3, xs, xm, xq, xl1, xl2, xl3, rfl, d0, d1, d2, d3, d4, d5, hnx⟩ := HG.out m x hx
          replace d0 := up_cell HW2.out d0
          replace d1 := up_cell HW2.out d1
          replace d2 := up_cell HW2.out d2
          replace d3 := up_cell HW2.out d3
          replace d4 := up_cell HW2.out d4
          replace d5 := up_cell HW2.out d5
          have HC := Lib.hid (IH x (by have := HSZ.out; have := sizesF_mem (List.mem_of_getElem? hx); omega) (insN_mem HIN.out.2.2.2 (List.mem_of_getElem? hx)) _ wr P (hnx.ext HW2.out))
          by_cases hz : formF nameF x = 0
          · have HA2 : Hid (formsF nameF (l.drop (m + 1)) = formsF nameF l) := Lib.hid (by
              rw [← HB9.out, HDR.out]
              conv => rhs; unfold formsF
              rw [hz]
              rfl)
            rw [hz] at HC
            clear hx hb hz hnx
            go_wp2_with fail
            refine HC.out.mono ?_
            rintro e w5 ⟨rfl, hu5⟩
            have HU5 := Lib.hid (HV.out.trans_ext hu5)
            clear hu5
            go_wp2_with fail
            go_roundw
            case rel => first | exact ⟨m + 1, by omega, by go_num, HA2, HU5⟩ | exact ⟨_, _, _, _, _, _, _, _, _, _, _, _, _, _, _, _, _, _, _, ⟨m + 1, by omega, by go_num, HA2, HU5⟩, rfl⟩
            case measure => simp [intOf]; omega
          · have HF : Hid (formsF nameF l = formF nameF x) := Lib.hid (by
              rw [← HB9.out, HDR.out]
              unfold formsF
              rw [if_pos hz])
            generalize hfx : formF nameF x = fx at *
            have ez : ((fx : Int) == 0) = false := by rw [beq_eq_false_iff_ne]; omega
            have ez2 : ((fx : Int) != 0) = true := by rw [bne, ez]; rfl
            clear hx hb hz hnx hfx
            go_wp2_with fail
            refine HC.out.mono ?_
            rintro e w5 ⟨rfl, hu5⟩
            have HU5 := Lib.hid (HW2.out.trans_ext hu5)
            clear hu5
            go_wp2_with fail
            go_ret
            rw [HF.out]
            exact ⟨rfl, HU5.out⟩
        · have hgeJ : ¬ (m : Int) < l.length := by omega
          have HF : Hid (formsF nameF l = 0) := Lib.hid (by
            rw [← HB9.out, List.drop_of_length_le (by omega)]
            rfl)
          clear hb
          go_wp2_with fail
          go_ret
          rw [HF.out]
          exact ⟨rfl, HW2.out⟩
set_option maxRecDepth 100000 in
set_option maxHeartbeats 12800000 in
theorem form_oa (k : Nat) (op so nn mm : Int) (nms : List (List UInt8)) (l : List Nd) (hk : sizesF l ≤ k) (hin : inN 10000000 (.mk op nms so nn mm l)) (hk7 : k + 1 ≤ 10000000) (v : Value) (w : World) (P : Nat → Prop) (h : NdV w P (.mk op nms so nn mm l) v) (hk0 : ¬ (op : Int) < 0) (hk1 : ¬ (17 : Int) < op) (hsb : shapeBad op nms.length l.length = false) (hall : nms.all nameF = true) (o7 : op ≠ 7) (o8 : op ≠ 8) (o16 : op < 16) (hz : nn ≠ 0) : Calls Tryz.prog 53 #[v] w fun e w' => e = .returned (.int .i64 ((3 : Nat) : Int)) ∧ Upto [] w w' := by
  obtain ⟨a1, c1, a2, c2, rfl, hs, hg⟩ := h.open
  unfold inN at hin
  have HG := Lib.hid hg
  obtain ⟨a1', c1', ev, hnm⟩ := hs.get
  obtain ⟨rfl, rfl⟩ : a1 = a1' ∧ c1 = c1' := by simpa using ev
  have HN : Hid (∀ i x, nms[i]? = some x → ∃ g o, a1 = some ⟨g, o, none⟩ ∧ w.cell? ⟨g, o + i, none⟩ = some (.string ⟨x.toArray⟩)) := Lib.hid (fun i x hi => hnm i _ (by rw [List.getElem?_map, hi]; rfl))
  have HSZ := Lib.hid hk
  have HIN := Lib.hid hin
  have HAL := Lib.hid hall
  have hu1 : Upto [] w (w.alloc (.cells #[.int .i64 op, .slice a1 nms.length c1, .int .i64 so, .int .i64 nn, .int .i64 mm, .slice a2 l.length c2] 25)) := (Upto.refl [] w).alloc _
  have HB1 := Lib.hid (new_at w (.cells #[.int .i64 op, .slice a1 nms.length c1, .int .i64 so, .int .i64 nn, .int .i64 mm, .slice a2 l.length c2] 25))
  have HU1 := Lib.hid hu1
  have hll := hin.2.2.1
  have hnl := hin.1
  have hL0 : (0 : Int) ≤ l.length := by omega
  have hL1 : (l.length : Int) ≤ 10000000 := by omega
  have hN0 : (0 : Int) ≤ nms.length := by omega
  have hN1 : (nms.length : Int) ≤ 10000000 := by omega
  have HH := Lib.hid (has_calls op)
  obtain ⟨a, b, c, habc, ha17, hb17, hc17⟩ : ∃ a b c : Nat, hasF op = (a, b, c) ∧ a ≤ 17 ∧ b ≤ 17 ∧ c ≤ 17 := by
    unfold hasF
    repeat' split
    all_goals exact ⟨_, _, _, rfl, by decide, by decide, by decide⟩
  rw [habc] at HH
  simp only at HH
  obtain ⟨hs0, hs1, hs2⟩ : ¬ nms.length < a ∧ ¬ b < nms.length ∧ l.length = c := by
    unfold shapeBad at hsb
    rw [habc] at hsb
    simp at hsb
    omega
  have ha0 : (0 : Int) ≤ a := by omega
  have hb0 : (0 : Int) ≤ b := by omega
  have hc0 : (0 : Int) ≤ c := by omega
  have ha1 : (a : Int) ≤ 17 := by omega
  have hb1 : (b : Int) ≤ 17 := by omega
  have hc1 : (c : Int) ≤ 17 := by omega
  have q0 : ¬ (nms.length : Int) < a := by omega
  have q1 : ¬ (b : Int) < nms.length := by omega
  have q2 : ((l.length : Int) != (c : Int)) = false := by rw [hs2]; simp
  clear habc hsb hall h hs hg hk hu1 hnm ev hin hs2
  go_enter Tryz.func53, Tryz.ntmps53
  go_wp2_with fail
  refine (HH.out (w.alloc (.cells #[.int .i64 op, .slice a1 nms.length c1, .int .i64 so, .int .i64 nn, .int .i64 mm, .slice a2 l.length c2] 25))).mono ?_
  rintro e w3 ⟨rfl, hu3⟩
  have HU3 := Lib.hid (HU1.out.trans_ext hu3)
  have hb3 := hu3.at HB1.out (by simp)
  have HB3 := Lib.hid hb3
  obtain ⟨y0, y1, y2, y3, y4, y5⟩ := cells6 hb3
  clear hu3 hb3
  go_wp2_with fail
  go_loopw [6] (fun i wr => ∃ j : Nat, j ≤ nms.length ∧ i = .int .i64 j ∧ Hid (Upto [] w3 wr)) (fun i _ => nms.length - (intOf i).toNat)
  case atStart => exact ⟨0, by omega, rfl, Lib.hid (Upto.refl _ _)⟩
  case round =>
    clear y0 y1 y2 y3 y4 y5
    obtain ⟨j, hj, rfl, HU⟩ := hrel
    have hj0 : (0 : Int) ≤ j := by omega
    have hb := HU.out.at HB3.out (by simp)
    have HB := Lib.hid hb
    obtain ⟨y0, y1, y2, y3, y4, y5⟩ := cells6 hb
    have HW := Lib.hid (HU3.out.trans_ext HU.out)
    rcases Nat.lt_or_ge j nms.length with hlt | hge
    · have hltI : (j : Int) < nms.length := by omega
      obtain ⟨x, hx⟩ : ∃ x, nms[j]? = some x := ⟨_, List.getElem?_eq_getElem hlt⟩
      have hxl := HIN.out.2.1 x (List.mem_of_getElem? hx)
      obtain ⟨g, o, rfl, c0⟩ := HN.out j x hx
      replace c0 := up_cell HW.out c0
      have HC := Lib.hid (isName_calls x wr (by omega))
      have hb2 : nameF x = true := List.all_eq_true.1 HAL.out x (List.mem_of_getElem? hx)
      rw [hb2] at HC
      clear hx hb hb2
      go_wp2_with fail
      refine HC.out.mono ?_
      rintro e w5 ⟨rfl, hu5⟩
      have HU5 := Lib.hid (HU.out.trans_ext hu5)
      clear hu5
      go_wp2_with fail
      go_roundw
      case rel => first | exact ⟨j + 1, by omega, by go_num, HU5⟩ | exact ⟨_, _, _, _, _, _, _, _, _, _, _, _, _, _, _, _, ⟨j + 1, by omega, by go_num, HU5⟩, rfl⟩
      case measure => simp [intOf]; omega
    · have hgeI : ¬ (j : Int) < nms.length := by omega
      clear hb q0 q1 q2 hs0 hs1 ha0 hb0 hc0 ha1 hb1 hc1 HH HAL HN
      have eop7 : (op == (7 : Int)) = false := by rw [beq_eq_false_iff_ne]; omega
      have fop7 : (op != (7 : Int)) = true := by rw [bne, eop7]; rfl
      have eop8 : (op == (8 : Int)) = false := by rw [beq_eq_false_iff_ne]; omega
      have fop8 : (op != (8 : Int)) = true := by rw [bne, eop8]; rfl
      have enn0 : (nn == (0 : Int)) = false := by rw [beq_eq_false_iff_ne]; exact hz
      have fnn0 : (nn != (0 : Int)) = true := by rw [bne, enn0]; rfl
      go_wp2_with fail
      go_ret
      exact ⟨rfl, HW.out⟩
set_option maxRecDepth 100000 in
set_option maxHeartbeats 12800000 in
theorem form_ob (k : Nat) (op so mm : Int) (nms : List (List UInt8)) (l : List Nd) (hk : sizesF l ≤ k) (hin : inN 10000000 (.mk op nms so 0 mm l)) (hk7 : k + 1 ≤ 10000000) (v : Value) (w : World) (P : Nat → Prop) (h : NdV w P (.mk op nms so 0 mm l) v) (hk0 : ¬ (op : Int) < 0) (hk1 : ¬ (17 : Int) < op) (hsb : shapeBad op nms.length l.length = false) (hall : nms.all nameF = true) (o7 : op ≠ 7) (o8 : op ≠ 8) (o16 : op < 16) (hz : mm ≠ 0) : Calls Tryz.prog 53 #[v] w fun e w' => e = .returned (.int .i64 ((3 : Nat) : Int)) ∧ Upto [] w w' := by
  obtain ⟨a1, c1, a2, c2, rfl, hs, hg⟩ := h.open
  unfold inN at hin
  have HG := Lib.hid hg
  obtain ⟨a1', c1', ev, hnm⟩ := hs.get
  obtain ⟨rfl, rfl⟩ : a1 = a1' ∧ c1 = c1' := by simpa using ev
  have HN : Hid (∀ i x, nms[i]? = some x → ∃ g o, a1 = some ⟨g, o, none⟩ ∧ w.cell? ⟨g, o + i, none⟩ = some (.string ⟨x.toArray⟩)) := Lib.hid (fun i x hi => hnm i _ (by rw [List.getElem?_map, hi]; rfl))
  have HSZ := Lib.hid hk
  have HIN := Lib.hid hin
  have HAL := Lib.hid hall
  have hu1 : Upto [] w (w.alloc (.cells #[.int .i64 op, .slice a1 nms.length c1, .int .i64 so, .int .i64 0, .int .i64 mm, .slice a2 l.length c2] 25)) := (Upto.refl [] w).alloc _
  have HB1 := Lib.hid (new_at w (.cells #[.int .i64 op, .slice a1 nms.length c1, .int .i64 so, .int .i64 0, .int .i64 mm, .slice a2 l.length c2] 25))
  have HU1 := Lib.hid hu1
  have hll := hin.2.2.1
  have hnl := hin.1
  have hL0 : (0 : Int) ≤ l.length := by omega
  have hL1 : (l.length : Int) ≤ 10000000 := by omega
  have hN0 : (0 : Int) ≤ nms.length := by omega
  have hN1 : (nms.length : Int) ≤ 10000000 := by omega
  have HH := Lib.hid (has_calls op)
  obtain ⟨a, b, c, habc, ha17, hb17, hc17⟩ : ∃ a b c : Nat, hasF op = (a, b, c) ∧ a ≤ 17 ∧ b ≤ 17 ∧ c ≤ 17 := by
    unfold hasF
    repeat' split
    all_goals exact ⟨_, _, _, rfl, by decide, by decide, by decide⟩
  rw [habc] at HH
  simp only at HH
  obtain ⟨hs0, hs1, hs2⟩ : ¬ nms.length < a ∧ ¬ b < nms.length ∧ l.length = c := by
    unfold shapeBad at hsb
    rw [habc] at hsb
    simp at hsb
    omega
  have ha0 : (0 : Int) ≤ a := by omega
  have hb0 : (0 : Int) ≤ b := by omega
  have hc0 : (0 : Int) ≤ c := by omega
  have ha1 : (a : Int) ≤ 17 := by omega
  have hb1 : (b : Int) ≤ 17 := by omega
  have hc1 : (c : Int) ≤ 17 := by omega
  have q0 : ¬ (nms.length : Int) < a := by omega
  have q1 : ¬ (b : Int) < nms.length := by omega
  have q2 : ((l.length : Int) != (c : Int)) = false := by rw [hs2]; simp
  clear habc hsb hall h hs hg hk hu1 hnm ev hin hs2
  go_enter Tryz.func53, Tryz.ntmps53
  go_wp2_with fail
  refine (HH.out (w.alloc (.cells #[.int .i64 op, .slice a1 nms.length c1, .int .i64 so, .int .i64 0, .int .i64 mm, .slice a2 l.length c2] 25))).mono ?_
  rintro e w3 ⟨rfl, hu3⟩
  have HU3 := Lib.hid (HU1.out.trans_ext hu3)
  have hb3 := hu3.at HB1.out (by simp)
  have HB3 := Lib.hid hb3
  obtain ⟨y0, y1, y2, y3, y4, y5⟩ := cells6 hb3
  clear hu3 hb3
  go_wp2_with fail
  go_loopw [6] (fun i wr => ∃ j : Nat, j ≤ nms.length ∧ i = .int .i64 j ∧ Hid (Upto [] w3 wr)) (fun i _ => nms.length - (intOf i).toNat)
  case atStart => exact ⟨0, by omega, rfl, Lib.hid (Upto.refl _ _)⟩
  case round =>
    clear y0 y1 y2 y3 y4 y5
    obtain ⟨j, hj, rfl, HU⟩ := hrel
    have hj0 : (0 : Int) ≤ j := by omega
    have hb := HU.out.at HB3.out (by simp)
    have HB := Lib.hid hb
    obtain ⟨y0, y1, y2, y3, y4, y5⟩ := cells6 hb
    have HW := Lib.hid (HU3.out.trans_ext HU.out)
    rcases Nat.lt_or_ge j nms.length with hlt | hge
    · have hltI : (j : Int) < nms.length := by omega
      obtain ⟨x, hx⟩ : ∃ x, nms[j]? = some x := ⟨_, List.getElem?_eq_getElem hlt⟩
      have hxl := HIN.out.2.1 x (List.mem_of_getElem? hx)
      obtain ⟨g, o, rfl, c0⟩ := HN.out j x hx
      replace c0 := up_cell HW.out c0
      have HC := Lib.hid (isName_calls x wr (by omega))
      have hb2 : nameF x = true := List.all_eq_true.1 HAL.out x (List.mem_of_getElem? hx)
      rw [hb2] at HC
      clear hx hb hb2
      go_wp2_with fail
      refine HC.out.mono ?_
      rintro e w5 ⟨rfl, hu5⟩
      have HU5 := Lib.hid (HU.out.trans_ext hu5)
      clear hu5
      go_wp2_with fail
      go_roundw
      case rel => first | exact ⟨j + 1, by omega, by go_num, HU5⟩ | exact ⟨_, _, _, _, _, _, _, _, _, _, _, _, _, _, _, _, ⟨j + 1, by omega, by go_num, HU5⟩, rfl⟩
      case measure => simp [intOf]; omega
    · have hgeI : ¬ (j : Int) < nms.length := by omega
      clear hb q0 q1 q2 hs0 hs1 ha0 hb0 hc0 ha1 hb1 hc1 HH HAL HN
      have eop7 : (op == (7 : Int)) = false := by rw [beq_eq_false_iff_ne]; omega
      have fop7 : (op != (7 : Int)) = true := by rw [bne, eop7]; rfl
      have eop8 : (op == (8 : Int)) = false := by rw [beq_eq_false_iff_ne]; omega
      have fop8 : (op != (8 : Int)) = true := by rw [bne, eop8]; rfl
      have emm0 : (mm == (0 : Int)) = false := by rw [beq_eq_false_iff_ne]; exact hz
      have fmm0 : (mm != (0 : Int)) = true := by rw [bne, emm0]; rfl
      go_wp2_with fail
      go_ret
      exact ⟨rfl, HW.out⟩
set_option maxRecDepth 100000 in
set_option maxHeartbeats 12800000 in
theorem form_ha (k : Nat) (op so nn mm : Int) (nms : List (List UInt8)) (l : List Nd) (hk : sizesF l ≤ k) (hin : inN 10000000 (.mk op nms so nn mm l)) (hk7 : k + 1 ≤ 10000000) (v : Value) (w : World) (P : Nat → Prop) (h : NdV w P (.mk op nms so nn mm l) v) (hk0 : ¬ (op : Int) < 0) (hk1 : ¬ (17 : Int) < op) (hsb : shapeBad op nms.length l.length = false) (hall : nms.all nameF = true) (o7 : op ≠ 7) (o8 : op ≠ 8) (o16 : ¬ op < 16) (hz : nn ≠ 0) : Calls Tryz.prog 53 #[v] w fun e w' => e = .returned (.int .i64 ((3 : Nat) : Int)) ∧ Upto [] w w' := by
  obtain ⟨a1, c1, a2, c2, rfl, hs, hg⟩ := h.open
  unfold inN at hin
  have HG := Lib.hid hg
  obtain ⟨a1', c1', ev, hnm⟩ := hs.get
  obtain ⟨rfl, rfl⟩ : a1 = a1' ∧ c1 = c1' := by simpa using ev
  have HN : Hid (∀ i x, nms[i]? = some x → ∃ g o, a1 = some ⟨g, o, none⟩ ∧ w.cell? ⟨g, o + i, none⟩ = some (.string ⟨x.toArray⟩)) := Lib.hid (fun i x hi => hnm i _ (by rw [List.getElem?_map, hi]; rfl))
  have HSZ := Lib.hid hk
  have HIN := Lib.hid hin
  have HAL := Lib.hid hall
  have hu1 : Upto [] w (w.alloc (.cells #[.int .i64 op, .slice a1 nms.length c1, .int .i64 so, .int .i64 nn, .int .i64 mm, .slice a2 l.length c2] 25)) := (Upto.refl [] w).alloc _
  have HB1 := Lib.hid (new_at w (.cells #[.int .i64 op, .slice a1 nms.length c1, .int .i64 so, .int .i64 nn, .int .i64 mm, .slice a2 l.length c2] 25))
  have HU1 := Lib.hid hu1
  have hll := hin.2.2.1
  have hnl := hin.1
  have hL0 : (0 : Int) ≤ l.length := by omega
  have hL1 : (l.length : Int) ≤ 10000000 := by omega
  have hN0 : (0 : Int) ≤ nms.length := by omega
  have hN1 : (nms.length : Int) ≤ 10000000 := by omega
  have HH := Lib.hid (has_calls op)
  obtain ⟨a, b, c, habc, ha17, hb17, hc17⟩ : ∃ a b c : Nat, hasF op = (a, b, c) ∧ a ≤ 17 ∧ b ≤ 17 ∧ c ≤ 17 := by
    unfold hasF
    repeat' split
    all_goals exact ⟨_, _, _, rfl, by decide, by decide, by decide⟩
  rw [habc] at HH
  simp only at HH
  obtain ⟨hs0, hs1, hs2⟩ : ¬ nms.length < a ∧ ¬ b < nms.length ∧ l.length = c := by
    unfold shapeBad at hsb
    rw [habc] at hsb
    simp at hsb
    omega
  have ha0 : (0 : Int) ≤ a := by omega
  have hb0 : (0 : Int) ≤ b := by omega
  have hc0 : (0 : Int) ≤ c := by omega
  have ha1 : (a : Int) ≤ 17 := by omega
  have hb1 : (b : Int) ≤ 17 := by omega
  have hc1 : (c : Int) ≤ 17 := by omega
  have q0 : ¬ (nms.length : Int) < a := by omega
  have q1 : ¬ (b : Int) < nms.length := by omega
  have q2 : ((l.length : Int) != (c : Int)) = false := by rw [hs2]; simp
  clear habc hsb hall h hs hg hk hu1 hnm ev hin hs2
  go_enter Tryz.func53, Tryz.ntmps53
  go_wp2_with fail
  refine (HH.out (w.alloc (.cells #[.int .i64 op, .slice a1 nms.length c1, .int .i64 so, .int .i64 nn, .int .i64 mm, .slice a2 l.length c2] 25))).mono ?_
  rintro e w3 ⟨rfl, hu3⟩
  have HU3 := Lib.hid (HU1.out.trans_ext hu3)
  have hb3 := hu3.at HB1.out (by simp)
  have HB3 := Lib.hid hb3
  obtain ⟨y0, y1, y2, y3, y4, y5⟩ := cells6 hb3
  clear hu3 hb3
  go_wp2_with fail
  go_loopw [6] (fun i wr => ∃ j : Nat, j ≤ nms.length ∧ i = .int .i64 j ∧ Hid (Upto [] w3 wr)) (fun i _ => nms.length - (intOf i).toNat)
  case atStart => exact ⟨0, by omega, rfl, Lib.hid (Upto.refl _ _)⟩
  case round =>
    clear y0 y1 y2 y3 y4 y5
    obtain ⟨j, hj, rfl, HU⟩ := hrel
    have hj0 : (0 : Int) ≤ j := by omega
    have hb := HU.out.at HB3.out (by simp)
    have HB := Lib.hid hb
    obtain ⟨y0, y1, y2, y3, y4, y5⟩ := cells6 hb
    have HW := Lib.hid (HU3.out.trans_ext HU.out)
    rcases Nat.lt_or_ge j nms.length with hlt | hge
    · have hltI : (j : Int) < nms.length := by omega
      obtain ⟨x, hx⟩ : ∃ x, nms[j]? = some x := ⟨_, List.getElem?_eq_getElem hlt⟩
      have hxl := HIN.out.2.1 x (List.mem_of_getElem? hx)
      obtain ⟨g, o, rfl, c0⟩ := HN.out j x hx
      replace c0 := up_cell HW.out c0
      have HC := Lib.hid (isName_calls x wr (by omega))
      have hb2 : nameF x = true := List.all_eq_true.1 HAL.out x (List.mem_of_getElem? hx)
      rw [hb2] at HC
      clear hx hb hb2
      go_wp2_with fail
      refine HC.out.mono ?_
      rintro e w5 ⟨rfl, hu5⟩
      have HU5 := Lib.hid (HU.out.trans_ext hu5)
      clear hu5
      go_wp2_with fail
      go_roundw
      case rel => first | exact ⟨j + 1, by omega, by go_num, HU5⟩ | exact ⟨_, _, _, _, _, _, _, _, _, _, _, _, _, _, _, _, ⟨j + 1, by omega, by go_num, HU5⟩, rfl⟩
      case measure => simp [intOf]; omega
    · have hgeI : ¬ (j : Int) < nms.length := by omega
      clear hb q0 q1 q2 hs0 hs1 ha0 hb0 hc0 ha1 hb1 hc1 HH HAL HN
      have eop7 : (op == (7 : Int)) = false := by rw [beq_eq_false_iff_ne]; omega
      have fop7 : (op != (7 : Int)) = true := by rw [bne, eop7]; rfl
      have eop8 : (op == (8 : Int)) = false := by rw [beq_eq_false_iff_ne]; omega
      have fop8 : (op != (8 : Int)) = true := by rw [bne, eop8]; rfl
      have enn0 : (nn == (0 : Int)) = false := by rw [beq_eq_false_iff_ne]; exact hz
      have fnn0 : (nn != (0 : Int)) = true := by rw [bne, enn0]; rfl
      go_wp2_with fail
      go_ret
      exact ⟨rfl, HW.out⟩
set_option maxRecDepth 100000 in
set_option maxHeartbeats 12800000 in
theorem form_hb (k : Nat) (op so mm : Int) (nms : List (List UInt8)) (l : List Nd) (hk : sizesF l ≤ k) (hin : inN 10000000 (.mk op nms so 0 mm l)) (hk7 : k + 1 ≤ 10000000) (v : Value) (w : World) (P : Nat → Prop) (h : NdV w P (.mk op nms so 0 mm l) v) (hk0 : ¬ (op : Int) < 0) (hk1 : ¬ (17 : Int) < op) (hsb : shapeBad op nms.length l.length = false) (hall : nms.all nameF = true) (o7 : op ≠ 7) (o8 : op ≠ 8) (o16 : ¬ op < 16) (hz : mm ≠ 0) : Calls Tryz.prog 53 #[v] w fun e w' => e = .returned (.int .i64 ((3 : Nat) : Int)) ∧ Upto [] w w' := by
  obtain ⟨a1, c1, a2, c2, rfl, hs, hg⟩ := h.open
  unfold inN at hin
  have HG := Lib.hid hg
  obtain ⟨a1', c1', ev, hnm⟩ := hs.get
  obtain ⟨rfl, rfl⟩ : a1 = a1' ∧ c1 = c1' := by simpa using ev
  have HN : Hid (∀ i x, nms[i]? = some x → ∃ g o, a1 = some ⟨g, o, none⟩ ∧ w.cell? ⟨g, o + i, none⟩ = some (.string ⟨x.toArray⟩)) := Lib.hid (fun i x hi => hnm i _ (by rw [List.getElem?_map, hi]; rfl))
  have HSZ := Lib.hid hk
  have HIN := Lib.hid hin
  have HAL := Lib.hid hall
  have hu1 : Upto [] w (w.alloc (.cells #[.int .i64 op, .slice a1 nms.length c1, .int .i64 so, .int .i64 0, .int .i64 mm, .slice a2 l.length c2] 25)) := (Upto.refl [] w).alloc _
  have HB1 := Lib.hid (new_at w (.cells #[.int .i64 op, .slice a1 nms.length c1, .int .i64 so, .int .i64 0, .int .i64 mm, .slice a2 l.length c2] 25))
  have HU1 := Lib.hid hu1
  have hll := hin.2.2.1
  have hnl := hin.1
  have hL0 : (0 : Int) ≤ l.length := by omega
  have hL1 : (l.length : Int) ≤ 10000000 := by omega
  have hN0 : (0 : Int) ≤ nms.length := by omega
  have hN1 : (nms.length : Int) ≤ 10000000 := by omega
  have HH := Lib.hid (has_calls op)
  obtain ⟨a, b, c, habc, ha17, hb17, hc17⟩ : ∃ a b c : Nat, hasF op = (a, b, c) ∧ a ≤ 17 ∧ b ≤ 17 ∧ c ≤ 17 := by
    unfold hasF
    repeat' split
    all_goals exact ⟨_, _, _, rfl, by decide, by decide, by decide⟩
  rw [habc] at HH
  simp only at HH
  obtain ⟨hs0, hs1, hs2⟩ : ¬ nms.length < a ∧ ¬ b < nms.length ∧ l.length = c := by
    unfold shapeBad at hsb
    rw [habc] at hsb
    simp at hsb
    omega
  have ha0 : (0 : Int) ≤ a := by omega
  have hb0 : (0 : Int) ≤ b := by omega
  have hc0 : (0 : Int) ≤ c := by omega
  have ha1 : (a : Int) ≤ 17 := by omega
  have hb1 : (b : Int) ≤ 17 := by omega
  have hc1 : (c : Int) ≤ 17 := by omega
  have q0 : ¬ (nms.length : Int) < a := by omega
  have q1 : ¬ (b : Int) < nms.length := by omega
  have q2 : ((l.length : Int) != (c : Int)) = false := by rw [hs2]; simp
  clear habc hsb hall h hs hg hk hu1 hnm ev hin hs2
  go_enter Tryz.func53, Tryz.ntmps53
  go_wp2_with fail
  refine (HH.out (w.alloc (.cells #[.int .i64 op, .slice a1 nms.length c1, .int .i64 so, .int .i64 0, .int .i64 mm, .slice a2 l.length c2] 25))).mono ?_
  rintro e w3 ⟨rfl, hu3⟩
  have HU3 := Lib.hid (HU1.out.trans_ext hu3)
  have hb3 := hu3.at HB1.out (by simp)
  have HB3 := Lib.hid hb3
  obtain ⟨y0, y1, y2, y3, y4, y5⟩ := cells6 hb3
  clear hu3 hb3
  go_wp2_with fail
  go_loopw [6] (fun i wr => ∃ j : Nat, j ≤ nms.length ∧ i = .int .i64 j ∧ Hid (Upto [] w3 wr)) (fun i _ => nms.length - (intOf i).toNat)
  case atStart => exact ⟨0, by omega, rfl, Lib.hid (Upto.refl _ _)⟩
  case round =>
    clear y0 y1 y2 y3 y4 y5
    obtain ⟨j, hj, rfl, HU⟩ := hrel
    have hj0 : (0 : Int) ≤ j := by omega
    have hb := HU.out.at HB3.out (by simp)
    have HB := Lib.hid hb
    obtain ⟨y0, y1, y2, y3, y4, y5⟩ := cells6 hb
    have HW := Lib.hid (HU3.out.trans_ext HU.out)
    rcases Nat.lt_or_ge j nms.length with hlt | hge
    · have hltI : (j : Int) < nms.length := by omega
      obtain ⟨x, hx⟩ : ∃ x, nms[j]? = some x := ⟨_, List.getElem?_eq_getElem hlt⟩
      have hxl := HIN.out.2.1 x (List.mem_of_getElem? hx)
      obtain ⟨g, o, rfl, c0⟩ := HN.out j x hx
      replace c0 := up_cell HW.out c0
      have HC := Lib.hid (isName_calls x wr (by omega))
      have hb2 : nameF x = true := List.all_eq_true.1 HAL.out x (List.mem_of_getElem? hx)
      rw [hb2] at HC
      clear hx hb hb2
      go_wp2_with fail
      refine HC.out.mono ?_
      rintro e w5 ⟨rfl, hu5⟩
      have HU5 := Lib.hid (HU.out.trans_ext hu5)
      clear hu5
      go_wp2_with fail
      go_roundw
      case rel => first | exact ⟨j + 1, by omega, by go_num, HU5⟩ | exact ⟨_, _, _, _, _, _, _, _, _, _, _, _, _, _, _, _, ⟨j + 1, by omega, by go_num, HU5⟩, rfl⟩
      case measure => simp [intOf]; omega
    · have hgeI : ¬ (j : Int) < nms.length := by omega
      clear hb q0 q1 q2 hs0 hs1 ha0 hb0 hc0 ha1 hb1 hc1 HH HAL HN
      have eop7 : (op == (7 : Int)) = false := by rw [beq_eq_false_iff_ne]; omega
      have fop7 : (op != (7 : Int)) = true := by rw [bne, eop7]; rfl
      have eop8 : (op == (8 : Int)) = false := by rw [beq_eq_false_iff_ne]; omega
      have fop8 : (op != (8 : Int)) = true := by rw [bne, eop8]; rfl
      have emm0 : (mm == (0 : Int)) = false := by rw [beq_eq_false_iff_ne]; exact hz
      have fmm0 : (mm != (0 : Int)) = true := by rw [bne, emm0]; rfl
      go_wp2_with fail
      go_ret
      exact ⟨rfl, HW.out⟩
set_option maxRecDepth 100000 in
set_option maxHeartbeats 12800000 in
theorem form_oc (k : Nat) (op so : Int) (nms : List (List UInt8)) (l : List Nd) (hk : sizesF l ≤ k) (hin : inN 10000000 (.mk op nms so 0 0 l)) (hk7 : k + 1 ≤ 10000000) (v : Value) (w : World) (P : Nat → Prop) (h : NdV w P (.mk op nms so 0 0 l) v) (hk0 : ¬ (op : Int) < 0) (hk1 : ¬ (17 : Int) < op) (hsb : shapeBad op nms.length l.length = false) (hall : nms.all nameF = true) (o7 : op ≠ 7) (o8 : op ≠ 8) (o16 : op < 16) (hz : so ≠ 0) : Calls Tryz.prog 53 #[v] w fun e w' => e = .returned (.int .i64 ((3 : Nat) : Int)) ∧ Upto [] w w' := by
  obtain ⟨a1, c1, a2, c2, rfl, hs, hg⟩ := h.open
  unfold inN at hin
  have HG := Lib.hid hg
  obtain ⟨a1', c1', ev, hnm⟩ := hs.get
  obtain ⟨rfl, rfl⟩ : a1 = a1' ∧ c1 = c1' := by simpa using ev
  have HN : Hid (∀ i x, nms[i]? = some x → ∃ g o, a1 = some ⟨g, o, none⟩ ∧ w.cell? ⟨g, o + i, none⟩ = some (.string ⟨x.toArray⟩)) := Lib.hid (fun i x hi => hnm i _ (by rw [List.getElem?_map, hi]; rfl))
  have HSZ := Lib.hid hk
  have HIN := Lib.hid hin
  have HAL := Lib.hid hall
  have hu1 : Upto [] w (w.alloc (.cells #[.int .i64 op, .slice a1 nms.length c1, .int .i64 so, .int .i64 0, .int .i64 0, .slice a2 l.length c2] 25)) := (Upto.refl [] w).alloc _
  have HB1 := Lib.hid (new_at w (.cells #[.int .i64 op, .slice a1 nms.length c1, .int .i64 so, .int .i64 0, .int .i64 0, .slice a2 l.length c2] 25))
  have HU1 := Lib.hid hu1
  have hll := hin.2.2.1
  have hnl := hin.1
  have hL0 : (0 : Int) ≤ l.length := by omega
  have hL1 : (l.length : Int) ≤ 10000000 := by omega
  have hN0 : (0 : Int) ≤ nms.length := by omega
  have hN1 : (nms.length : Int) ≤ 10000000 := by omega
  have HH := Lib.hid (has_calls op)
  obtain ⟨a, b, c, habc, ha17, hb17, hc17⟩ : ∃ a b c : Nat, hasF op = (a, b, c) ∧ a ≤ 17 ∧ b ≤ 17 ∧ c ≤ 17 := by
    unfold hasF
    repeat' split
    all_goals exact ⟨_, _, _, rfl, by decide, by decide, by decide⟩
  rw [habc] at HH
  simp only at HH
  obtain ⟨hs0, hs1, hs2⟩ : ¬ nms.length < a ∧ ¬ b < nms.length ∧ l.length = c := by
    unfold shapeBad at hsb
    rw [habc] at hsb
    simp at hsb
    omega
  have ha0 : (0 : Int) ≤ a := by omega
  have hb0 : (0 : Int) ≤ b := by omega
  have hc0 : (0 : Int) ≤ c := by omega
  have ha1 : (a : Int) ≤ 17 := by omega
  have hb1 : (b : Int) ≤ 17 := by omega
  have hc1 : (c : Int) ≤ 17 := by omega
  have q0 : ¬ (nms.length : Int) < a := by omega
  have q1 : ¬ (b : Int) < nms.length := by omega
  have q2 : ((l.length : Int) != (c : Int)) = false := by rw [hs2]; simp
  clear habc hsb hall h hs hg hk hu1 hnm ev hin hs2
  go_enter Tryz.func53, Tryz.ntmps53
  go_wp2_with fail
  refine (HH.out (w.alloc (.cells #[.int .i64 op, .slice a1 nms.length c1, .int .i64 so, .int .i64 0, .int .i64 0, .slice a2 l.length c2] 25))).mono ?_
  rintro e w3 ⟨rfl, hu3⟩
  have HU3 := Lib.hid (HU1.out.trans_ext hu3)
  have hb3 := hu3.at HB1.out (by simp)
  have HB3 := Lib.hid hb3
  obtain ⟨y0, y1, y2, y3, y4, y5⟩ := cells6 hb3
  clear hu3 hb3
  go_wp2_with fail
  go_loopw [6] (fun i wr => ∃ j : Nat, j ≤ nms.length ∧ i = .int .i64 j ∧ Hid (Upto [] w3 wr)) (fun i _ => nms.length - (intOf i).toNat)
  case atStart => exact ⟨0, by omega, rfl, Lib.hid (Upto.refl _ _)⟩
  case round =>
    clear y0 y1 y2 y3 y4 y5
    obtain ⟨j, hj, rfl, HU⟩ := hrel
    have hj0 : (0 : Int) ≤ j := by omega
    have hb := HU.out.at HB3.out (by simp)
    have HB := Lib.hid hb
    obtain ⟨y0, y1, y2, y3, y4, y5⟩ := cells6 hb
    have HW := Lib.hid (HU3.out.trans_ext HU.out)
    rcases Nat.lt_or_ge j nms.length with hlt | hge
    · have hltI : (j : Int) < nms.length := by omega
      obtain ⟨x, hx⟩ : ∃ x, nms[j]? = some x := ⟨_, List.getElem?_eq_getElem hlt⟩
      have hxl := HIN.out.2.1 x (List.mem_of_getElem? hx)
      obtain ⟨g, o, rfl, c0⟩ := HN.out j x hx
      replace c0 := up_cell HW.out c0
      have HC := Lib.hid (isName_calls x wr (by omega))
      have hb2 : nameF x = true := List.all_eq_true.1 HAL.out x (List.mem_of_getElem? hx)
      rw [hb2] at HC
      clear hx hb hb2
      go_wp2_with fail
      refine HC.out.mono ?_
      rintro e w5 ⟨rfl, hu5⟩
      have HU5 := Lib.hid (HU.out.trans_ext hu5)
      clear hu5
      go_wp2_with fail
      go_roundw
      case rel => first | exact ⟨j + 1, by omega, by go_num, HU5⟩ | exact ⟨_, _, _, _, _, _, _, _, _, _, _, _, _, _, _, _, ⟨j + 1, by omega, by go_num, HU5⟩, rfl⟩
      case measure => simp [intOf]; omega
    · have hgeI : ¬ (j : Int) < nms.length := by omega
      clear hb q0 q1 q2 hs0 hs1 ha0 hb0 hc0 ha1 hb1 hc1 HH HAL HN
      have eop7 : (op == (7 : Int)) = false := by rw [beq_eq_false_iff_ne]; omega
      have fop7 : (op != (7 : Int)) = true := by rw [bne, eop7]; rfl
      have eop8 : (op == (8 : Int)) = false := by rw [beq_eq_false_iff_ne]; omega
      have fop8 : (op != (8 : Int)) = true := by rw [bne, eop8]; rfl
      have eso0 : (so == (0 : Int)) = false := by rw [beq_eq_false_iff_ne]; exact hz
      have fso0 : (so != (0 : Int)) = true := by rw [bne, eso0]; rfl
      go_wp2_with fail
      go_ret
      exact ⟨rfl, HW.out⟩
set_option maxRecDepth 100000 in
set_option maxHeartbeats 12800000 in
theorem form_og (k : Nat) (op : Int) (nms : List (List UInt8)) (l : List Nd) (hk : sizesF l ≤ k) (hin : inN 10000000 (.mk op nms 0 0 0 l)) (hk7 : k + 1 ≤ 10000000) (v : Value) (w : World) (P : Nat → Prop) (h : NdV w P (.mk op nms 0 0 0 l) v) (hk0 : ¬ (op : Int) < 0) (hk1 : ¬ (17 : Int) < op) (hsb : shapeBad op nms.length l.length = false) (hall : nms.all nameF = true) (o7 : op ≠ 7) (o8 : op ≠ 8) (o16 : op < 16) (IH : ∀ (nd : Nd), sizeF nd ≤ k → inN 10000000 nd → ∀ (v : Value) (w : World) (P : Nat → Prop), NdV w P nd v → Calls Tryz.prog 53 #[v] w fun e w' => e = .returned (.int .i64 (formF nameF nd : Nat)) ∧ Upto [] w w') : Calls Tryz.prog 53 #[v] w fun e w' => e = .returned (.int .i64 ((formsF nameF l : Nat) : Int)) ∧ Upto [] w w' := by
  obtain ⟨a1, c1, a2, c2, rfl, hs, hg⟩ := h.open
  unfold inN at hin
  have HG := Lib.hid hg
  obtain ⟨a1', c1', ev, hnm⟩ := hs.get
  obtain ⟨rfl, rfl⟩ : a1 = a1' ∧ c1 = c1' := by simpa using ev
  have HN : Hid (∀ i x, nms[i]? = some x → ∃ g o, a1 = some ⟨g, o, none⟩ ∧ w.cell? ⟨g, o + i, none⟩ = some (.string ⟨x.toArray⟩)) := Lib.hid (fun i x hi => hnm i _ (by rw [List.getElem?_map, hi]; rfl))
  have HSZ := Lib.hid hk
  have HIN := Lib.hid hin
  have HAL := Lib.hid hall
  have hu1 : Upto [] w (w.alloc (.cells #[.int .i64 op, .slice a1 nms.length c1, .int .i64 0, .int .i64 0, .int .i64 0, .slice a2 l.length c2] 25)) := (Upto.refl [] w).alloc _
  have HB1 := Lib.hid (new_at w (.cells #[.int .i64 op, .slice a1 nms.length c1, .int .i64 0, .int .i64 0, .int .i64 0, .slice a2 l.length c2] 25))
  have HU1 := Lib.hid hu1
  have hll := hin.2.2.1
  have hnl := hin.1
  have hL0 : (0 : Int) ≤ l.length := by omega
  have hL1 : (l.length : Int) ≤ 10000000 := by omega
  have hN0 : (0 : Int) ≤ nms.length := by omega
  have hN1 : (nms.length : Int) ≤ 10000000 := by omega
  have HH := Lib.hid (has_calls op)
  obtain ⟨a, b, c, habc, ha17, hb17, hc17⟩ : ∃ a b c : Nat, hasF op = (a, b, c) ∧ a ≤ 17 ∧ b ≤ 17 ∧ c ≤ 17 := by
    unfold hasF
    repeat' split
    all_goals exact ⟨_, _, _, rfl, by decide, by decide, by decide⟩
  rw [habc] at HH
  simp only at HH
  obtain ⟨hs0, hs1, hs2⟩ : ¬ nms.length < a ∧ ¬ b < nms.length ∧ l.length = c := by
    unfold shapeBad at hsb
    rw [habc] at hsb
    simp at hsb
    omega
  have ha0 : (0 : Int) ≤ a := by omega
  have hb0 : (0 : Int) ≤ b := by omega
  have hc0 : (0 : Int) ≤ c := by omega
  have ha1 : (a : Int) ≤ 17 := by omega
  have hb1 : (b : Int) ≤ 17 := by omega
  have hc1 : (c : Int) ≤ 17 := by omega
  have q0 : ¬ (nms.length : Int) < a := by omega
  have q1 : ¬ (b : Int) < nms.length := by omega
  have q2 : ((l.length : Int) != (c : Int)) = false := by rw [hs2]; simp
  clear habc hsb hall h hs hg hk hu1 hnm ev hin hs2
  go_enter Tryz.func53, Tryz.ntmps53
  go_wp2_with fail
  refine (HH.out (w.alloc (.cells #[.int .i64 op, .slice a1 nms.length c1, .int .i64 0, .int .i64 0, .int .i64 0, .slice a2 l.length c2] 25))).mono ?_
  rintro e w3 ⟨rfl, hu3⟩
  have HU3 := Lib.hid (HU1.out.trans_ext hu3)
  have hb3 := hu3.at HB1.out (by simp)
  have HB3 := Lib.hid hb3
  obtain ⟨y0, y1, y2, y3, y4, y5⟩ := cells6 hb3
  clear hu3 hb3
  go_wp2_with fail
  go_loopw [6] (fun i wr => ∃ j : Nat, j ≤ nms.length ∧ i = .int .i64 j ∧ Hid (Upto [] w3 wr)) (fun i _ => nms.length - (intOf i).toNat)
  case atStart => exact ⟨0, by omega, rfl, Lib.hid (Upto.refl _ _)⟩
  case round =>
    clear y0 y1 y2 y3 y4 y5
    obtain ⟨j, hj, rfl, HU⟩ := hrel
    have hj0 : (0 : Int) ≤ j := by omega
    have hb := HU.out.at HB3.out (by simp)
    have HB := Lib.hid hb
    obtain ⟨y0, y1, y2, y3, y4, y5⟩ := cells6 hb
    have HW := Lib.hid (HU3.out.trans_ext HU.out)
    rcases Nat.lt_or_ge j nms.length with hlt | hge
    · have hltI : (j : Int) < nms.length := by omega
      obtain ⟨x, hx⟩ : ∃ x, nms[j]? = some x := ⟨_, List.getElem?_eq_getElem hlt⟩
      have hxl := HIN.out.2.1 x (List.mem_of_getElem? hx)
      obtain ⟨g, o, rfl, c0⟩ := HN.out j x hx
      replace c0 := up_cell HW.out c0
      have HC := Lib.hid (isName_calls x wr (by omega))
      have hb2 : nameF x = true := List.all_eq_true.1 HAL.out x (List.mem_of_getElem? hx)
      rw [hb2] at HC
      clear hx hb hb2
      go_wp2_with fail
      refine HC.out.mono ?_
      rintro e w5 ⟨rfl, hu5⟩
      have HU5 := Lib.hid (HU.out.trans_ext hu5)
      clear hu5
      go_wp2_with fail
      go_roundw
      case rel => first | exact ⟨j + 1, by omega, by go_num, HU5⟩ | exact ⟨_, _, _, _, _, _, _, _, _, _, _, _, _, _, _, _, ⟨j + 1, by omega, by go_num, HU5⟩, rfl⟩
      case measure => simp [intOf]; omega
    · have hgeI : ¬ (j : Int) < nms.length := by omega
      clear hb q0 q1 q2 hs0 hs1 ha0 hb0 hc0 ha1 hb1 hc1 HH HAL HN
      have eop7 : (op == (7 : Int)) = false := by rw [beq_eq_false_iff_ne]; omega
      have fop7 : (op != (7 : Int)) = true := by rw [bne, eop7]; rfl
      have eop8 : (op == (8 : Int)) = false := by rw [beq_eq_false_iff_ne]; omega
      have fop8 : (op != (8 : Int)) = true := by rw [bne, eop8]; rfl
      go_wp2_with fail
      go_loopw [7] (fun i wx => ∃ m : Nat, m ≤ l.length ∧ i = .int .i64 m ∧ Hid (formsF nameF (l.drop m) = formsF nameF l) ∧ Hid (Upto [] wr wx)) (fun i _ => l.length - (intOf i).toNat)
      case atStart => exact ⟨0, by omega, rfl, Lib.hid rfl, Lib.hid (Upto.refl _ _)⟩
      case round =>
        clear y0 y1 y2 y3 y4 y5
        obtain ⟨m, hm, rfl, HB9, HV⟩ := hrel
        have hm0 : (0 : Int) ≤ m := by omega
        have hb := HV.out.at HB.out (by simp)
        have y5 := cell_of hb 5
        simp only [List.getElem?_toArray, List.getElem?_cons_zero, List.getElem?_cons_succ] at y5
        have HW2 := Lib.hid (HW.out.trans_ext HV.out)
        rcases Nat.lt_or_ge m l.length with hlt | hge2
        · have hltI : (m : Int) < l.length := by omega
          obtain ⟨x, hx⟩ : ∃ x, l[m]? = some x := ⟨_, List.getElem?_eq_getElem hlt⟩
          have HDR : Hid (l.drop m = x :: l.drop (m + 1)) := Lib.hid (by
            obtain ⟨hi, h3⟩ := List.getElem?_eq_some_iff.1 hx
            rw [List.drop_eq_getElem_cons hi, h3])
          obtain ⟨g, o, xo, xn1, xn2, xn3, xs, xm, xq, xl1, xl2, xl3, rfl, d0, d1, d2, d3, d4, d5, hnx⟩ := HG.out m x hx
          replace d0 := up_cell HW2.out d0
          replace d1 := up_cell HW2.out d1
          replace d2 := up_cell HW2.out d2
          replace d3 := up_cell HW2.out d3
          replace d4 := up_cell HW2.out d4
          replace d5 := up_cell HW2.out d5
          have HC := Lib.hid (IH x (by have := HSZ.out; have := sizesF_mem (List.mem_of_getElem? hx); omega) (insN_mem HIN.out.2.2.2 (List.mem_of_getElem? hx)) _ wr P (hnx.ext HW2.out))
          by_cases hz : formF nameF x = 0
          · have HA2 : Hid (formsF nameF (l.drop (m + 1)) = formsF nameF l) := Lib.hid (by
              rw [← HB9.out, HDR.out]
              conv => rhs; unfold formsF
              rw [hz]
              rfl)
            rw [hz] at HC
            clear hx hb hz hnx
            go_wp2_with fail
            refine HC.out.mono ?_
            rintro e w5 ⟨rfl, hu5⟩
            have HU5 := Lib.hid (HV.out.trans_ext hu5)
            clear hu5
            go_wp2_with fail
            go_roundw
            case rel => first | exact ⟨m + 1, by omega, by go_num, HA2, HU5⟩ | exact ⟨_, _, _, _, _, _, _, _, _, _, _, _, _, _, _, _, _, _, _, ⟨m + 1, by omega, by go_num, HA2, HU5⟩, rfl⟩
            case measure => simp [intOf]; omega
          · have HF : Hid (formsF nameF l = formF nameF x) := Lib.hid (by
              rw [← HB9.out, HDR.out]
              unfold formsF
              rw [if_pos hz])
            generalize hfx : formF nameF x = fx at *
            have ez : ((fx : Int) == 0) = false := by rw [beq_eq_false_iff_ne]; omega
            have ez2 : ((fx : Int) != 0) = true := by rw [bne, ez]; rfl
            clear hx hb hz hnx hfx
            go_wp2_with fail
            refine HC.out.mono ?_
            rintro e w5 ⟨rfl, hu5⟩
            have HU5 := Lib.hid (HW2.out.trans_ext hu5)
            clear hu5
            go_wp2_with fail
            go_ret
            rw [HF.out]
            exact ⟨rfl, HU5.out⟩
        · have hgeJ : ¬ (m : Int) < l.length := by omega
          have HF : Hid (formsF nameF l = 0) := Lib.hid (by
            rw [← HB9.out, List.drop_of_length_le (by omega)]
            rfl)
          clear hb
          go_wp2_with fail
          go_ret
          rw [HF.out]
          exact ⟨rfl, HW2.out⟩
set_option maxRecDepth 100000 in
set_option maxHeartbeats 12800000 in
theorem form_hc (k : Nat) (op so : Int) (nms : List (List UInt8)) (l : List Nd) (hk : sizesF l ≤ k) (hin : inN 10000000 (.mk op nms so 0 0 l)) (hk7 : k + 1 ≤ 10000000) (v : Value) (w : World) (P : Nat → Prop) (h : NdV w P (.mk op nms so 0 0 l) v) (hk0 : ¬ (op : Int) < 0) (hk1 : ¬ (17 : Int) < op) (hsb : shapeBad op nms.length l.length = false) (hall : nms.all nameF = true) (o7 : op ≠ 7) (o8 : op ≠ 8) (o16 : ¬ op < 16) (hz : so < 0) : Calls Tryz.prog 53 #[v] w fun e w' => e = .returned (.int .i64 ((2 : Nat) : Int)) ∧ Upto [] w w' := by
  obtain ⟨a1, c1, a2, c2, rfl, hs, hg⟩ := h.open
  unfold inN at hin
  have HG := Lib.hid hg
  obtain ⟨a1', c1', ev, hnm⟩ := hs.get
  obtain ⟨rfl, rfl⟩ : a1 = a1' ∧ c1 = c1' := by simpa using ev
  have HN : Hid (∀ i x, nms[i]? = some x → ∃ g o, a1 = some ⟨g, o, none⟩ ∧ w.cell? ⟨g, o + i, none⟩ = some (.string ⟨x.toArray⟩)) := Lib.hid (fun i x hi => hnm i _ (by rw [List.getElem?_map, hi]; rfl))
  have HSZ := Lib.hid hk
  have HIN := Lib.hid hin
  have HAL := Lib.hid hall
  have hu1 : Upto [] w (w.alloc (.cells #[.int .i64 op, .slice a1 nms.length c1, .int .i64 so, .int .i64 0, .int .i64 0, .slice a2 l.length c2] 25)) := (Upto.refl [] w).alloc _
  have HB1 := Lib.hid (new_at w (.cells #[.int .i64 op, .slice a1 nms.length c1, .int .i64 so, .int .i64 0, .int .i64 0, .slice a2 l.length c2] 25))
  have HU1 := Lib.hid hu1
  have hll := hin.2.2.1
  have hnl := hin.1
  have hL0 : (0 : Int) ≤ l.length := by omega
  have hL1 : (l.length : Int) ≤ 10000000 := by omega
  have hN0 : (0 : Int) ≤ nms.length := by omega
  have hN1 : (nms.length : Int) ≤ 10000000 := by omega
  have HH := Lib.hid (has_calls op)
  obtain ⟨a, b, c, habc, ha17, hb17, hc17⟩ : ∃ a b c : Nat, hasF op = (a, b, c) ∧ a ≤ 17 ∧ b ≤ 17 ∧ c ≤ 17 := by
    unfold hasF
    repeat' split
    all_goals exact ⟨_, _, _, rfl, by decide, by decide, by decide⟩
  rw [habc] at HH
  simp only at HH
  obtain ⟨hs0, hs1, hs2⟩ : ¬ nms.length < a ∧ ¬ b < nms.length ∧ l.length = c := by
    unfold shapeBad at hsb
    rw [habc] at hsb
    simp at hsb
    omega
  have ha0 : (0 : Int) ≤ a := by omega
  have hb0 : (0 : Int) ≤ b := by omega
  have hc0 : (0 : Int) ≤ c := by omega
  have ha1 : (a : Int) ≤ 17 := by omega
  have hb1 : (b : Int) ≤ 17 := by omega
  have hc1 : (c : Int) ≤ 17 := by omega
  have q0 : ¬ (nms.length : Int) < a := by omega
  have q1 : ¬ (b : Int) < nms.length := by omega
  have q2 : ((l.length : Int) != (c : Int)) = false := by rw [hs2]; simp
  clear habc hsb hall h hs hg hk hu1 hnm ev hin hs2
  go_enter Tryz.func53, Tryz.ntmps53
  go_wp2_with fail
  refine (HH.out (w.alloc (.cells #[.int .i64 op, .slice a1 nms.length c1, .int .i64 so, .int .i64 0, .int .i64 0, .slice a2 l.length c2] 25))).mono ?_
  rintro e w3 ⟨rfl, hu3⟩
  have HU3 := Lib.hid (HU1.out.trans_ext hu3)
  have hb3 := hu3.at HB1.out (by simp)
  have HB3 := Lib.hid hb3
  obtain ⟨y0, y1, y2, y3, y4, y5⟩ := cells6 hb3
  clear hu3 hb3
  go_wp2_with fail
  go_loopw [6] (fun i wr => ∃ j : Nat, j ≤ nms.length ∧ i = .int .i64 j ∧ Hid (Upto [] w3 wr)) (fun i _ => nms.length - (intOf i).toNat)
  case atStart => exact ⟨0, by omega, rfl, Lib.hid (Upto.refl _ _)⟩
  case round =>
    clear y0 y1 y2 y3 y4 y5
    obtain ⟨j, hj, rfl, HU⟩ := hrel
    have hj0 : (0 : Int) ≤ j := by omega
    have hb := HU.out.at HB3.out (by simp)
    have HB := Lib.hid hb
    obtain ⟨y0, y1, y2, y3, y4, y5⟩ := cells6 hb
    have HW := Lib.hid (HU3.out.trans_ext HU.out)
    rcases Nat.lt_or_ge j nms.length with hlt | hge
    · have hltI : (j : Int) < nms.length := by omega
      obtain ⟨x, hx⟩ : ∃ x, nms[j]? = some x := ⟨_, List.getElem?_eq_getElem hlt⟩
      have hxl := HIN.out.2.1 x (List.mem_of_getElem? hx)
      obtain ⟨g, o, rfl, c0⟩ := HN.out j x hx
      replace c0 := up_cell HW.out c0
      have HC := Lib.hid (isName_calls x wr (by omega))
      have hb2 : nameF x = true := List.all_eq_true.1 HAL.out x (List.mem_of_getElem? hx)
      rw [hb2] at HC
      clear hx hb hb2
      go_wp2_with fail
      refine HC.out.mono ?_
      rintro e w5 ⟨rfl, hu5⟩
      have HU5 := Lib.hid (HU.out.trans_ext hu5)
      clear hu5
      go_wp2_with fail
      go_roundw
      case rel => first | exact ⟨j + 1, by omega, by go_num, HU5⟩ | exact ⟨_, _, _, _, _, _, _, _, _, _, _, _, _, _, _, _, ⟨j + 1, by omega, by go_num, HU5⟩, rfl⟩
      case measure => simp [intOf]; omega
    · have hgeI : ¬ (j : Int) < nms.length := by omega
      clear hb q0 q1 q2 hs0 hs1 ha0 hb0 hc0 ha1 hb1 hc1 HH HAL HN
      have eop7 : (op == (7 : Int)) = false := by rw [beq_eq_false_iff_ne]; omega
      have fop7 : (op != (7 : Int)) = true := by rw [bne, eop7]; rfl
      have eop8 : (op == (8 : Int)) = false := by rw [beq_eq_false_iff_ne]; omega
      have fop8 : (op != (8 : Int)) = true := by rw [bne, eop8]; rfl
      go_wp2_with fail
      go_ret
      exact ⟨rfl, HW.out⟩
set_option maxRecDepth 100000 in
set_option maxHeartbeats 12800000 in
theorem form_hd (k : Nat) (op so : Int) (nms : List (List UInt8)) (l : List Nd) (hk : sizesF l ≤ k) (hin : inN 10000000 (.mk op nms so 0 0 l)) (hk7 : k + 1 ≤ 10000000) (v : Value) (w : World) (P : Nat → Prop) (h : NdV w P (.mk op nms so 0 0 l) v) (hk0 : ¬ (op : Int) < 0) (hk1 : ¬ (17 : Int) < op) (hsb : shapeBad op nms.length l.length = false) (hall : nms.all nameF = true) (o7 : op ≠ 7) (o8 : op ≠ 8) (o16 : ¬ op < 16) (h1 : ¬ so < 0) (hz : 3 < so) : Calls Tryz.prog 53 #[v] w fun e w' => e = .returned (.int .i64 ((2 : Nat) : Int)) ∧ Upto [] w w' := by
  obtain ⟨a1, c1, a2, c2, rfl, hs, hg⟩ := h.open
  unfold inN at hin
  have HG := Lib.hid hg
  obtain ⟨a1', c1', ev, hnm⟩ := hs.get
  obtain ⟨rfl, rfl⟩ : a1 = a1' ∧ c1 = c1' := by simpa using ev
  have HN : Hid (∀ i x, nms[i]? = some x → ∃ g o, a1 = some ⟨g, o, none⟩ ∧ w.cell? ⟨g, o + i, none⟩ = some (.string ⟨x.toArray⟩)) := Lib.hid (fun i x hi => hnm i _ (by rw [List.getElem?_map, hi]; rfl))
  have HSZ := Lib.hid hk
  have HIN := Lib.hid hin
  have HAL := Lib.hid hall
  have hu1 : Upto [] w (w.alloc (.cells #[.int .i64 op, .slice a1 nms.length c1, .int .i64 so, .int .i64 0, .int .i64 0, .slice a2 l.length c2] 25)) := (Upto.refl [] w).alloc _
  have HB1 := Lib.hid (new_at w (.cells #[.int .i64 op, .slice a1 nms.length c1, .int .i64 so, .int .i64 0, .int .i64 0, .slice a2 l.length c2] 25))
  have HU1 := Lib.hid hu1
  have hll := hin.2.2.1
  have hnl := hin.1
  have hL0 : (0 : Int) ≤ l.length := by omega
  have hL1 : (l.length : Int) ≤ 10000000 := by omega
  have hN0 : (0 : Int) ≤ nms.length := by omega
  have hN1 : (nms.length : Int) ≤ 10000000 := by omega
  have HH := Lib.hid (has_calls op)
  obtain ⟨a, b, c, habc, ha17, hb17, hc17⟩ : ∃ a b c : Nat, hasF op = (a, b, c) ∧ a ≤ 17 ∧ b ≤ 17 ∧ c ≤ 17 := by
    unfold hasF
    repeat' split
    all_goals exact ⟨_, _, _, rfl, by decide, by decide, by decide⟩
  rw [habc] at HH
  simp only at HH
  obtain ⟨hs0, hs1, hs2⟩ : ¬ nms.length < a ∧ ¬ b < nms.length ∧ l.length = c := by
    unfold shapeBad at hsb
    rw [habc] at hsb
    simp at hsb
    omega
  have ha0 : (0 : Int) ≤ a := by omega
  have hb0 : (0 : Int) ≤ b := by omega
  have hc0 : (0 : Int) ≤ c := by omega
  have ha1 : (a : Int) ≤ 17 := by omega
  have hb1 : (b : Int) ≤ 17 := by omega
  have hc1 : (c : Int) ≤ 17 := by omega
  have q0 : ¬ (nms.length : Int) < a := by omega
  have q1 : ¬ (b : Int) < nms.length := by omega
  have q2 : ((l.length : Int) != (c : Int)) = false := by rw [hs2]; simp
  clear habc hsb hall h hs hg hk hu1 hnm ev hin hs2
  go_enter Tryz.func53, Tryz.ntmps53
  go_wp2_with fail
  refine (HH.out (w.alloc (.cells #[.int .i64 op, .slice a1 nms.length c1, .int .i64 so, .int .i64 0, .int .i64 0, .slice a2 l.length c2] 25))).mono ?_
  rintro e w3 ⟨rfl, hu3⟩
  have HU3 := Lib.hid (HU1.out.trans_ext hu3)
  have hb3 := hu3.at HB1.out (by simp)
  have HB3 := Lib.hid hb3
  obtain ⟨y0, y1, y2, y3, y4, y5⟩ := cells6 hb3
  clear hu3 hb3
  go_wp2_with fail
  go_loopw [6] (fun i wr => ∃ j : Nat, j ≤ nms.length ∧ i = .int .i64 j ∧ Hid (Upto [] w3 wr)) (fun i _ => nms.length - (intOf i).toNat)
  case atStart => exact ⟨0, by omega, rfl, Lib.hid (Upto.refl _ _)⟩
  case round =>
    clear y0 y1 y2 y3 y4 y5
    obtain ⟨j, hj, rfl, HU⟩ := hrel
    have hj0 : (0 : Int) ≤ j := by omega
    have hb := HU.out.at HB3.out (by simp)
    have HB := Lib.hid hb
    obtain ⟨y0, y1, y2, y3, y4, y5⟩ := cells6 hb
    have HW := Lib.hid (HU3.out.trans_ext HU.out)
    rcases Nat.lt_or_ge j nms.length with hlt | hge
    · have hltI : (j : Int) < nms.length := by omega
      obtain ⟨x, hx⟩ : ∃ x, nms[j]? = some x := ⟨_, List.getElem?_eq_getElem hlt⟩
      have hxl := HIN.out.2.1 x (List.mem_of_getElem? hx)
      obtain ⟨g, o, rfl, c0⟩ := HN.out j x hx
      replace c0 := up_cell HW.out c0
      have HC := Lib.hid (isName_calls x wr (by omega))
      have hb2 : nameF x = true := List.all_eq_true.1 HAL.out x (List.mem_of_getElem? hx)
      rw [hb2] at HC
      clear hx hb hb2
      go_wp2_with fail
      refine HC.out.mono ?_
      rintro e w5 ⟨rfl, hu5⟩
      have HU5 := Lib.hid (HU.out.trans_ext hu5)
      clear hu5
      go_wp2_with fail
      go_roundw
      case rel => first | exact ⟨j + 1, by omega, by go_num, HU5⟩ | exact ⟨_, _, _, _, _, _, _, _, _, _, _, _, _, _, _, _, ⟨j + 1, by omega, by go_num, HU5⟩, rfl⟩
      case measure => simp [intOf]; omega
    · have hgeI : ¬ (j : Int) < nms.length := by omega
      clear hb q0 q1 q2 hs0 hs1 ha0 hb0 hc0 ha1 hb1 hc1 HH HAL HN
      have eop7 : (op == (7 : Int)) = false := by rw [beq_eq_false_iff_ne]; omega
      have fop7 : (op != (7 : Int)) = true := by rw [bne, eop7]; rfl
      have eop8 : (op == (8 : Int)) = false := by rw [beq_eq_false_iff_ne]; omega
      have fop8 : (op != (8 : Int)) = true := by rw [bne, eop8]; rfl
      go_wp2_with fail
      go_ret
      exact ⟨rfl, HW.out⟩
set_option maxRecDepth 100000 in
set_option maxHeartbeats 12800000 in
theorem form_hg (k : Nat) (op so : Int) (nms : List (List UInt8)) (l : List Nd) (hk : sizesF l ≤ k) (hin : inN 10000000 (.mk op nms so 0 0 l)) (hk7 : k + 1 ≤ 10000000) (v : Value) (w : World) (P : Nat → Prop) (h : NdV w P (.mk op nms so 0 0 l) v) (hk0 : ¬ (op : Int) < 0) (hk1 : ¬ (17 : Int) < op) (hsb : shapeBad op nms.length l.length = false) (hall : nms.all nameF = true) (o7 : op ≠ 7) (o8 : op ≠ 8) (o16 : ¬ op < 16) (h1 : ¬ so < 0) (h2 : ¬ 3 < so) (IH : ∀ (nd : Nd), sizeF nd ≤ k → inN 10000000 nd → ∀ (v : Value) (w : World) (P : Nat → Prop), NdV w P nd v → Calls Tryz.prog 53 #[v] w fun e w' => e = .returned (.int .i64 (formF nameF nd : Nat)) ∧ Upto [] w w') : Calls Tryz.prog 53 #[v] w fun e w' => e = .returned (.int .i64 ((formsF nameF l : Nat) : Int)) ∧ Upto [] w w' := by
  obtain ⟨a1, c1, a2, c2, rfl, hs, hg⟩ := h.open
  unfold inN at hin
  have HG := Lib.hid hg
  obtain ⟨a1', c1', ev, hnm⟩ := hs.get
  obtain ⟨rfl, rfl⟩ : a1 = a1' ∧ c1 = c1' := by simpa using ev
  have HN : Hid (∀ i x, nms[i]? = some x → ∃ g o, a1 = some ⟨g, o, none⟩ ∧ w.cell? ⟨g, o + i, none⟩ = some (.string ⟨x.toArray⟩)) := Lib.hid (fun i x hi => hnm i _ (by rw [List.getElem?_map, hi]; rfl))
  have HSZ := Lib.hid hk
  have HIN := Lib.hid hin
  have HAL := Lib.hid hall
  have hu1 : Upto [] w (w.alloc (.cells #[.int .i64 op, .slice a1 nms.length c1, .int .i64 so, .int .i64 0, .int .i64 0, .slice a2 l.length c2] 25)) := (Upto.refl [] w).alloc _
  have HB1 := Lib.hid (new_at w (.cells #[.int .i64 op, .slice a1 nms.length c1, .int .i64 so, .int .i64 0, .int .i64 0, .slice a2 l.length c2] 25))
  have HU1 := Lib.hid hu1
  have hll := hin.2.2.1
  have hnl := hin.1
  have hL0 : (0 : Int) ≤ l.length := by omega
  have hL1 : (l.length : Int) ≤ 10000000 := by omega
  have hN0 : (0 : Int) ≤ nms.length := by omega
  have hN1 : (nms.length : Int) ≤ 10000000 := by omega
  have HH := Lib.hid (has_calls op)
  obtain ⟨a, b, c, habc, ha17, hb17, hc17⟩ : ∃ a b c : Nat, hasF op = (a, b, c) ∧ a ≤ 17 ∧ b ≤ 17 ∧ c ≤ 17 := by
    unfold hasF
    repeat' split
    all_goals exact ⟨_, _, _, rfl, by decide, by decide, by decide⟩
  rw [habc] at HH
  simp only at HH
  obtain ⟨hs0, hs1, hs2⟩ : ¬ nms.length < a ∧ ¬ b < nms.length ∧ l.length = c := by
    unfold shapeBad at hsb
    rw [habc] at hsb
    simp at hsb
    omega
  have ha0 : (0 : Int) ≤ a := by omega
  have hb0 : (0 : Int) ≤ b := by omega
  have hc0 : (0 : Int) ≤ c := by omega
  have ha1 : (a : Int) ≤ 17 := by omega
  have hb1 : (b : Int) ≤ 17 := by omega
  have hc1 : (c : Int) ≤ 17 := by omega
  have q0 : ¬ (nms.length : Int) < a := by omega
  have q1 : ¬ (b : Int) < nms.length := by omega
  have q2 : ((l.length : Int) != (c : Int)) = false := by rw [hs2]; simp
  clear habc hsb hall h hs hg hk hu1 hnm ev hin hs2
  go_enter Tryz.func53, Tryz.ntmps53
  go_wp2_with fail
  refine (HH.out (w.alloc (.cells #[.int .i64 op, .slice a1 nms.length c1, .int .i64 so, .int .i64 0, .int .i64 0, .slice a2 l.length c2] 25))).mono ?_
  rintro e w3 ⟨rfl, hu3⟩
  have HU3 := Lib.hid (HU1.out.trans_ext hu3)
  have hb3 := hu3.at HB1.out (by simp)
  have HB3 := Lib.hid hb3
  obtain ⟨y0, y1, y2, y3, y4, y5⟩ := cells6 hb3
  clear hu3 hb3
  go_wp2_with fail
  go_loopw [6] (fun i wr => ∃ j : Nat, j ≤ nms.length ∧ i = .int .i64 j ∧ Hid (Upto [] w3 wr)) (fun i _ => nms.length - (intOf i).toNat)
  case atStart => exact ⟨0, by omega, rfl, Lib.hid (Upto.refl _ _)⟩
  case round =>
    clear y0 y1 y2 y3 y4 y5
    obtain ⟨j, hj, rfl, HU⟩ := hrel
    have hj0 : (0 : Int) ≤ j := by omega
    have hb := HU.out.at HB3.out (by simp)
    have HB := Lib.hid hb
    obtain ⟨y0, y1, y2, y3, y4, y5⟩ := cells6 hb
    have HW := Lib.hid (HU3.out.trans_ext HU.out)
    rcases Nat.lt_or_ge j nms.length with hlt | hge
    · have hltI : (j : Int) < nms.length := by omega
      obtain ⟨x, hx⟩ : ∃ x, nms[j]? = some x := ⟨_, List.getElem?_eq_getElem hlt⟩
      have hxl := HIN.out.2.1 x (List.mem_of_getElem? hx)
      obtain ⟨g, o, rfl, c0⟩ := HN.out j x hx
      replace c0 := up_cell HW.out c0
      have HC := Lib.hid (isName_calls x wr (by omega))
      have hb2 : nameF x = true := List.all_eq_true.1 HAL.out x (List.mem_of_getElem? hx)
      rw [hb2] at HC
      clear hx hb hb2
      go_wp2_with fail
      refine HC.out.mono ?_
      rintro e w5 ⟨rfl, hu5⟩
      have HU5 := Lib.hid (HU.out.trans_ext hu5)
      clear hu5
      go_wp2_with fail
      go_roundw
      case rel => first | exact ⟨j + 1, by omega, by go_num, HU5⟩ | exact ⟨_, _, _, _, _, _, _, _, _, _, _, _, _, _, _, _, ⟨j + 1, by omega, by go_num, HU5⟩, rfl⟩
      case measure => simp [intOf]; omega
    · have hgeI : ¬ (j : Int) < nms.length := by omega
      clear hb q0 q1 q2 hs0 hs1 ha0 hb0 hc0 ha1 hb1 hc1 HH HAL HN
      have eop7 : (op == (7 : Int)) = false := by rw [beq_eq_false_iff_ne]; omega
      have fop7 : (op != (7 : Int)) = true := by rw [bne, eop7]; rfl
      have eop8 : (op == (8 : Int)) = false := by rw [beq_eq_false_iff_ne]; omega
      have fop8 : (op != (8 : Int)) = true := by rw [bne, eop8]; rfl
      go_wp2_with fail
      go_loopw [7] (fun i wx => ∃ m : Nat, m ≤ l.length ∧ i = .int .i64 m ∧ Hid (formsF nameF (l.drop m) = formsF nameF l) ∧ Hid (Upto [] wr wx)) (fun i _ => l.length - (intOf i).toNat)
      case atStart => exact ⟨0, by omega, rfl, Lib.hid rfl, Lib.hid (Upto.refl _ _)⟩
      case round =>
        clear y0 y1 y2 y3 y4 y5
        obtain ⟨m, hm, rfl, HB9, HV⟩ := hrel
        have hm0 : (0 : Int) ≤ m := by omega
        have hb := HV.out.at HB.out (by simp)
        have y5 := cell_of hb 5
        simp only [List.getElem?_toArray, List.getElem?_cons_zero, List.getElem?_cons_succ] at y5
        have HW2 := Lib.hid (HW.out.trans_ext HV.out)
        rcases Nat.lt_or_ge m l.length with hlt | hge2
        · have hltI : (m : Int) < l.length := by omega
          obtain ⟨x, hx⟩ : ∃ x, l[m]? = some x := ⟨_, List.getElem?_eq_getElem hlt⟩
          have HDR : Hid (l.drop m = x :: l.drop (m + 1)) := Lib.hid (by
            obtain ⟨hi, h3⟩ := List.getElem?_eq_some_iff.1 hx
            rw [List.drop_eq_getElem_cons hi, h3])
          obtain ⟨g, o, xo, xn1, xn2, xn3, xs, xm, xq, xl1, xl2, xl3, rfl, d0, d1, d2, d3, d4, d5, hnx⟩ := HG.out m x hx
          replace d0 := up_cell HW2.out d0
          replace d1 := up_cell HW2.out d1
          replace d2 := up_cell HW2.out d2
          replace d3 := up_cell HW2.out d3
          replace d4 := up_cell HW2.out d4
          replace d5 := up_cell HW2.out d5
          have HC := Lib.hid (IH x (by have := HSZ.out; have := sizesF_mem (List.mem_of_getElem? hx); omega) (insN_mem HIN.out.2.2.2 (List.mem_of_getElem? hx)) _ wr P (hnx.ext HW2.out))
          by_cases hz : formF nameF x = 0
          · have HA2 : Hid (formsF nameF (l.drop (m + 1)) = formsF nameF l) := Lib.hid (by
              rw [← HB9.out, HDR.out]
              conv => rhs; unfold formsF
              rw [hz]
              rfl)
            rw [hz] at HC
            clear hx hb hz hnx
            go_wp2_with fail
            refine HC.out.mono ?_
            rintro e w5 ⟨rfl, hu5⟩
            have HU5 := Lib.hid (HV.out.trans_ext hu5)
            clear hu5
            go_wp2_with fail
            go_roundw
            case rel => first | exact ⟨m + 1, by omega, by go_num, HA2, HU5⟩ | exact ⟨_, _, _, _, _, _, _, _, _, _, _, _, _, _, _, _, _, _, _, ⟨m + 1, by omega, by go_num, HA2, HU5⟩, rfl⟩
            case measure => simp [intOf]; omega
          · have HF : Hid (formsF nameF l = formF nameF x) := Lib.hid (by
              rw [← HB9.out, HDR.out]
              unfold formsF
              rw [if_pos hz])
            generalize hfx : formF nameF x = fx at *
            have ez : ((fx : Int) == 0) = false := by rw [beq_eq_false_iff_ne]; omega
            have ez2 : ((fx : Int) != 0) = true := by rw [bne, ez]; rfl
            clear hx hb hz hnx hfx
            go_wp2_with fail
            refine HC.out.mono ?_
            rintro e w5 ⟨rfl, hu5⟩
            have HU5 := Lib.hid (HW2.out.trans_ext hu5)
            clear hu5
            go_wp2_with fail
            go_ret
            rw [HF.out]
            exact ⟨rfl, HU5.out⟩
        · have hgeJ : ¬ (m : Int) < l.length := by omega
          have HF : Hid (formsF nameF l = 0) := Lib.hid (by
            rw [← HB9.out, List.drop_of_length_le (by omega)]
            rfl)
          clear hb
          go_wp2_with fail
          go_ret
          rw [HF.out]
          exact ⟨rfl, HW2.out⟩
theorem form_calls : ∀ (k : Nat) (nd : Nd), sizeF nd ≤ k → inN 10000000 nd → k ≤ 10000000 → ∀ (v : Value) (w : World) (P : Nat → Prop), NdV w P nd v → Calls Tryz.prog 53 #[v] w fun e w' => e = .returned (.int .i64 (formF nameF nd : Nat)) ∧ Upto [] w w'
  | 0, nd, hk, _, _, _, _, _, _ => by have := sizeF_pos nd; omega
  | k + 1, .mk op nms so nn mm l, hk, hin, hk7, v, w, P, h => by
    have hsz : sizesF l ≤ k := by simp only [sizeF] at hk; omega
    have IH : ∀ (nd : Nd), sizeF nd ≤ k → inN 10000000 nd → ∀ (v : Value) (w : World) (P : Nat → Prop), NdV w P nd v → Calls Tryz.prog 53 #[v] w fun e w' => e = .returned (.int .i64 (formF nameF nd : Nat)) ∧ Upto [] w w' := fun nd h1 h2 => form_calls k nd h1 h2 (by omega)
    by_cases hbad : kindBad op = true ∨ shapeBad op nms.length l.length = true ∨ nms.all nameF = false
    · exact form_bad k op so nn mm nms l hk hin hk7 v w P h hbad
    obtain ⟨b1, b2, b3⟩ : kindBad op = false ∧ shapeBad op nms.length l.length = false ∧ nms.all nameF = true := by
      refine ⟨?_, ?_, ?_⟩
      · cases e : kindBad op with
        | false => rfl
        | true => exact absurd (Or.inl e) hbad
      · cases e : shapeBad op nms.length l.length with
        | false => rfl
        | true => exact absurd (Or.inr (Or.inl e)) hbad
      · cases e : nms.all nameF with
        | true => rfl
        | false => exact absurd (Or.inr (Or.inr e)) hbad
    clear hbad
    obtain ⟨g0, g17⟩ : ¬ op < 0 ∧ ¬ 17 < op := by
      have h := b1
      unfold kindBad at h
      simp at h
      omega
    have HT : ∀ n : Nat, (if zeroBad op so nn mm then 3 else if rangeBad op so nn mm then 2 else formsF nameF l) = n → formF nameF (.mk op nms so nn mm l) = n := fun n hn => by
      unfold formF
      rw [if_neg (by rw [b1]; decide), if_neg (by rw [b2]; decide), if_neg (by rw [b3]; decide)]
      exact hn
    by_cases c7 : op = 7
    · subst c7
      by_cases t1 : mm ≠ 0
      · rw [HT 3 (by rw [if_pos (by simp [zeroBad, *])])]
        exact form_7a k so nn mm nms l hsz hin hk7 v w P h (by omega) (by omega) b2 b3 t1
      obtain rfl : mm = 0 := Decidable.not_not.1 t1
      by_cases t2 : so ≠ 0
      · rw [HT 3 (by rw [if_pos (by simp [zeroBad, *])])]
        exact form_7b k so nn nms l hsz hin hk7 v w P h (by omega) (by omega) b2 b3 t2
      obtain rfl : so = 0 := Decidable.not_not.1 t2
      by_cases t3 : nn < 0
      · rw [HT 2 (by rw [if_neg (by simp [zeroBad, *]), if_pos (by simp [rangeBad, *])])]
        exact form_7c k nn nms l hsz hin hk7 v w P h (by omega) (by omega) b2 b3 t3
      by_cases t4 : 7 < nn
      · rw [HT 2 (by rw [if_neg (by simp [zeroBad, *]), if_pos (by simp [rangeBad, *])])]
        exact form_7d k nn nms l hsz hin hk7 v w P h (by omega) (by omega) b2 b3 t3 t4
      rw [HT (formsF nameF l) (by rw [if_neg (by simp [zeroBad, *]), if_neg (by simp [rangeBad, *])])]
      exact form_7g k nn nms l hsz hin hk7 v w P h (by omega) (by omega) b2 b3 t3 t4 IH
    by_cases c8 : op = 8
    · subst c8
      by_cases t2 : so ≠ 0
      · rw [HT 3 (by rw [if_pos (by simp [zeroBad, *])])]
        exact form_8a k so nn mm nms l hsz hin hk7 v w P h (by omega) (by omega) b2 b3 t2
      obtain rfl : so = 0 := Decidable.not_not.1 t2
      by_cases t3 : mm < 1
      · rw [HT 2 (by rw [if_neg (by simp [zeroBad, *]), if_pos (by simp [rangeBad, *])])]
        exact form_8b k nn mm nms l hsz hin hk7 v w P h (by omega) (by omega) b2 b3 t3
      by_cases t4 : 64 < mm
      · rw [HT 2 (by rw [if_neg (by simp [zeroBad, *]), if_pos (by simp [rangeBad, *])])]
        exact form_8c k nn mm nms l hsz hin hk7 v w P h (by omega) (by omega) b2 b3 t3 t4
      by_cases t5 : nn < 0
      · rw [HT 2 (by rw [if_neg (by simp [zeroBad, *]), if_pos (by simp [rangeBad, *])])]
        exact form_8d k nn mm nms l hsz hin hk7 v w P h (by omega) (by omega) b2 b3 t3 t4 t5
      by_cases t6 : mm ≤ nn
      · rw [HT 2 (by rw [if_neg (by simp [zeroBad, *]), if_pos (by simp [rangeBad, *])])]
        exact form_8e k nn mm nms l hsz hin hk7 v w P h (by omega) (by omega) b2 b3 t3 t4 t5 t6
      rw [HT (formsF nameF l) (by rw [if_neg (by simp [zeroBad, *]), if_neg (by simp [rangeBad, *])])]
      exact form_8g k nn mm nms l hsz hin hk7 v w P h (by omega) (by omega) b2 b3 t3 t4 t5 t6 IH
    by_cases c16 : op < 16
    · by_cases t1 : nn ≠ 0
      · rw [HT 3 (by rw [if_pos (by simp [zeroBad, *])])]
        exact form_oa k op so nn mm nms l hsz hin hk7 v w P h (by omega) (by omega) b2 b3 c7 c8 c16 t1
      obtain rfl : nn = 0 := Decidable.not_not.1 t1
      by_cases t2 : mm ≠ 0
      · rw [HT 3 (by rw [if_pos (by simp [zeroBad, *])])]
        exact form_ob k op so mm nms l hsz hin hk7 v w P h (by omega) (by omega) b2 b3 c7 c8 c16 t2
      obtain rfl : mm = 0 := Decidable.not_not.1 t2
      by_cases t3 : so ≠ 0
      · rw [HT 3 (by rw [if_pos (by simp [zeroBad, *])])]
        exact form_oc k op so nms l hsz hin hk7 v w P h (by omega) (by omega) b2 b3 c7 c8 c16 t3
      obtain rfl : so = 0 := Decidable.not_not.1 t3
      rw [HT (formsF nameF l) (by rw [if_neg (by simp [zeroBad, *]), if_neg (by simp [rangeBad, *])])]
      exact form_og k op nms l hsz hin hk7 v w P h (by omega) (by omega) b2 b3 c7 c8 c16 IH
    by_cases t1 : nn ≠ 0
    · rw [HT 3 (by rw [if_pos (by simp [zeroBad, *])])]
      exact form_ha k op so nn mm nms l hsz hin hk7 v w P h (by omega) (by omega) b2 b3 c7 c8 c16 t1
    obtain rfl : nn = 0 := Decidable.not_not.1 t1
    by_cases t2 : mm ≠ 0
    · rw [HT 3 (by rw [if_pos (by simp [zeroBad, *])])]
      exact form_hb k op so mm nms l hsz hin hk7 v w P h (by omega) (by omega) b2 b3 c7 c8 c16 t2
    obtain rfl : mm = 0 := Decidable.not_not.1 t2
    by_cases t3 : so < 0
    · rw [HT 2 (by rw [if_neg (by simp [zeroBad, *]), if_pos (by simp [rangeBad, *])])]
      exact form_hc k op so nms l hsz hin hk7 v w P h (by omega) (by omega) b2 b3 c7 c8 c16 t3
    by_cases t4 : 3 < so
    · rw [HT 2 (by rw [if_neg (by simp [zeroBad, *]), if_pos (by simp [rangeBad, *])])]
      exact form_hd k op so nms l hsz hin hk7 v w P h (by omega) (by omega) b2 b3 c7 c8 c16 t3 t4
    rw [HT (formsF nameF l) (by rw [if_neg (by simp [zeroBad, *]), if_neg (by simp [rangeBad, *])])]
    exact form_hg k op so nms l hsz hin hk7 v w P h (by omega) (by omega) b2 b3 c7 c8 c16 t3 t4 IH
theorem ident_real {x : List UInt8} (h : nameF x = true) : Real 1 x 0 := by
  unfold nameF at h
  simp only [Bool.and_eq_true, decide_eq_true_eq] at h
  obtain ⟨⟨h1, h2⟩, h3⟩ := h
  refine Or.inr ⟨h1, fun y hy => List.all_eq_true.1 h2 y hy, ?_⟩
  cases hc : classify x with
  | error e => rw [hc] at h3; cases h3
  | ok p =>
    obtain ⟨k, v⟩ := p
    rw [hc] at h3
    simp only [decide_eq_true_eq] at h3
    subst h3
    have hv : v = 0 := by
      cases x with
      | nil => cases hc
      | cons b t =>
        simp only [classify] at hc
        split at hc
        · split at hc
          · cases hc
          · split at hc
            · cases hc
            · cases hc
        · split at hc
          · cases hc
          · split at hc
            · cases hc
            · split at hc
              · cases hc
              · exact (Prod.mk.inj (Except.ok.inj hc)).2.symm
    rw [hv]
set_option maxRecDepth 100000 in
set_option maxHeartbeats 3200000 in
theorem checkR_calls (nd : Nd) (v : Value) (w : World) (P : Nat → Prop) (h : NdV w P nd v) (hk : sizeF nd ≤ 10000000) (hin : inN 10000000 nd) : Calls Tryz.prog 18 #[v] w fun e w' => e = .returned (.int .i64 (checkF nameF nd : Nat)) ∧ Upto [] w w' := by
  obtain ⟨xo, xn1, xn2, xn3, xs, xm, xq, xl1, xl2, xl3, rfl⟩ := h.six
  have hua : Upto [] w (w.alloc (.cells #[.int .i64 xo, .slice xn1 xn2 xn3, .int .i64 xs, .int .i64 xm, .int .i64 xq, .slice xl1 xl2 xl3] 25)) := (Upto.refl [] w).alloc _
  have HS := Lib.hid (fun u (hu : Upto [] w u) => form_calls _ nd hk hin (Nat.le_refl _) _ u P (h.ext hu))
  have HD := Lib.hid (fun u (hu : Upto [] w u) => greatR_calls nd _ u P (h.ext hu) hk)
  have HUA := Lib.hid hua
  have HNB := Lib.hid (new_at w (.cells #[.int .i64 xo, .slice xn1 xn2 xn3, .int .i64 xs, .int .i64 xm, .int .i64 xq, .slice xl1 xl2 xl3] 25))
  clear h hua hin
  by_cases h1 : formF nameF nd = 0
  · have HF : Hid (checkF nameF nd = greatF nd) := Lib.hid (by unfold checkF; rw [h1]; rfl)
    rw [HF.out]
    rw [h1] at HS
    clear h1
    go_enter Tryz.func18, Tryz.ntmps18
    go_wp2_with fail
    refine (HS.out _ HUA.out).mono ?_
    rintro e w5 ⟨rfl, hu5⟩
    have HU5 := Lib.hid (HUA.out.trans_ext hu5)
    have hb5 := hu5.at HNB.out (by simp)
    obtain ⟨y0, y1, y2, y3, y4, y5⟩ := cells6 hb5
    clear hu5 hb5
    go_wp2_with fail
    refine (HD.out _ HU5.out).mono ?_
    rintro e w6 ⟨rfl, hu6⟩
    have HU6 := Lib.hid (HU5.out.trans_ext hu6)
    clear hu6
    go_wp2_with fail
    go_ret
    exact ⟨rfl, HU6.out⟩
  · have HF : Hid (checkF nameF nd = formF nameF nd) := Lib.hid (by unfold checkF; rw [if_pos h1])
    rw [HF.out]
    generalize hfx : formF nameF nd = fx at *
    have ez : ((fx : Int) == 0) = false := by rw [beq_eq_false_iff_ne]; omega
    have ez2 : ((fx : Int) != 0) = true := by rw [bne, ez]; rfl
    clear hfx h1
    go_enter Tryz.func18, Tryz.ntmps18
    go_wp2_with fail
    refine (HS.out _ HUA.out).mono ?_
    rintro e w5 ⟨rfl, hu5⟩
    have HU5 := Lib.hid (HUA.out.trans_ext hu5)
    clear hu5
    go_wp2_with fail
    go_ret
    exact ⟨rfl, HU5.out⟩
def scA (s : Nat) (n : Nd) : List UInt8 := [115, 111, 109, 101, 32] ++ sortW s ++ [32, 113, 39, 32, 58, 32] ++ fullG n
def scT (how op s : Nat) (n : Nd) : List UInt8 := match how with
  | 0 => [111, 110, 101, 32, 121, 32] ++ opWd op ++ [32] ++ scA s n
  | 1 => [110, 111, 116, 32] ++ scA s n
  | _ => [40] ++ scA s n ++ [41, 32] ++ opWd op ++ [32, 111, 110, 101, 32, 121]
theorem qu_text (s : Nat) (hs : s < 4) (n : Nd) : spB (quB false s n) = scA s n ∧ spB (quB true s n) = 32 :: scA s n := by
  have e : sortWords.getD s [] = sortW s := sort_word (s := s) (by omega) (by omega)
  unfold quB scA
  simp only [spB_cons, fullB_true, e]
  constructor <;> simp [kyT, idT, puT]
theorem sc_text (how op s : Nat) (hh : how < 3) (hs : s < 4) (n : Nd) : spB (scB how op s n) = scT how op s n := by
  have h3 : how = 0 ∨ how = 1 ∨ how = 2 := by omega
  obtain ⟨q1, q2⟩ := qu_text s hs n
  rcases h3 with rfl | rfl | rfl
  · simp only [scB, scT, spB_cons, q2]
    simp [kyT, idT]
  · simp only [scB, scT, spB_cons, q2]
    simp [kyT, idT]
  · simp only [scB, scT, spB_cons, spB_append, q1]
    simp [spB, kyT, idT, puT]
theorem sc_read (how op s : Nat) (hh : how < 3) (hop : op < 4) (hs : s < 4) (n : Nd) (hok : okF n) (hd : depthF n ≤ 50) (hz : sizeF n ≤ 300) (hl : (scA s n).length ≤ 50000) : readF bareP (scT how op s n) = ⟨⟨[], scN how op s n⟩, 0, 0, 0⟩ := by
  have hw : (opWd op).length ≤ 7 := by
    have : op = 0 ∨ op = 1 ∨ op = 2 ∨ op = 3 := by omega
    rcases this with rfl | rfl | rfl | rfl <;> decide
  have h3 : how = 0 ∨ how = 1 ∨ how = 2 := by omega
  have hlen : (scT how op s n).length ≤ 65536 := by
    rcases h3 with rfl | rfl | rfl <;> (simp only [scT, List.length_append, List.length_cons, List.length_nil]; omega)
  obtain ⟨ts, k1, k2, k3⟩ := sc_parse (how := how) hok (by omega) hop hs (by rw [sc_text how op s hh hs n]; exact hlen)
  rw [sc_text how op s hh hs n] at k1
  unfold readF
  rw [k1]
  simp only
  rw [k2]
  simp only
  refine endF_done k3 ?_
  unfold greatF
  have hsz : sizeF (scN how op s n) ≤ 310 := by
    rcases h3 with rfl | rfl | rfl <;> (simp only [scN, quN, onY, sizeF, sizesF]; omega)
  have hdp : depthF (scN how op s n) ≤ 60 := by
    rcases h3 with rfl | rfl | rfl <;> (simp only [scN, quN, onY, depthF, depthsF]; omega)
  show (if 4096 < sizeF (scN how op s n) then 8 else if 256 < depthF (scN how op s n) then 16 else 0) = 0
  rw [if_neg (by omega), if_neg (by omega)]
set_option maxRecDepth 100000 in
set_option maxHeartbeats 12800000 in
theorem formulaQuantifierScope_walk (n : Nd) (v : Value) (za zb zc : Int) (w : World) (hn : ArgN w n v) (ha : 0 ≤ za ∧ za < 256) (hb : 0 ≤ zb ∧ zb < 256) (hc : 0 ≤ zc ∧ zc < 256) (hE : Env w ∧ SEnv w) : Calls Tryz.prog 3 #[v, .agg #[.int .u8 za, .int .u8 zb, .int .u8 zc]] w fun e w' => e = .returned (.bool true) ∧ Upto [] w w' := by
  obtain ⟨he, hse⟩ := hE
  obtain ⟨hval, hsz, hin, hbg⟩ : NdV w AnyB n v ∧ sizeF n ≤ 10000000 ∧ inN 10000000 n ∧ bigN n := ⟨hn.val, by have := hn.sz; omega, inN.mono (by decide) n hn.ins, inN.big (by decide) n hn.ins⟩
  have HK : Hid (∀ u, Upto [] w u → Calls Tryz.prog 16 #[] u fun e w' => e = .returned (.bool true) ∧ Upto [] u w') := Lib.hid (fun u hu => fknown_calls u (he.ext hu) (hse.upto hu (by simp)))
  have HPF : Hid (∀ u x, Upto [] w u → x.length ≤ 100000 → Calls Tryz.prog 22 #[.string ⟨x.toArray⟩] u (FmPost u (readF bareP x))) := Lib.hid (fun u x hu hx => parseFormula_calls x (by omega) u (he.ext hu) (hse.upto hu (by simp)))
  obtain ⟨no, nn1, nn2, nn3, ns, nm, nq, nl1, nl2, nl3, rfl⟩ := hval.six
  have HSM := Lib.hid (fun u (hu : Upto [] w u) => small_calls n _ u AnyB (hval.ext hu) hsz hbg)
  have HCK := Lib.hid (fun u (hu : Upto [] w u) => checkR_calls n _ u AnyB (hval.ext hu) hsz hin)
  have HDP := Lib.hid (fun u (hu : Upto [] w u) => deep_calls _ n hsz (Nat.le_refl _) _ u AnyB (hval.ext hu))
  have HNV := Lib.hid hval
  have hu2 : Upto [] w ((w.alloc (.cells #[.int .i64 no, .slice nn1 nn2 nn3, .int .i64 ns, .int .i64 nm, .int .i64 nq, .slice nl1 nl2 nl3] 25)).alloc (.cells #[.int .u8 za, .int .u8 zb, .int .u8 zc] 26)) := ((Upto.refl [] w).alloc _).alloc _
  have HB1 := Lib.hid (alloc_old (new_at w (.cells #[.int .i64 no, .slice nn1 nn2 nn3, .int .i64 ns, .int .i64 nm, .int .i64 nq, .slice nl1 nl2 nl3] 25)) (.cells #[.int .u8 za, .int .u8 zb, .int .u8 zc] 26))
  have hb2 := new_at1 w (.cells #[.int .i64 no, .slice nn1 nn2 nn3, .int .i64 ns, .int .i64 nm, .int .i64 nq, .slice nl1 nl2 nl3] 25) (.cells #[.int .u8 za, .int .u8 zb, .int .u8 zc] 26)
  have HU2 := Lib.hid hu2
  have hb2d := ((Upto.refl [] ((w.alloc (.cells #[.int .i64 no, .slice nn1 nn2 nn3, .int .i64 ns, .int .i64 nm, .int .i64 nq, .slice nl1 nl2 nl3] 25)).alloc (.cells #[.int .u8 za, .int .u8 zb, .int .u8 zc] 26))).drew).at hb2 (by simp)
  have hd300 := depth_le_size n
  obtain ⟨a0, a1, a2⟩ := cells3 hb2
  obtain ⟨ad0, ad1, ad2⟩ := cells3 hb2d
  have HU2D := Lib.hid hu2.drew
  have HB1D := Lib.hid ((Upto.refl [] ((w.alloc (.cells #[.int .i64 no, .slice nn1 nn2 nn3, .int .i64 ns, .int .i64 nm, .int .i64 nq, .slice nl1 nl2 nl3] 25)).alloc (.cells #[.int .u8 za, .int .u8 zb, .int .u8 zc] 26))).drew.at HB1.out (by simp))
  obtain ⟨pa, hpa, hpa3⟩ : ∃ p : Nat, za % 3 = (p : Int) ∧ p < 3 := ⟨(za % 3).toNat, by omega, by omega⟩
  obtain ⟨pb, hpb, hpb4⟩ : ∃ p : Nat, zb % 4 = (p : Int) ∧ p < 4 := ⟨(zb % 4).toNat, by omega, by omega⟩
  obtain ⟨pc, hpc, hpc4⟩ : ∃ p : Nat, zc % 4 = (p : Int) ∧ p < 4 := ⟨(zc % 4).toNat, by omega, by omega⟩
  have ja0 : (0 : Int) ≤ pa := by omega
  have jb0 : (0 : Int) ≤ pb := by omega
  have jc0 : (0 : Int) ≤ pc := by omega
  have ja1 : (pa : Int) < 3 := by omega
  have jb1 : (pb : Int) < 4 := by omega
  have jc1 : (pc : Int) < 4 := by omega
  clear hu2 hb2 hb2d hval he hse
  go_enter Tryz.func3, Tryz.ntmps3
  go_wp2_with fail
  go_region
  generalize hWD : ((w.alloc (.cells #[.int .i64 no, .slice nn1 nn2 nn3, .int .i64 ns, .int .i64 nm, .int .i64 nq, .slice nl1 nl2 nl3] 25)).alloc (.cells #[.int .u8 za, .int .u8 zb, .int .u8 zc] 26)).drew = WA at *
  clear hWD a0 a1 a2 ad0 ad1 ad2
  go_wp2_with fail
  refine (HK.out WA HU2D.out).mono ?_
  rintro e w1 ⟨rfl, hu1⟩
  have HU1 := Lib.hid (HU2D.out.trans_ext hu1)
  have hb1 := hu1.at HB1D.out (by simp)
  have HBX1 := Lib.hid hb1
  obtain ⟨b0, b1, b2, b3, b4, b5⟩ := cells6 hb1
  clear hu1 hb1 HU2 HB1
  go_wp2_with fail
  refine (HSM.out w1 HU1.out).mono ?_
  rintro e w2 ⟨rfl, hu2⟩
  have HU2 := Lib.hid (HU1.out.trans_ext hu2)
  have hbb := hu2.at HBX1.out (by simp)
  have HBX2 := Lib.hid hbb
  clear hu2 b0 b1 b2 b3 b4 b5
  obtain ⟨b0, b1, b2, b3, b4, b5⟩ := cells6 hbb
  have hsb : smallF n = true ∨ smallF n = false := by cases smallF n <;> simp
  rcases hsb with hsb | hsb
  case inr =>
    rw [hsb]
    clear hbb
    go_wp2_with fail
    refine (HK.out _ HU2.out).mono ?_
    rintro e w9 ⟨rfl, hu9⟩
    have HU9 := Lib.hid (HU2.out.trans_ext hu9)
    clear hu9
    go_wp2_with fail
    go_ret
    exact ⟨rfl, HU9.out⟩
  have hsm : sizeF n ≤ 300 := by
    unfold smallF at hsb
    simp only [Bool.and_eq_true, decide_eq_true_eq] at hsb
    exact hsb.1.1
  rw [hsb]
  clear hbb hsb
  go_wp2_with fail
  refine (HCK.out w2 HU2.out).mono ?_
  rintro e w3 ⟨rfl, hu3⟩
  have HU3 := Lib.hid (HU2.out.trans_ext hu3)
  have hbb := hu3.at HBX2.out (by simp)
  have HBX3 := Lib.hid hbb
  clear hu3 b0 b1 b2 b3 b4 b5
  obtain ⟨b0, b1, b2, b3, b4, b5⟩ := cells6 hbb
  by_cases hck : checkF nameF n = 0
  case neg =>
    generalize checkF nameF n = ck at *
    have ez : ((ck : Int) == 0) = false := by rw [beq_eq_false_iff_ne]; omega
    have ez2 : ((ck : Int) != 0) = true := by rw [bne, ez]; rfl
    clear hbb hck
    go_wp2_with fail
    refine (HK.out _ HU3.out).mono ?_
    rintro e w9 ⟨rfl, hu9⟩
    have HU9 := Lib.hid (HU3.out.trans_ext hu9)
    clear hu9
    go_wp2_with fail
    go_ret
    exact ⟨rfl, HU9.out⟩
  obtain ⟨hok, hgr⟩ := check_ok (fun x h => ident_real h) hck
  rw [hck]
  clear hbb hck
  go_wp2_with fail
  refine (HDP.out w3 HU3.out).mono ?_
  rintro e w4 ⟨rfl, hu4⟩
  have HU4 := Lib.hid (HU3.out.trans_ext hu4)
  have hbb := hu4.at HBX3.out (by simp)
  have HBX4 := Lib.hid hbb
  clear hu4 b0 b1 b2 b3 b4 b5
  by_cases hdp : 50 < depthF n
  case pos =>
    have ez : (depthF n : Int) > 50 := by omega
    have ez2 : (50 : Int) < (depthF n : Int) := by omega
    clear hbb
    go_wp2_with fail
    refine (HK.out _ HU4.out).mono ?_
    rintro e w9 ⟨rfl, hu9⟩
    have HU9 := Lib.hid (HU4.out.trans_ext hu9)
    clear hu9
    go_wp2_with fail
    go_ret
    exact ⟨rfl, HU9.out⟩
  have ez : ¬ (50 : Int) < (depthF n : Int) := by omega
  have hde0 : (0 : Int) ≤ depthF n := by omega
  have HFL : Hid (∀ w P, Says w P n (fullG n)) := Lib.hid (fun w P => full_all _ n (Nat.le_refl _) hok (by
    have := full_len _ n (Nat.le_refl _) hok
    omega) w P)
  have hfl := full_len _ n (Nat.le_refl _) hok
  have HOK := Lib.hid (And.intro hok (And.intro hsm hdp))
  clear hbb hok hgr hdp
  have hc := alloc_old (alloc_old HBX4.out (.cells #[.string ⟨#[97, 110, 100]⟩, .string ⟨#[111, 114]⟩, .string ⟨#[105, 109, 112, 108, 105, 101, 115]⟩, .string ⟨#[105, 102, 102]⟩] 9)) (.cells #[.string ⟨#[113, 39]⟩] 9)
  obtain ⟨c0, c1, c2, c3, c4, c5⟩ := cells6 hc
  clear hc
  go_wp2_with fail
  clear c0 c1 c2 c3 c4 c5
  have hu7 : Upto [] w4 ((((w4.alloc (.cells #[.string ⟨#[97, 110, 100]⟩, .string ⟨#[111, 114]⟩, .string ⟨#[105, 109, 112, 108, 105, 101, 115]⟩, .string ⟨#[105, 102, 102]⟩] 9)).alloc (.cells #[.string ⟨#[113, 39]⟩] 9)).alloc (.cells #[.int .i64 no, .slice nn1 nn2 nn3, .int .i64 ns, .int .i64 nm, .int .i64 nq, .slice nl1 nl2 nl3] 25)).alloc (.cells #[.int .i64 16, .slice (some ⟨w4.heap.size + 1, 0, none⟩) 1 1, .int .i64 pc, .int .i64 0, .int .i64 0, .slice (some ⟨w4.heap.size + 1 + 1, 0, none⟩) 1 1] 25)) := ((((Upto.refl [] w4).alloc _).alloc _).alloc _).alloc _
  have hbx7 := hu7.at HBX4.out (by simp)
  have hwd7 := alloc_old (alloc_old (alloc_old (new_at w4 (.cells #[.string ⟨#[97, 110, 100]⟩, .string ⟨#[111, 114]⟩, .string ⟨#[105, 109, 112, 108, 105, 101, 115]⟩, .string ⟨#[105, 102, 102]⟩] 9)) (.cells #[.string ⟨#[113, 39]⟩] 9)) (.cells #[.int .i64 no, .slice nn1 nn2 nn3, .int .i64 ns, .int .i64 nm, .int .i64 nq, .slice nl1 nl2 nl3] 25)) (.cells #[.int .i64 16, .slice (some ⟨w4.heap.size + 1, 0, none⟩) 1 1, .int .i64 pc, .int .i64 0, .int .i64 0, .slice (some ⟨w4.heap.size + 1 + 1, 0, none⟩) 1 1] 25)
  have hnm7 := alloc_old (alloc_old (new_at1 w4 (.cells #[.string ⟨#[97, 110, 100]⟩, .string ⟨#[111, 114]⟩, .string ⟨#[105, 109, 112, 108, 105, 101, 115]⟩, .string ⟨#[105, 102, 102]⟩] 9) (.cells #[.string ⟨#[113, 39]⟩] 9)) (.cells #[.int .i64 no, .slice nn1 nn2 nn3, .int .i64 ns, .int .i64 nm, .int .i64 nq, .slice nl1 nl2 nl3] 25)) (.cells #[.int .i64 16, .slice (some ⟨w4.heap.size + 1, 0, none⟩) 1 1, .int .i64 pc, .int .i64 0, .int .i64 0, .slice (some ⟨w4.heap.size + 1 + 1, 0, none⟩) 1 1] 25)
  have hsl7 := alloc_old (new_at1 (w4.alloc (.cells #[.string ⟨#[97, 110, 100]⟩, .string ⟨#[111, 114]⟩, .string ⟨#[105, 109, 112, 108, 105, 101, 115]⟩, .string ⟨#[105, 102, 102]⟩] 9)) (.cells #[.string ⟨#[113, 39]⟩] 9) (.cells #[.int .i64 no, .slice nn1 nn2 nn3, .int .i64 ns, .int .i64 nm, .int .i64 nq, .slice nl1 nl2 nl3] 25)) (.cells #[.int .i64 16, .slice (some ⟨w4.heap.size + 1, 0, none⟩) 1 1, .int .i64 pc, .int .i64 0, .int .i64 0, .slice (some ⟨w4.heap.size + 1 + 1, 0, none⟩) 1 1] 25)
  have hqn7 := new_at1 ((w4.alloc (.cells #[.string ⟨#[97, 110, 100]⟩, .string ⟨#[111, 114]⟩, .string ⟨#[105, 109, 112, 108, 105, 101, 115]⟩, .string ⟨#[105, 102, 102]⟩] 9)).alloc (.cells #[.string ⟨#[113, 39]⟩] 9)) (.cells #[.int .i64 no, .slice nn1 nn2 nn3, .int .i64 ns, .int .i64 nm, .int .i64 nq, .slice nl1 nl2 nl3] 25) (.cells #[.int .i64 16, .slice (some ⟨w4.heap.size + 1, 0, none⟩) 1 1, .int .i64 pc, .int .i64 0, .int .i64 0, .slice (some ⟨w4.heap.size + 1 + 1, 0, none⟩) 1 1] 25)
  simp only [World.size_alloc] at hsl7 hqn7
  generalize hVA : ((((w4.alloc (.cells #[.string ⟨#[97, 110, 100]⟩, .string ⟨#[111, 114]⟩, .string ⟨#[105, 109, 112, 108, 105, 101, 115]⟩, .string ⟨#[105, 102, 102]⟩] 9)).alloc (.cells #[.string ⟨#[113, 39]⟩] 9)).alloc (.cells #[.int .i64 no, .slice nn1 nn2 nn3, .int .i64 ns, .int .i64 nm, .int .i64 nq, .slice nl1 nl2 nl3] 25)).alloc (.cells #[.int .i64 16, .slice (some ⟨w4.heap.size + 1, 0, none⟩) 1 1, .int .i64 pc, .int .i64 0, .int .i64 0, .slice (some ⟨w4.heap.size + 1 + 1, 0, none⟩) 1 1] 25)) = W7 at *
  generalize w4.heap.size = B at *
  have HU7 := Lib.hid (HU4.out.trans_ext hu7)
  have HBX7 := Lib.hid hbx7
  have HWD7 := Lib.hid hwd7
  have HNM7 := Lib.hid hnm7
  have HSL7 := Lib.hid hsl7
  have HQN7 := Lib.hid hqn7
  have HNQ : Hid (NdV W7 AnyB (quN pc n) (.agg #[.int .i64 16, .slice (some ⟨B + 1, 0, none⟩) 1 1, .int .i64 pc, .int .i64 0, .int .i64 0, .slice (some ⟨B + 1 + 1, 0, none⟩) 1 1])) := Lib.hid (NdV.one (SlP.block trivial hnm7 1 1 [sV [113, 39]] (fun j u hj => by simpa [sV] using hj)) (HNV.out.ext HU7.out) trivial hsl7)
  have k0 : ∀ u : Ext W7, u.w.cell? ⟨w.heap.size, 0, none⟩ = some (.int .i64 no) := fun u => u.cell (cell_of hbx7 0)
  have k1 : ∀ u : Ext W7, u.w.cell? ⟨w.heap.size, 1, none⟩ = some (.slice nn1 nn2 nn3) := fun u => u.cell (cell_of hbx7 1)
  have k2 : ∀ u : Ext W7, u.w.cell? ⟨w.heap.size, 2, none⟩ = some (.int .i64 ns) := fun u => u.cell (cell_of hbx7 2)
  have k3 : ∀ u : Ext W7, u.w.cell? ⟨w.heap.size, 3, none⟩ = some (.int .i64 nm) := fun u => u.cell (cell_of hbx7 3)
  have k4 : ∀ u : Ext W7, u.w.cell? ⟨w.heap.size, 4, none⟩ = some (.int .i64 nq) := fun u => u.cell (cell_of hbx7 4)
  have k5 : ∀ u : Ext W7, u.w.cell? ⟨w.heap.size, 5, none⟩ = some (.slice nl1 nl2 nl3) := fun u => u.cell (cell_of hbx7 5)
  have HSO := Lib.hid (fun u => sorted_calls (pc : Int) u)
  have HFU : Hid (∀ u, Upto [] W7 u → Calls Tryz.prog 21 #[.agg #[.int .i64 no, .slice nn1 nn2 nn3, .int .i64 ns, .int .i64 nm, .int .i64 nq, .slice nl1 nl2 nl3]] u fun e w' => e = .returned (.string ⟨(fullG n).toArray⟩) ∧ Upto [] u w') := Lib.hid (fun u hu => HFL.out w AnyB _ u (HU7.out.trans_ext hu) (HNV.out.ext (HU7.out.trans_ext hu)))
  have hso : (sortW (pc : Int)).length ≤ 10 := by
    have : pc = 0 ∨ pc = 1 ∨ pc = 2 ∨ pc = 3 := by omega
    rcases this with rfl | rfl | rfl | rfl <;> decide
  have HSZ : Hid ((scA pc n).length ≤ 160000) := Lib.hid (by simp only [scA, List.length_append, List.length_cons, List.length_nil]; omega)
  have HEA : Hid (ByteArray.mk #[115, 111, 109, 101, 32] ++ ByteArray.mk (sortW (pc : Int)).toArray ++ ByteArray.mk #[32, 113, 39, 32, 58, 32] ++ ByteArray.mk (fullG n).toArray = ByteArray.mk (scA pc n).toArray) := Lib.hid (by
    show ByteArray.mk [115, 111, 109, 101, 32].toArray ++ ByteArray.mk (sortW (pc : Int)).toArray ++ ByteArray.mk [32, 113, 39, 32, 58, 32].toArray ++ ByteArray.mk (fullG n).toArray = _
    simp only [ByteArray.mk_append_mk]; rfl)
  have sm1 : 5 + (sortW (pc : Int)).length ≤ 9223372036854775807 := by omega
  have sm2 : 5 + (sortW (pc : Int)).length + 6 ≤ 9223372036854775807 := by omega
  have sm3 : 5 + (sortW (pc : Int)).length + 6 + (fullG n).length ≤ 9223372036854775807 := by omega
  have ss1 : (ByteArray.mk (sortW (pc : Int)).toArray).size = (sortW (pc : Int)).length := rfl
  have ss2 : (ByteArray.mk (fullG n).toArray).size = (fullG n).length := rfl
  have HFN := Lib.hid hfl
  clear hu7 hbx7 hwd7 hnm7 hsl7 hqn7 hVA hso hfl
  refine wp_region_seg_all [1, 5] [] [0, 1, 2, 3, 4, 5, 6, 7] (by kernel_rfl) (by kernel_rfl) ?_
  (refine seg_plain rfl rfl rfl rfl rfl ?_; intro K' hK'; go_big_quiet_op; go_big_quiet_on)
  refine seg_call rfl rfl rfl rfl (fun w => by go_simp) (fun w hu hd => HSO.out w) ?_
  simp only [Act.put, List.setIfInBounds_toArray, List.set_cons_zero, List.set_cons_succ]
  iterate 3 (refine seg_plain rfl rfl rfl rfl rfl ?_; intro K' hK'; go_big_quiet_op; go_big_quiet_on)
  refine seg_call rfl rfl rfl rfl (fun w => by go_simp) (fun w hu hd => HFU.out w hu) ?_
  simp only [Act.put, List.setIfInBounds_toArray, List.set_cons_zero, List.set_cons_succ]
  iterate 2 (refine seg_plain rfl rfl rfl rfl rfl ?_; intro K' hK'; go_big_quiet_op; go_big_quiet_on)
  intro w8 hg
  have hu8 := hg.up
  have HU8 := Lib.hid (HU7.out.trans_ext hg.up)
  have HBX8 := Lib.hid (hg.up.at HBX7.out (by simp))
  have HWD8 := Lib.hid (hg.up.at HWD7.out (by simp))
  have HNM8 := Lib.hid (hg.up.at HNM7.out (by simp))
  have HSL8 := Lib.hid (hg.up.at HSL7.out (by simp))
  have HQN8 := Lib.hid (hg.up.at HQN7.out (by simp))
  have HNQ8 := Lib.hid (HNQ.out.ext hg.up)
  clear hg hu8 k0 k1 k2 k3 k4 k5 sm1 sm2 sm3 ss1 ss2
  rw [HEA.out]
  clear HEA HSO HFU HSL7 HSL8 HNM7 HNM8 HWD7 HBX7 HQN7 HNQ
  obtain ⟨SA, hSA, HSE⟩ : ∃ SA, SA = scA pc n ∧ Hid (SA = scA pc n) := ⟨_, rfl, Lib.hid rfl⟩
  rw [← hSA] at HSZ ⊢
  have hsz9 : (ByteArray.mk SA.toArray).size = SA.length := rfl
  have hSZ := HSZ.out
  clear hSA
  by_cases hlen : 50000 < SA.length
  case pos =>
    have l1 : (50000 : Int) < SA.length := by omega
    clear hlen
    go_wp2_with fail
    go_ret
    exact ⟨rfl, HU8.out⟩
  have l1 : ¬ (50000 : Int) < SA.length := by omega
  have HLEN := Lib.hid hlen
  clear hlen
  have hq9 := alloc_old (alloc_old HQN8.out (.cells #[.string ⟨#[121]⟩] 9)) (.cells #[.int .i64 9, .slice (some ⟨w8.heap.size, 0, none⟩) 1 1, .int .i64 0, .int .i64 0, .int .i64 0, .slice none 0 0] 25)
  have hq10 := alloc_old hq9 (.cells #[.int .i64 16, .slice (some ⟨B + 1, 0, none⟩) 1 1, .int .i64 pc, .int .i64 0, .int .i64 0, .slice (some ⟨B + 1 + 1, 0, none⟩) 1 1] 25)
  have hw10 := alloc_old (alloc_old (alloc_old HWD8.out (.cells #[.string ⟨#[121]⟩] 9)) (.cells #[.int .i64 9, .slice (some ⟨w8.heap.size, 0, none⟩) 1 1, .int .i64 0, .int .i64 0, .int .i64 0, .slice none 0 0] 25)) (.cells #[.int .i64 16, .slice (some ⟨B + 1, 0, none⟩) 1 1, .int .i64 pc, .int .i64 0, .int .i64 0, .slice (some ⟨B + 1 + 1, 0, none⟩) 1 1] 25)
  have hy10 := alloc_old (new_at1 w8 (.cells #[.string ⟨#[121]⟩] 9) (.cells #[.int .i64 9, .slice (some ⟨w8.heap.size, 0, none⟩) 1 1, .int .i64 0, .int .i64 0, .int .i64 0, .slice none 0 0] 25)) (.cells #[.int .i64 16, .slice (some ⟨B + 1, 0, none⟩) 1 1, .int .i64 pc, .int .i64 0, .int .i64 0, .slice (some ⟨B + 1 + 1, 0, none⟩) 1 1] 25)
  have hc10 := new_at1 (w8.alloc (.cells #[.string ⟨#[121]⟩] 9)) (.cells #[.int .i64 9, .slice (some ⟨w8.heap.size, 0, none⟩) 1 1, .int .i64 0, .int .i64 0, .int .i64 0, .slice none 0 0] 25) (.cells #[.int .i64 16, .slice (some ⟨B + 1, 0, none⟩) 1 1, .int .i64 pc, .int .i64 0, .int .i64 0, .slice (some ⟨B + 1 + 1, 0, none⟩) 1 1] 25)
  simp only [World.size_alloc] at hc10
  obtain ⟨q0, q1, q2, q3, q4, q5⟩ := cells6 hq9
  obtain ⟨r0, r1, r2, r3, r4, r5⟩ := cells6 hq10
  obtain ⟨y0, y1, y2, y3, y4, y5⟩ := cells6 hy10
  obtain ⟨s0, s1, s2, s3, s4, s5⟩ := cells6 hc10
  obtain ⟨sf0, sf1, sf2, sf3, sf4, sf5⟩ := frees6 hc10
  obtain ⟨hb4, hwb⟩ : pb < 4 ∧ (((w8.alloc (.cells #[.string ⟨#[121]⟩] 9)).alloc (.cells #[.int .i64 9, .slice (some ⟨w8.heap.size, 0, none⟩) 1 1, .int .i64 0, .int .i64 0, .int .i64 0, .slice none 0 0] 25)).alloc (.cells #[.int .i64 16, .slice (some ⟨B + 1, 0, none⟩) 1 1, .int .i64 pc, .int .i64 0, .int .i64 0, .slice (some ⟨B + 1 + 1, 0, none⟩) 1 1] 25)).cell? ⟨B, pb, none⟩ = some (.string ⟨(opWd pb).toArray⟩) := ⟨by omega, by
    rw [cell_of hw10]
    have : pb = 0 ∨ pb = 1 ∨ pb = 2 ∨ pb = 3 := by omega
    rcases this with rfl | rfl | rfl | rfl <;> rfl⟩
  have hp3 : pa = 0 ∨ pa = 1 ∨ pa = 2 := by omega
  have hob : (opWd pb).length ≤ 7 := by
    have : pb = 0 ∨ pb = 1 ∨ pb = 2 ∨ pb = 3 := by omega
    rcases this with rfl | rfl | rfl | rfl <;> decide
  have sso : (ByteArray.mk (opWd pb).toArray).size = (opWd pb).length := rfl
  clear hq9 hq10 hw10 hy10 hc10
  rcases hp3 with rfl | rfl | rfl
  · have sm0 : 6 + (opWd pb).length ≤ 9223372036854775807 := by omega
    have sm1 : 6 + (opWd pb).length + 1 ≤ 9223372036854775807 := by omega
    have sm2 : 6 + (opWd pb).length + 1 + SA.length ≤ 9223372036854775807 := by omega
    go_wp2_with fail
    clear sm0 sm1 sm2 q0 q1 q2 q3 q4 q5 r0 r1 r2 r3 r4 r5 y0 y1 y2 y3 y4 y5 s0 s1 s2 s3 s4 s5 sf0 sf1 sf2 sf3 sf4 sf5 hwb
    have huz : Upto [] w8 ((((w8.alloc (.cells #[.string ⟨#[121]⟩] 9)).alloc (.cells #[.int .i64 9, .slice (some ⟨w8.heap.size, 0, none⟩) 1 1, .int .i64 0, .int .i64 0, .int .i64 0, .slice none 0 0] 25)).alloc (.cells #[.int .i64 (12 + pb), .slice none 0 0, .int .i64 0, .int .i64 0, .int .i64 0, .slice (some ⟨w8.heap.size + 1 + 1 + 1, 0, none⟩) 2 2] 25)).alloc (.cells #[.int .i64 9, .slice (some ⟨w8.heap.size, 0, none⟩) 1 1, .int .i64 0, .int .i64 0, .int .i64 0, .slice none 0 0, .int .i64 16, .slice (some ⟨B + 1, 0, none⟩) 1 1, .int .i64 pc, .int .i64 0, .int .i64 0, .slice (some ⟨B + 1 + 1, 0, none⟩) 1 1] 25)) := ((((Upto.refl [] w8).alloc _).alloc _).alloc _).alloc _
    have hnz := alloc_old (alloc_old (alloc_old (new_at w8 (.cells #[.string ⟨#[121]⟩] 9)) (.cells #[.int .i64 9, .slice (some ⟨w8.heap.size, 0, none⟩) 1 1, .int .i64 0, .int .i64 0, .int .i64 0, .slice none 0 0] 25)) (.cells #[.int .i64 (12 + pb), .slice none 0 0, .int .i64 0, .int .i64 0, .int .i64 0, .slice (some ⟨w8.heap.size + 1 + 1 + 1, 0, none⟩) 2 2] 25)) (.cells #[.int .i64 9, .slice (some ⟨w8.heap.size, 0, none⟩) 1 1, .int .i64 0, .int .i64 0, .int .i64 0, .slice none 0 0, .int .i64 16, .slice (some ⟨B + 1, 0, none⟩) 1 1, .int .i64 pc, .int .i64 0, .int .i64 0, .slice (some ⟨B + 1 + 1, 0, none⟩) 1 1] 25)
    have hfz := alloc_old (new_at1 (w8.alloc (.cells #[.string ⟨#[121]⟩] 9)) (.cells #[.int .i64 9, .slice (some ⟨w8.heap.size, 0, none⟩) 1 1, .int .i64 0, .int .i64 0, .int .i64 0, .slice none 0 0] 25) (.cells #[.int .i64 (12 + pb), .slice none 0 0, .int .i64 0, .int .i64 0, .int .i64 0, .slice (some ⟨w8.heap.size + 1 + 1 + 1, 0, none⟩) 2 2] 25)) (.cells #[.int .i64 9, .slice (some ⟨w8.heap.size, 0, none⟩) 1 1, .int .i64 0, .int .i64 0, .int .i64 0, .slice none 0 0, .int .i64 16, .slice (some ⟨B + 1, 0, none⟩) 1 1, .int .i64 pc, .int .i64 0, .int .i64 0, .slice (some ⟨B + 1 + 1, 0, none⟩) 1 1] 25)
    have hkz := new_at1 ((w8.alloc (.cells #[.string ⟨#[121]⟩] 9)).alloc (.cells #[.int .i64 9, .slice (some ⟨w8.heap.size, 0, none⟩) 1 1, .int .i64 0, .int .i64 0, .int .i64 0, .slice none 0 0] 25)) (.cells #[.int .i64 (12 + pb), .slice none 0 0, .int .i64 0, .int .i64 0, .int .i64 0, .slice (some ⟨w8.heap.size + 1 + 1 + 1, 0, none⟩) 2 2] 25) (.cells #[.int .i64 9, .slice (some ⟨w8.heap.size, 0, none⟩) 1 1, .int .i64 0, .int .i64 0, .int .i64 0, .slice none 0 0, .int .i64 16, .slice (some ⟨B + 1, 0, none⟩) 1 1, .int .i64 pc, .int .i64 0, .int .i64 0, .slice (some ⟨B + 1 + 1, 0, none⟩) 1 1] 25)
    simp only [World.size_alloc] at hfz hkz
    have HNZ : Hid (NdV ((((w8.alloc (.cells #[.string ⟨#[121]⟩] 9)).alloc (.cells #[.int .i64 9, .slice (some ⟨w8.heap.size, 0, none⟩) 1 1, .int .i64 0, .int .i64 0, .int .i64 0, .slice none 0 0] 25)).alloc (.cells #[.int .i64 (12 + pb), .slice none 0 0, .int .i64 0, .int .i64 0, .int .i64 0, .slice (some ⟨w8.heap.size + 1 + 1 + 1, 0, none⟩) 2 2] 25)).alloc (.cells #[.int .i64 9, .slice (some ⟨w8.heap.size, 0, none⟩) 1 1, .int .i64 0, .int .i64 0, .int .i64 0, .slice none 0 0, .int .i64 16, .slice (some ⟨B + 1, 0, none⟩) 1 1, .int .i64 pc, .int .i64 0, .int .i64 0, .slice (some ⟨B + 1 + 1, 0, none⟩) 1 1] 25)) AnyB (scN 0 pb pc n) (.agg #[.int .i64 (12 + pb), .slice none 0 0, .int .i64 0, .int .i64 0, .int .i64 0, .slice (some ⟨w8.heap.size + 1 + 1 + 1, 0, none⟩) 2 2])) := Lib.hid (NdV.two SlP.nil (NdV.atom (names := [[121]]) (SlP.block trivial hnz 1 1 [sV [121]] (fun j u hj => by simpa [sV] using hj))) (HNQ8.out.ext huz) trivial hkz)
    have HUZ := Lib.hid (HU8.out.trans_ext huz)
    have HFZ := Lib.hid hfz
    clear huz hnz hfz hkz
    have HT : Hid (ByteArray.mk #[111, 110, 101, 32, 121, 32] ++ ByteArray.mk (opWd pb).toArray ++ ByteArray.mk #[32] ++ ByteArray.mk SA.toArray = ByteArray.mk (scT 0 pb pc n).toArray) := Lib.hid (by
      show ByteArray.mk [111, 110, 101, 32, 121, 32].toArray ++ ByteArray.mk (opWd pb).toArray ++ ByteArray.mk [32].toArray ++ ByteArray.mk SA.toArray = _
      simp only [ByteArray.mk_append_mk]
      rw [HSE.out]
      rfl)
    rw [HT.out]
    have HPA : Hid (∀ u, Upto [] w u → Calls Tryz.prog 22 #[.string ⟨(scT 0 pb pc n).toArray⟩] u fun e w' => ∃ v, e = .returned (.tuple #[v, .agg #[.int .i64 0, .int .i64 0], .int .i64 0]) ∧ NdV w' (New u) (scN 0 pb pc n) v ∧ Upto [] u w') := Lib.hid (by
      have hs := HSE.out
      have hl := HLEN.out
      obtain ⟨h1, h2, h3⟩ := HOK.out
      intro u hu
      have h := HPF.out u (scT 0 pb pc n) hu (by simp only [scT, List.length_append, List.length_cons, List.length_nil, ← hs]; omega)
      rw [sc_read 0 pb pc (by decide) hb4 (by omega) n h1 (by omega) h2 (by rw [← hs]; omega)] at h
      exact h)
    have HBG : Hid (sizeF (scN 0 pb pc n) ≤ 1000 ∧ bigN (scN 0 pb pc n)) := Lib.hid (by
      obtain ⟨h1, h2, h3⟩ := HOK.out
      constructor
      · simp only [scN, quN, onY, sizeF, sizesF]; omega
      · simp [scN, quN, onY, bigN, bigsN, hbg])
    generalize ((((w8.alloc (.cells #[.string ⟨#[121]⟩] 9)).alloc (.cells #[.int .i64 9, .slice (some ⟨w8.heap.size, 0, none⟩) 1 1, .int .i64 0, .int .i64 0, .int .i64 0, .slice none 0 0] 25)).alloc (.cells #[.int .i64 (12 + pb), .slice none 0 0, .int .i64 0, .int .i64 0, .int .i64 0, .slice (some ⟨w8.heap.size + 1 + 1 + 1, 0, none⟩) 2 2] 25)).alloc (.cells #[.int .i64 9, .slice (some ⟨w8.heap.size, 0, none⟩) 1 1, .int .i64 0, .int .i64 0, .int .i64 0, .slice none 0 0, .int .i64 16, .slice (some ⟨B + 1, 0, none⟩) 1 1, .int .i64 pc, .int .i64 0, .int .i64 0, .slice (some ⟨B + 1 + 1, 0, none⟩) 1 1] 25)) = W9 at *
    generalize w8.heap.size = D at *
    clear HT HLEN HSE HSZ HQN8 HWD8 HNQ8 HU8
    refine (HPA.out W9 HUZ.out).mono ?_
    rintro e w10 ⟨v, rfl, hv, hu⟩
    obtain ⟨po, pn1, pn2, pn3, ps, pm, pq, pl1, pl2, pl3, rfl⟩ := hv.six
    have HV10 := Lib.hid hv
    have HNY := Lib.hid (HNZ.out.ext hu)
    have HU10 := Lib.hid (HUZ.out.trans_ext hu)
    have hf10 := hu.at HFZ.out (by simp)
    have HF10 := Lib.hid hf10
    clear hv hu hf10 HUZ HNZ HFZ HPA HPF
    go_wp2_with fail
    generalize hWB : ((w10.alloc (.cells #[.int .i64 po, .slice pn1 pn2 pn3, .int .i64 ps, .int .i64 pm, .int .i64 pq, .slice pl1 pl2 pl3] 34)).alloc (.cells #[.int .i64 0, .int .i64 0] 36)) = WB
    have hub : Upto [] w10 WB := by rw [← hWB]; exact ((Upto.refl [] w10).alloc _).alloc _
    have hx : WB.heap[w10.heap.size]? = some (.cells #[.int .i64 po, .slice pn1 pn2 pn3, .int .i64 ps, .int .i64 pm, .int .i64 pq, .slice pl1 pl2 pl3] 34 (0, 0)) := by rw [← hWB]; exact alloc_old (new_at w10 _) _
    have hf := hub.at HF10.out (by simp)
    have HUB := Lib.hid (HU10.out.trans_ext hub)
    have HVB := Lib.hid (HV10.out.ext hub)
    have HNB2 := Lib.hid (HNY.out.ext hub)
    clear hWB hub
    generalize w10.heap.size = G at *
    have g0 : ∀ u : Ext WB, u.w.cell? ⟨G, 0, none⟩ = some (.int .i64 po) := fun u => u.cell (cell_of hx 0)
    have g1 : ∀ u : Ext WB, u.w.cell? ⟨G, 1, none⟩ = some (.slice pn1 pn2 pn3) := fun u => u.cell (cell_of hx 1)
    have g2 : ∀ u : Ext WB, u.w.cell? ⟨G, 2, none⟩ = some (.int .i64 ps) := fun u => u.cell (cell_of hx 2)
    have g3 : ∀ u : Ext WB, u.w.cell? ⟨G, 3, none⟩ = some (.int .i64 pm) := fun u => u.cell (cell_of hx 3)
    have g4 : ∀ u : Ext WB, u.w.cell? ⟨G, 4, none⟩ = some (.int .i64 pq) := fun u => u.cell (cell_of hx 4)
    have g5 : ∀ u : Ext WB, u.w.cell? ⟨G, 5, none⟩ = some (.slice pl1 pl2 pl3) := fun u => u.cell (cell_of hx 5)
    have f0 : ∀ u : Ext WB, u.w.cell? ⟨D + 1 + 1, 0, none⟩ = some (.int .i64 (12 + pb)) := fun u => u.cell (cell_of hf 0)
    have f1 : ∀ u : Ext WB, u.w.cell? ⟨D + 1 + 1, 1, none⟩ = some (.slice none 0 0) := fun u => u.cell (cell_of hf 1)
    have f2 : ∀ u : Ext WB, u.w.cell? ⟨D + 1 + 1, 2, none⟩ = some (.int .i64 0) := fun u => u.cell (cell_of hf 2)
    have f3 : ∀ u : Ext WB, u.w.cell? ⟨D + 1 + 1, 3, none⟩ = some (.int .i64 0) := fun u => u.cell (cell_of hf 3)
    have f4 : ∀ u : Ext WB, u.w.cell? ⟨D + 1 + 1, 4, none⟩ = some (.int .i64 0) := fun u => u.cell (cell_of hf 4)
    have f5 : ∀ u : Ext WB, u.w.cell? ⟨D + 1 + 1, 5, none⟩ = some (.slice (some ⟨D + 1 + 1 + 1, 0, none⟩) 2 2) := fun u => u.cell (cell_of hf 5)
    have HCB : Hid (∀ u, Upto [] WB u → Calls Tryz.prog 24 #[.agg #[.int .i64 po, .slice pn1 pn2 pn3, .int .i64 ps, .int .i64 pm, .int .i64 pq, .slice pl1 pl2 pl3]] u (BkPost u (scN 0 pb pc n))) := Lib.hid (fun u hu => back_calls _ _ (Nat.le_refl _) (by have := HBG.out.1; omega) HBG.out.2 _ _ u (HVB.out.ext hu))
    have HCS : Hid (∀ u (Q : Nat → Prop) v, Upto [] WB u → NdV u Q (scN 0 pb pc n) v → Calls Tryz.prog 23 #[v, .agg #[.int .i64 (12 + pb), .slice none 0 0, .int .i64 0, .int .i64 0, .int .i64 0, .slice (some ⟨D + 1 + 1 + 1, 0, none⟩) 2 2]] u fun e w' => e = .returned (.bool true) ∧ Upto [] u w') := Lib.hid (fun u Q v hu hv => by
      have h := same_calls _ _ (Nat.le_refl _) (huge_of _ (by have := HBG.out.1; omega) HBG.out.2) _ _ _ _ _ u hv (HNB2.out.ext hu)
      rw [(sameF_eq _ _).2 rfl] at h
      exact h)
    clear hx hf
    refine wp_region_seg_all [4, 6] [] [0, 1, 2, 3, 4, 5, 6, 7, 8] (by kernel_rfl) (by kernel_rfl) ?_
    iterate 4 (refine seg_plain rfl rfl rfl rfl rfl ?_; intro K' hK'; go_big_quiet_op; go_big_quiet_on)
    refine seg_callO (Y := (Int × Option Addr × Nat × Nat) × Int × Int × Int × Option Addr × Nat × Nat) (fun y => .agg #[.int .i64 y.1.1, .slice y.1.2.1 y.1.2.2.1 y.1.2.2.2, .int .i64 y.2.1, .int .i64 y.2.2.1, .int .i64 y.2.2.2.1, .slice y.2.2.2.2.1 y.2.2.2.2.2.1 y.2.2.2.2.2.2]) (fun y u => NdV u AnyB (scN 0 pb pc n) (.agg #[.int .i64 y.1.1, .slice y.1.2.1 y.1.2.2.1 y.1.2.2.2, .int .i64 y.2.1, .int .i64 y.2.2.1, .int .i64 y.2.2.2.1, .slice y.2.2.2.2.1 y.2.2.2.2.2.1 y.2.2.2.2.2.2])) (fun _ => []) rfl rfl rfl rfl (fun _ _ _ h hu => h.ext hu) (fun _ => List.nodup_nil) (fun w => by go_simp) (fun w' hu hd => (HCB.out w' hu).mono fun e w2 ⟨v, h1, h2, h3⟩ => by
      obtain ⟨ro, rn1, rn2, rn3, rs, rm, rq, rl1, rl2, rl3, rfl⟩ := h2.six
      exact ⟨((ro, rn1, rn2, rn3), rs, rm, rq, rl1, rl2, rl3), h1, h3, h2.mono (fun b hb _ => trivial), fun b hb => by cases hb⟩) ?_
    rintro ⟨⟨ro, rn1, rn2, rn3⟩, rs, rm, rq, rl1, rl2, rl3⟩
    simp only [Act.put, List.setIfInBounds_toArray, List.set_cons_zero, List.set_cons_succ]
    (refine seg_plain rfl rfl rfl rfl rfl ?_; intro K' hK'; go_big_quiet_op; go_big_quiet_on)
    refine seg_call rfl rfl rfl rfl (fun w => by go_simp) (fun w hu hd => HCS.out w _ _ hu (hd.1 (by kernel_rfl))) ?_
    simp only [Act.put, List.setIfInBounds_toArray, List.set_cons_zero, List.set_cons_succ]
    iterate 2 (refine seg_plain rfl rfl rfl rfl rfl ?_; intro K' hK'; go_big_quiet_op; go_big_quiet_on)
    intro w12 hg
    have HU12 := Lib.hid (HUB.out.trans_ext hg.up)
    clear hg g0 f0 g1 f1 g2 f2 g3 f3 g4 f4 g5 f5
    go_wp2_with fail
    go_ret
    exact ⟨rfl, HU12.out⟩
  · have sm0 : 4 + SA.length ≤ 9223372036854775807 := by omega
    go_wp2_with fail
    clear sm0 q0 q1 q2 q3 q4 q5 r0 r1 r2 r3 r4 r5 y0 y1 y2 y3 y4 y5 s0 s1 s2 s3 s4 s5 sf0 sf1 sf2 sf3 sf4 sf5 hwb
    have huz : Upto [] w8 ((((w8.alloc (.cells #[.string ⟨#[121]⟩] 9)).alloc (.cells #[.int .i64 9, .slice (some ⟨w8.heap.size, 0, none⟩) 1 1, .int .i64 0, .int .i64 0, .int .i64 0, .slice none 0 0] 25)).alloc (.cells #[.int .i64 11, .slice none 0 0, .int .i64 0, .int .i64 0, .int .i64 0, .slice (some ⟨w8.heap.size + 1 + 1 + 1, 0, none⟩) 1 1] 25)).alloc (.cells #[.int .i64 16, .slice (some ⟨B + 1, 0, none⟩) 1 1, .int .i64 pc, .int .i64 0, .int .i64 0, .slice (some ⟨B + 1 + 1, 0, none⟩) 1 1] 25)) := ((((Upto.refl [] w8).alloc _).alloc _).alloc _).alloc _
    have hnz := alloc_old (alloc_old (alloc_old (new_at w8 (.cells #[.string ⟨#[121]⟩] 9)) (.cells #[.int .i64 9, .slice (some ⟨w8.heap.size, 0, none⟩) 1 1, .int .i64 0, .int .i64 0, .int .i64 0, .slice none 0 0] 25)) (.cells #[.int .i64 11, .slice none 0 0, .int .i64 0, .int .i64 0, .int .i64 0, .slice (some ⟨w8.heap.size + 1 + 1 + 1, 0, none⟩) 1 1] 25)) (.cells #[.int .i64 16, .slice (some ⟨B + 1, 0, none⟩) 1 1, .int .i64 pc, .int .i64 0, .int .i64 0, .slice (some ⟨B + 1 + 1, 0, none⟩) 1 1] 25)
    have hfz := alloc_old (new_at1 (w8.alloc (.cells #[.string ⟨#[121]⟩] 9)) (.cells #[.int .i64 9, .slice (some ⟨w8.heap.size, 0, none⟩) 1 1, .int .i64 0, .int .i64 0, .int .i64 0, .slice none 0 0] 25) (.cells #[.int .i64 11, .slice none 0 0, .int .i64 0, .int .i64 0, .int .i64 0, .slice (some ⟨w8.heap.size + 1 + 1 + 1, 0, none⟩) 1 1] 25)) (.cells #[.int .i64 16, .slice (some ⟨B + 1, 0, none⟩) 1 1, .int .i64 pc, .int .i64 0, .int .i64 0, .slice (some ⟨B + 1 + 1, 0, none⟩) 1 1] 25)
    have hkz := new_at1 ((w8.alloc (.cells #[.string ⟨#[121]⟩] 9)).alloc (.cells #[.int .i64 9, .slice (some ⟨w8.heap.size, 0, none⟩) 1 1, .int .i64 0, .int .i64 0, .int .i64 0, .slice none 0 0] 25)) (.cells #[.int .i64 11, .slice none 0 0, .int .i64 0, .int .i64 0, .int .i64 0, .slice (some ⟨w8.heap.size + 1 + 1 + 1, 0, none⟩) 1 1] 25) (.cells #[.int .i64 16, .slice (some ⟨B + 1, 0, none⟩) 1 1, .int .i64 pc, .int .i64 0, .int .i64 0, .slice (some ⟨B + 1 + 1, 0, none⟩) 1 1] 25)
    simp only [World.size_alloc] at hfz hkz
    have HNZ : Hid (NdV ((((w8.alloc (.cells #[.string ⟨#[121]⟩] 9)).alloc (.cells #[.int .i64 9, .slice (some ⟨w8.heap.size, 0, none⟩) 1 1, .int .i64 0, .int .i64 0, .int .i64 0, .slice none 0 0] 25)).alloc (.cells #[.int .i64 11, .slice none 0 0, .int .i64 0, .int .i64 0, .int .i64 0, .slice (some ⟨w8.heap.size + 1 + 1 + 1, 0, none⟩) 1 1] 25)).alloc (.cells #[.int .i64 16, .slice (some ⟨B + 1, 0, none⟩) 1 1, .int .i64 pc, .int .i64 0, .int .i64 0, .slice (some ⟨B + 1 + 1, 0, none⟩) 1 1] 25)) AnyB (scN 1 pb pc n) (.agg #[.int .i64 11, .slice none 0 0, .int .i64 0, .int .i64 0, .int .i64 0, .slice (some ⟨w8.heap.size + 1 + 1 + 1, 0, none⟩) 1 1])) := Lib.hid (NdV.one SlP.nil (HNQ8.out.ext huz) trivial hkz)
    have HUZ := Lib.hid (HU8.out.trans_ext huz)
    have HFZ := Lib.hid hfz
    clear huz hnz hfz hkz
    have HT : Hid (ByteArray.mk #[110, 111, 116, 32] ++ ByteArray.mk SA.toArray = ByteArray.mk (scT 1 pb pc n).toArray) := Lib.hid (by
      show ByteArray.mk [110, 111, 116, 32].toArray ++ ByteArray.mk SA.toArray = _
      simp only [ByteArray.mk_append_mk]
      rw [HSE.out]
      rfl)
    rw [HT.out]
    have HPA : Hid (∀ u, Upto [] w u → Calls Tryz.prog 22 #[.string ⟨(scT 1 pb pc n).toArray⟩] u fun e w' => ∃ v, e = .returned (.tuple #[v, .agg #[.int .i64 0, .int .i64 0], .int .i64 0]) ∧ NdV w' (New u) (scN 1 pb pc n) v ∧ Upto [] u w') := Lib.hid (by
      have hs := HSE.out
      have hl := HLEN.out
      obtain ⟨h1, h2, h3⟩ := HOK.out
      intro u hu
      have h := HPF.out u (scT 1 pb pc n) hu (by simp only [scT, List.length_append, List.length_cons, List.length_nil, ← hs]; omega)
      rw [sc_read 1 pb pc (by decide) hb4 (by omega) n h1 (by omega) h2 (by rw [← hs]; omega)] at h
      exact h)
    have HBG : Hid (sizeF (scN 1 pb pc n) ≤ 1000 ∧ bigN (scN 1 pb pc n)) := Lib.hid (by
      obtain ⟨h1, h2, h3⟩ := HOK.out
      constructor
      · simp only [scN, quN, onY, sizeF, sizesF]; omega
      · simp [scN, quN, onY, bigN, bigsN, hbg])
    generalize ((((w8.alloc (.cells #[.string ⟨#[121]⟩] 9)).alloc (.cells #[.int .i64 9, .slice (some ⟨w8.heap.size, 0, none⟩) 1 1, .int .i64 0, .int .i64 0, .int .i64 0, .slice none 0 0] 25)).alloc (.cells #[.int .i64 11, .slice none 0 0, .int .i64 0, .int .i64 0, .int .i64 0, .slice (some ⟨w8.heap.size + 1 + 1 + 1, 0, none⟩) 1 1] 25)).alloc (.cells #[.int .i64 16, .slice (some ⟨B + 1, 0, none⟩) 1 1, .int .i64 pc, .int .i64 0, .int .i64 0, .slice (some ⟨B + 1 + 1, 0, none⟩) 1 1] 25)) = W9 at *
    generalize w8.heap.size = D at *
    clear HT HLEN HSE HSZ HQN8 HWD8 HNQ8 HU8
    refine (HPA.out W9 HUZ.out).mono ?_
    rintro e w10 ⟨v, rfl, hv, hu⟩
    obtain ⟨po, pn1, pn2, pn3, ps, pm, pq, pl1, pl2, pl3, rfl⟩ := hv.six
    have HV10 := Lib.hid hv
    have HNY := Lib.hid (HNZ.out.ext hu)
    have HU10 := Lib.hid (HUZ.out.trans_ext hu)
    have hf10 := hu.at HFZ.out (by simp)
    have HF10 := Lib.hid hf10
    clear hv hu hf10 HUZ HNZ HFZ HPA HPF
    go_wp2_with fail
    generalize hWB : ((w10.alloc (.cells #[.int .i64 po, .slice pn1 pn2 pn3, .int .i64 ps, .int .i64 pm, .int .i64 pq, .slice pl1 pl2 pl3] 34)).alloc (.cells #[.int .i64 0, .int .i64 0] 36)) = WB
    have hub : Upto [] w10 WB := by rw [← hWB]; exact ((Upto.refl [] w10).alloc _).alloc _
    have hx : WB.heap[w10.heap.size]? = some (.cells #[.int .i64 po, .slice pn1 pn2 pn3, .int .i64 ps, .int .i64 pm, .int .i64 pq, .slice pl1 pl2 pl3] 34 (0, 0)) := by rw [← hWB]; exact alloc_old (new_at w10 _) _
    have hf := hub.at HF10.out (by simp)
    have HUB := Lib.hid (HU10.out.trans_ext hub)
    have HVB := Lib.hid (HV10.out.ext hub)
    have HNB2 := Lib.hid (HNY.out.ext hub)
    clear hWB hub
    generalize w10.heap.size = G at *
    have g0 : ∀ u : Ext WB, u.w.cell? ⟨G, 0, none⟩ = some (.int .i64 po) := fun u => u.cell (cell_of hx 0)
    have g1 : ∀ u : Ext WB, u.w.cell? ⟨G, 1, none⟩ = some (.slice pn1 pn2 pn3) := fun u => u.cell (cell_of hx 1)
    have g2 : ∀ u : Ext WB, u.w.cell? ⟨G, 2, none⟩ = some (.int .i64 ps) := fun u => u.cell (cell_of hx 2)
    have g3 : ∀ u : Ext WB, u.w.cell? ⟨G, 3, none⟩ = some (.int .i64 pm) := fun u => u.cell (cell_of hx 3)
    have g4 : ∀ u : Ext WB, u.w.cell? ⟨G, 4, none⟩ = some (.int .i64 pq) := fun u => u.cell (cell_of hx 4)
    have g5 : ∀ u : Ext WB, u.w.cell? ⟨G, 5, none⟩ = some (.slice pl1 pl2 pl3) := fun u => u.cell (cell_of hx 5)
    have f0 : ∀ u : Ext WB, u.w.cell? ⟨D + 1 + 1, 0, none⟩ = some (.int .i64 11) := fun u => u.cell (cell_of hf 0)
    have f1 : ∀ u : Ext WB, u.w.cell? ⟨D + 1 + 1, 1, none⟩ = some (.slice none 0 0) := fun u => u.cell (cell_of hf 1)
    have f2 : ∀ u : Ext WB, u.w.cell? ⟨D + 1 + 1, 2, none⟩ = some (.int .i64 0) := fun u => u.cell (cell_of hf 2)
    have f3 : ∀ u : Ext WB, u.w.cell? ⟨D + 1 + 1, 3, none⟩ = some (.int .i64 0) := fun u => u.cell (cell_of hf 3)
    have f4 : ∀ u : Ext WB, u.w.cell? ⟨D + 1 + 1, 4, none⟩ = some (.int .i64 0) := fun u => u.cell (cell_of hf 4)
    have f5 : ∀ u : Ext WB, u.w.cell? ⟨D + 1 + 1, 5, none⟩ = some (.slice (some ⟨D + 1 + 1 + 1, 0, none⟩) 1 1) := fun u => u.cell (cell_of hf 5)
    have HCB : Hid (∀ u, Upto [] WB u → Calls Tryz.prog 24 #[.agg #[.int .i64 po, .slice pn1 pn2 pn3, .int .i64 ps, .int .i64 pm, .int .i64 pq, .slice pl1 pl2 pl3]] u (BkPost u (scN 1 pb pc n))) := Lib.hid (fun u hu => back_calls _ _ (Nat.le_refl _) (by have := HBG.out.1; omega) HBG.out.2 _ _ u (HVB.out.ext hu))
    have HCS : Hid (∀ u (Q : Nat → Prop) v, Upto [] WB u → NdV u Q (scN 1 pb pc n) v → Calls Tryz.prog 23 #[v, .agg #[.int .i64 11, .slice none 0 0, .int .i64 0, .int .i64 0, .int .i64 0, .slice (some ⟨D + 1 + 1 + 1, 0, none⟩) 1 1]] u fun e w' => e = .returned (.bool true) ∧ Upto [] u w') := Lib.hid (fun u Q v hu hv => by
      have h := same_calls _ _ (Nat.le_refl _) (huge_of _ (by have := HBG.out.1; omega) HBG.out.2) _ _ _ _ _ u hv (HNB2.out.ext hu)
      rw [(sameF_eq _ _).2 rfl] at h
      exact h)
    clear hx hf
    refine wp_region_seg_all [4, 6] [] [0, 1, 2, 3, 4, 5, 6, 7, 8] (by kernel_rfl) (by kernel_rfl) ?_
    iterate 4 (refine seg_plain rfl rfl rfl rfl rfl ?_; intro K' hK'; go_big_quiet_op; go_big_quiet_on)
    refine seg_callO (Y := (Int × Option Addr × Nat × Nat) × Int × Int × Int × Option Addr × Nat × Nat) (fun y => .agg #[.int .i64 y.1.1, .slice y.1.2.1 y.1.2.2.1 y.1.2.2.2, .int .i64 y.2.1, .int .i64 y.2.2.1, .int .i64 y.2.2.2.1, .slice y.2.2.2.2.1 y.2.2.2.2.2.1 y.2.2.2.2.2.2]) (fun y u => NdV u AnyB (scN 1 pb pc n) (.agg #[.int .i64 y.1.1, .slice y.1.2.1 y.1.2.2.1 y.1.2.2.2, .int .i64 y.2.1, .int .i64 y.2.2.1, .int .i64 y.2.2.2.1, .slice y.2.2.2.2.1 y.2.2.2.2.2.1 y.2.2.2.2.2.2])) (fun _ => []) rfl rfl rfl rfl (fun _ _ _ h hu => h.ext hu) (fun _ => List.nodup_nil) (fun w => by go_simp) (fun w' hu hd => (HCB.out w' hu).mono fun e w2 ⟨v, h1, h2, h3⟩ => by
      obtain ⟨ro, rn1, rn2, rn3, rs, rm, rq, rl1, rl2, rl3, rfl⟩ := h2.six
      exact ⟨((ro, rn1, rn2, rn3), rs, rm, rq, rl1, rl2, rl3), h1, h3, h2.mono (fun b hb _ => trivial), fun b hb => by cases hb⟩) ?_
    rintro ⟨⟨ro, rn1, rn2, rn3⟩, rs, rm, rq, rl1, rl2, rl3⟩
    simp only [Act.put, List.setIfInBounds_toArray, List.set_cons_zero, List.set_cons_succ]
    (refine seg_plain rfl rfl rfl rfl rfl ?_; intro K' hK'; go_big_quiet_op; go_big_quiet_on)
    refine seg_call rfl rfl rfl rfl (fun w => by go_simp) (fun w hu hd => HCS.out w _ _ hu (hd.1 (by kernel_rfl))) ?_
    simp only [Act.put, List.setIfInBounds_toArray, List.set_cons_zero, List.set_cons_succ]
    iterate 2 (refine seg_plain rfl rfl rfl rfl rfl ?_; intro K' hK'; go_big_quiet_op; go_big_quiet_on)
    intro w12 hg
    have HU12 := Lib.hid (HUB.out.trans_ext hg.up)
    clear hg g0 f0 g1 f1 g2 f2 g3 f3 g4 f4 g5 f5
    go_wp2_with fail
    go_ret
    exact ⟨rfl, HU12.out⟩
  · have sm0 : 1 + SA.length ≤ 9223372036854775807 := by omega
    have sm1 : 1 + SA.length + 2 ≤ 9223372036854775807 := by omega
    have sm2 : 1 + SA.length + 2 + (opWd pb).length ≤ 9223372036854775807 := by omega
    have sm3 : 1 + SA.length + 2 + (opWd pb).length + 6 ≤ 9223372036854775807 := by omega
    go_wp2_with fail
    clear sm0 sm1 sm2 sm3 q0 q1 q2 q3 q4 q5 r0 r1 r2 r3 r4 r5 y0 y1 y2 y3 y4 y5 s0 s1 s2 s3 s4 s5 sf0 sf1 sf2 sf3 sf4 sf5 hwb
    have huz : Upto [] w8 ((((w8.alloc (.cells #[.string ⟨#[121]⟩] 9)).alloc (.cells #[.int .i64 9, .slice (some ⟨w8.heap.size, 0, none⟩) 1 1, .int .i64 0, .int .i64 0, .int .i64 0, .slice none 0 0] 25)).alloc (.cells #[.int .i64 (12 + pb), .slice none 0 0, .int .i64 0, .int .i64 0, .int .i64 0, .slice (some ⟨w8.heap.size + 1 + 1 + 1, 0, none⟩) 2 2] 25)).alloc (.cells #[.int .i64 16, .slice (some ⟨B + 1, 0, none⟩) 1 1, .int .i64 pc, .int .i64 0, .int .i64 0, .slice (some ⟨B + 1 + 1, 0, none⟩) 1 1, .int .i64 9, .slice (some ⟨w8.heap.size, 0, none⟩) 1 1, .int .i64 0, .int .i64 0, .int .i64 0, .slice none 0 0] 25)) := ((((Upto.refl [] w8).alloc _).alloc _).alloc _).alloc _
    have hnz := alloc_old (alloc_old (alloc_old (new_at w8 (.cells #[.string ⟨#[121]⟩] 9)) (.cells #[.int .i64 9, .slice (some ⟨w8.heap.size, 0, none⟩) 1 1, .int .i64 0, .int .i64 0, .int .i64 0, .slice none 0 0] 25)) (.cells #[.int .i64 (12 + pb), .slice none 0 0, .int .i64 0, .int .i64 0, .int .i64 0, .slice (some ⟨w8.heap.size + 1 + 1 + 1, 0, none⟩) 2 2] 25)) (.cells #[.int .i64 16, .slice (some ⟨B + 1, 0, none⟩) 1 1, .int .i64 pc, .int .i64 0, .int .i64 0, .slice (some ⟨B + 1 + 1, 0, none⟩) 1 1, .int .i64 9, .slice (some ⟨w8.heap.size, 0, none⟩) 1 1, .int .i64 0, .int .i64 0, .int .i64 0, .slice none 0 0] 25)
    have hfz := alloc_old (new_at1 (w8.alloc (.cells #[.string ⟨#[121]⟩] 9)) (.cells #[.int .i64 9, .slice (some ⟨w8.heap.size, 0, none⟩) 1 1, .int .i64 0, .int .i64 0, .int .i64 0, .slice none 0 0] 25) (.cells #[.int .i64 (12 + pb), .slice none 0 0, .int .i64 0, .int .i64 0, .int .i64 0, .slice (some ⟨w8.heap.size + 1 + 1 + 1, 0, none⟩) 2 2] 25)) (.cells #[.int .i64 16, .slice (some ⟨B + 1, 0, none⟩) 1 1, .int .i64 pc, .int .i64 0, .int .i64 0, .slice (some ⟨B + 1 + 1, 0, none⟩) 1 1, .int .i64 9, .slice (some ⟨w8.heap.size, 0, none⟩) 1 1, .int .i64 0, .int .i64 0, .int .i64 0, .slice none 0 0] 25)
    have hkz := new_at1 ((w8.alloc (.cells #[.string ⟨#[121]⟩] 9)).alloc (.cells #[.int .i64 9, .slice (some ⟨w8.heap.size, 0, none⟩) 1 1, .int .i64 0, .int .i64 0, .int .i64 0, .slice none 0 0] 25)) (.cells #[.int .i64 (12 + pb), .slice none 0 0, .int .i64 0, .int .i64 0, .int .i64 0, .slice (some ⟨w8.heap.size + 1 + 1 + 1, 0, none⟩) 2 2] 25) (.cells #[.int .i64 16, .slice (some ⟨B + 1, 0, none⟩) 1 1, .int .i64 pc, .int .i64 0, .int .i64 0, .slice (some ⟨B + 1 + 1, 0, none⟩) 1 1, .int .i64 9, .slice (some ⟨w8.heap.size, 0, none⟩) 1 1, .int .i64 0, .int .i64 0, .int .i64 0, .slice none 0 0] 25)
    simp only [World.size_alloc] at hfz hkz
    have HNZ : Hid (NdV ((((w8.alloc (.cells #[.string ⟨#[121]⟩] 9)).alloc (.cells #[.int .i64 9, .slice (some ⟨w8.heap.size, 0, none⟩) 1 1, .int .i64 0, .int .i64 0, .int .i64 0, .slice none 0 0] 25)).alloc (.cells #[.int .i64 (12 + pb), .slice none 0 0, .int .i64 0, .int .i64 0, .int .i64 0, .slice (some ⟨w8.heap.size + 1 + 1 + 1, 0, none⟩) 2 2] 25)).alloc (.cells #[.int .i64 16, .slice (some ⟨B + 1, 0, none⟩) 1 1, .int .i64 pc, .int .i64 0, .int .i64 0, .slice (some ⟨B + 1 + 1, 0, none⟩) 1 1, .int .i64 9, .slice (some ⟨w8.heap.size, 0, none⟩) 1 1, .int .i64 0, .int .i64 0, .int .i64 0, .slice none 0 0] 25)) AnyB (scN 2 pb pc n) (.agg #[.int .i64 (12 + pb), .slice none 0 0, .int .i64 0, .int .i64 0, .int .i64 0, .slice (some ⟨w8.heap.size + 1 + 1 + 1, 0, none⟩) 2 2])) := Lib.hid (NdV.two SlP.nil (HNQ8.out.ext huz) (NdV.atom (names := [[121]]) (SlP.block trivial hnz 1 1 [sV [121]] (fun j u hj => by simpa [sV] using hj))) trivial hkz)
    have HUZ := Lib.hid (HU8.out.trans_ext huz)
    have HFZ := Lib.hid hfz
    clear huz hnz hfz hkz
    have HT : Hid (ByteArray.mk #[40] ++ ByteArray.mk SA.toArray ++ ByteArray.mk #[41, 32] ++ ByteArray.mk (opWd pb).toArray ++ ByteArray.mk #[32, 111, 110, 101, 32, 121] = ByteArray.mk (scT 2 pb pc n).toArray) := Lib.hid (by
      show ByteArray.mk [40].toArray ++ ByteArray.mk SA.toArray ++ ByteArray.mk [41, 32].toArray ++ ByteArray.mk (opWd pb).toArray ++ ByteArray.mk [32, 111, 110, 101, 32, 121].toArray = _
      simp only [ByteArray.mk_append_mk]
      rw [HSE.out]
      rfl)
    rw [HT.out]
    have HPA : Hid (∀ u, Upto [] w u → Calls Tryz.prog 22 #[.string ⟨(scT 2 pb pc n).toArray⟩] u fun e w' => ∃ v, e = .returned (.tuple #[v, .agg #[.int .i64 0, .int .i64 0], .int .i64 0]) ∧ NdV w' (New u) (scN 2 pb pc n) v ∧ Upto [] u w') := Lib.hid (by
      have hs := HSE.out
      have hl := HLEN.out
      obtain ⟨h1, h2, h3⟩ := HOK.out
      intro u hu
      have h := HPF.out u (scT 2 pb pc n) hu (by simp only [scT, List.length_append, List.length_cons, List.length_nil, ← hs]; omega)
      rw [sc_read 2 pb pc (by decide) hb4 (by omega) n h1 (by omega) h2 (by rw [← hs]; omega)] at h
      exact h)
    have HBG : Hid (sizeF (scN 2 pb pc n) ≤ 1000 ∧ bigN (scN 2 pb pc n)) := Lib.hid (by
      obtain ⟨h1, h2, h3⟩ := HOK.out
      constructor
      · simp only [scN, quN, onY, sizeF, sizesF]; omega
      · simp [scN, quN, onY, bigN, bigsN, hbg])
    generalize ((((w8.alloc (.cells #[.string ⟨#[121]⟩] 9)).alloc (.cells #[.int .i64 9, .slice (some ⟨w8.heap.size, 0, none⟩) 1 1, .int .i64 0, .int .i64 0, .int .i64 0, .slice none 0 0] 25)).alloc (.cells #[.int .i64 (12 + pb), .slice none 0 0, .int .i64 0, .int .i64 0, .int .i64 0, .slice (some ⟨w8.heap.size + 1 + 1 + 1, 0, none⟩) 2 2] 25)).alloc (.cells #[.int .i64 16, .slice (some ⟨B + 1, 0, none⟩) 1 1, .int .i64 pc, .int .i64 0, .int .i64 0, .slice (some ⟨B + 1 + 1, 0, none⟩) 1 1, .int .i64 9, .slice (some ⟨w8.heap.size, 0, none⟩) 1 1, .int .i64 0, .int .i64 0, .int .i64 0, .slice none 0 0] 25)) = W9 at *
    generalize w8.heap.size = D at *
    clear HT HLEN HSE HSZ HQN8 HWD8 HNQ8 HU8
    refine (HPA.out W9 HUZ.out).mono ?_
    rintro e w10 ⟨v, rfl, hv, hu⟩
    obtain ⟨po, pn1, pn2, pn3, ps, pm, pq, pl1, pl2, pl3, rfl⟩ := hv.six
    have HV10 := Lib.hid hv
    have HNY := Lib.hid (HNZ.out.ext hu)
    have HU10 := Lib.hid (HUZ.out.trans_ext hu)
    have hf10 := hu.at HFZ.out (by simp)
    have HF10 := Lib.hid hf10
    clear hv hu hf10 HUZ HNZ HFZ HPA HPF
    go_wp2_with fail
    generalize hWB : ((w10.alloc (.cells #[.int .i64 po, .slice pn1 pn2 pn3, .int .i64 ps, .int .i64 pm, .int .i64 pq, .slice pl1 pl2 pl3] 34)).alloc (.cells #[.int .i64 0, .int .i64 0] 36)) = WB
    have hub : Upto [] w10 WB := by rw [← hWB]; exact ((Upto.refl [] w10).alloc _).alloc _
    have hx : WB.heap[w10.heap.size]? = some (.cells #[.int .i64 po, .slice pn1 pn2 pn3, .int .i64 ps, .int .i64 pm, .int .i64 pq, .slice pl1 pl2 pl3] 34 (0, 0)) := by rw [← hWB]; exact alloc_old (new_at w10 _) _
    have hf := hub.at HF10.out (by simp)
    have HUB := Lib.hid (HU10.out.trans_ext hub)
    have HVB := Lib.hid (HV10.out.ext hub)
    have HNB2 := Lib.hid (HNY.out.ext hub)
    clear hWB hub
    generalize w10.heap.size = G at *
    have g0 : ∀ u : Ext WB, u.w.cell? ⟨G, 0, none⟩ = some (.int .i64 po) := fun u => u.cell (cell_of hx 0)
    have g1 : ∀ u : Ext WB, u.w.cell? ⟨G, 1, none⟩ = some (.slice pn1 pn2 pn3) := fun u => u.cell (cell_of hx 1)
    have g2 : ∀ u : Ext WB, u.w.cell? ⟨G, 2, none⟩ = some (.int .i64 ps) := fun u => u.cell (cell_of hx 2)
    have g3 : ∀ u : Ext WB, u.w.cell? ⟨G, 3, none⟩ = some (.int .i64 pm) := fun u => u.cell (cell_of hx 3)
    have g4 : ∀ u : Ext WB, u.w.cell? ⟨G, 4, none⟩ = some (.int .i64 pq) := fun u => u.cell (cell_of hx 4)
    have g5 : ∀ u : Ext WB, u.w.cell? ⟨G, 5, none⟩ = some (.slice pl1 pl2 pl3) := fun u => u.cell (cell_of hx 5)
    have f0 : ∀ u : Ext WB, u.w.cell? ⟨D + 1 + 1, 0, none⟩ = some (.int .i64 (12 + pb)) := fun u => u.cell (cell_of hf 0)
    have f1 : ∀ u : Ext WB, u.w.cell? ⟨D + 1 + 1, 1, none⟩ = some (.slice none 0 0) := fun u => u.cell (cell_of hf 1)
    have f2 : ∀ u : Ext WB, u.w.cell? ⟨D + 1 + 1, 2, none⟩ = some (.int .i64 0) := fun u => u.cell (cell_of hf 2)
    have f3 : ∀ u : Ext WB, u.w.cell? ⟨D + 1 + 1, 3, none⟩ = some (.int .i64 0) := fun u => u.cell (cell_of hf 3)
    have f4 : ∀ u : Ext WB, u.w.cell? ⟨D + 1 + 1, 4, none⟩ = some (.int .i64 0) := fun u => u.cell (cell_of hf 4)
    have f5 : ∀ u : Ext WB, u.w.cell? ⟨D + 1 + 1, 5, none⟩ = some (.slice (some ⟨D + 1 + 1 + 1, 0, none⟩) 2 2) := fun u => u.cell (cell_of hf 5)
    have HCB : Hid (∀ u, Upto [] WB u → Calls Tryz.prog 24 #[.agg #[.int .i64 po, .slice pn1 pn2 pn3, .int .i64 ps, .int .i64 pm, .int .i64 pq, .slice pl1 pl2 pl3]] u (BkPost u (scN 2 pb pc n))) := Lib.hid (fun u hu => back_calls _ _ (Nat.le_refl _) (by have := HBG.out.1; omega) HBG.out.2 _ _ u (HVB.out.ext hu))
    have HCS : Hid (∀ u (Q : Nat → Prop) v, Upto [] WB u → NdV u Q (scN 2 pb pc n) v → Calls Tryz.prog 23 #[v, .agg #[.int .i64 (12 + pb), .slice none 0 0, .int .i64 0, .int .i64 0, .int .i64 0, .slice (some ⟨D + 1 + 1 + 1, 0, none⟩) 2 2]] u fun e w' => e = .returned (.bool true) ∧ Upto [] u w') := Lib.hid (fun u Q v hu hv => by
      have h := same_calls _ _ (Nat.le_refl _) (huge_of _ (by have := HBG.out.1; omega) HBG.out.2) _ _ _ _ _ u hv (HNB2.out.ext hu)
      rw [(sameF_eq _ _).2 rfl] at h
      exact h)
    clear hx hf
    refine wp_region_seg_all [4, 6] [] [0, 1, 2, 3, 4, 5, 6, 7, 8] (by kernel_rfl) (by kernel_rfl) ?_
    iterate 4 (refine seg_plain rfl rfl rfl rfl rfl ?_; intro K' hK'; go_big_quiet_op; go_big_quiet_on)
    refine seg_callO (Y := (Int × Option Addr × Nat × Nat) × Int × Int × Int × Option Addr × Nat × Nat) (fun y => .agg #[.int .i64 y.1.1, .slice y.1.2.1 y.1.2.2.1 y.1.2.2.2, .int .i64 y.2.1, .int .i64 y.2.2.1, .int .i64 y.2.2.2.1, .slice y.2.2.2.2.1 y.2.2.2.2.2.1 y.2.2.2.2.2.2]) (fun y u => NdV u AnyB (scN 2 pb pc n) (.agg #[.int .i64 y.1.1, .slice y.1.2.1 y.1.2.2.1 y.1.2.2.2, .int .i64 y.2.1, .int .i64 y.2.2.1, .int .i64 y.2.2.2.1, .slice y.2.2.2.2.1 y.2.2.2.2.2.1 y.2.2.2.2.2.2])) (fun _ => []) rfl rfl rfl rfl (fun _ _ _ h hu => h.ext hu) (fun _ => List.nodup_nil) (fun w => by go_simp) (fun w' hu hd => (HCB.out w' hu).mono fun e w2 ⟨v, h1, h2, h3⟩ => by
      obtain ⟨ro, rn1, rn2, rn3, rs, rm, rq, rl1, rl2, rl3, rfl⟩ := h2.six
      exact ⟨((ro, rn1, rn2, rn3), rs, rm, rq, rl1, rl2, rl3), h1, h3, h2.mono (fun b hb _ => trivial), fun b hb => by cases hb⟩) ?_
    rintro ⟨⟨ro, rn1, rn2, rn3⟩, rs, rm, rq, rl1, rl2, rl3⟩
    simp only [Act.put, List.setIfInBounds_toArray, List.set_cons_zero, List.set_cons_succ]
    (refine seg_plain rfl rfl rfl rfl rfl ?_; intro K' hK'; go_big_quiet_op; go_big_quiet_on)
    refine seg_call rfl rfl rfl rfl (fun w => by go_simp) (fun w hu hd => HCS.out w _ _ hu (hd.1 (by kernel_rfl))) ?_
    simp only [Act.put, List.setIfInBounds_toArray, List.set_cons_zero, List.set_cons_succ]
    iterate 2 (refine seg_plain rfl rfl rfl rfl rfl ?_; intro K' hK'; go_big_quiet_op; go_big_quiet_on)
    intro w12 hg
    have HU12 := Lib.hid (HUB.out.trans_ext hg.up)
    clear hg g0 f0 g1 f1 g2 f2 g3 f3 g4 f4 g5 f5
    go_wp2_with fail
    go_ret
    exact ⟨rfl, HU12.out⟩
end Go.Proofs.YtkhbpebpljdifaaGreatDoor
namespace Go.Proofs.YtkhbpebpljdifaaGreatDoor
open Go.RowKit Go.PL Go.Maps Go.ChangeShapes Go.WideShapes
theorem okw_array {P : Program} {W : World} {r : Reach} {base : Nat} {t : TypeId} {v : Value} {n : Nat} {e : TypeId} (ht : P.underlying t = some (.array n e)) (h : Value.okWide P W r base t v) : ∃ cs, v = .agg cs ∧ cs.size = P.cellsOf t := by
  simp only [Value.okWide, ht] at h
  obtain ⟨cs, h1, h2, _⟩ := h
  exact ⟨cs, h1, h2⟩
theorem byte_of {H : Type} {enc : TypeId × Value → H} {W : World} {sp : Nat → Bool} {held : Bool} {m b : Nat} {v : Value} {y : DataW H × List MemPlace} (h : DataW.trod enc Tryz.prog W b sp held m 5 [v] = some y) : ∃ z, v = .int .u8 z ∧ 0 ≤ z ∧ z < 256 := by
  obtain ⟨s, h1, h2, h3⟩ := DataW.trod_int Tryz.underlying5 h
  obtain rfl : v = .int .u8 s := by simpa using h1
  refine ⟨s, rfl, ?_⟩
  simp [Lit.wf, IntKind.min, IntKind.max, IntKind.signed, IntKind.bits] at h3
  omega
theorem open_three {H : Type} {enc : TypeId × Value → H} {W : World} {v : Value} {d : DataW H} {ps : List MemPlace} (hv : ∃ cs, v = .agg cs ∧ cs.size = Tryz.prog.cellsOf 26) (h : DataW.Trod enc Tryz.prog W 0 (fun _ => true) true 26 v d ps) :
    ∃ za zb zc : Int, v = .agg #[.int .u8 za, .int .u8 zb, .int .u8 zc] ∧ (0 ≤ za ∧ za < 256) ∧ (0 ≤ zb ∧ zb < 256) ∧ (0 ≤ zc ∧ zc < 256) := by
  obtain ⟨cs, rfl, hcs⟩ := hv
  obtain ⟨fuel, h⟩ := h
  obtain ⟨cs⟩ := cs
  rw [show Tryz.prog.cellsOf 26 = 3 by kernel_rfl] at hcs
  simp only [Value.cells] at h
  match cs, hcs with
  | [a, b, c], _ =>
    obtain ⟨y0, y1, y2, n, -, h0, h1, h2⟩ := trod_array3 Tryz.underlying26 (by kernel_rfl) h
    obtain ⟨za, rfl, ha⟩ := byte_of h0
    obtain ⟨zb, rfl, hb⟩ := byte_of h1
    obtain ⟨zc, rfl, hc⟩ := byte_of h2
    exact ⟨za, zb, zc, rfl, ha, hb, hc⟩
end Go.Proofs.YtkhbpebpljdifaaGreatDoor
