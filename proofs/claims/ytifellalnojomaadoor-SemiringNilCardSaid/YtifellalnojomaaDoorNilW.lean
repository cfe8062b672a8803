/- SemiringNil: the walk. -/
import Derived.Test.YtifellalnojomaaDoorNilC
namespace Go.Proofs.YtifellalnojomaaDoor
open Go.RowKit Go.PL Go.Maps

set_option maxRecDepth 100000 in
set_option maxHeartbeats 6400000 in
theorem nil_walk_tp (n : Nat) (hn : n < 18446744073709551616) (m : Int) (hb : -9223372036854775808 ≤ m ∧ m ≤ 9223372036854775807) (hm : 0 < m) (w : World) :
    Calls Tryd.prog 10 #[.bool true, .int .u64 n, .int .i64 m] w fun e w' => e = .returned (.bool true) ∧ Upto [] w w' := by
  have e1 : decide (0 < m) = true := by simp; omega
  have e2 : decide (m < 1) = false := by simp; omega
  have FA := Lib.hid (fromW_calls n hn)
  have HK := Lib.hid known_calls
  have H57 : Hid (∀ w, Calls Tryd.prog 57 #[.agg #[.iface 23 (.agg #[]), .nilIface]] w fun e w' => e = .returned (.agg #[.bool true, .slice none 0 0]) ∧ Upto [] w w') := fun w => H_one_calls w
  have H58 : Hid (∀ w, Calls Tryd.prog 58 #[.agg #[.iface 23 (.agg #[]), .nilIface]] w fun e w' => e = .returned (.agg #[.bool false, .slice none 0 0]) ∧ Upto [] w w') := fun w => H_zero_calls w
  have H56 : Hid (∀ g ln w, Calls Tryd.prog 56 #[.agg #[.iface 23 (.agg #[]), .nilIface], .agg #[.bool true, .slice (some ⟨g, 0, none⟩) ln 2], .agg #[.bool true, .slice none 0 0]] w fun e w' => e = .returned (.agg #[.bool true, .slice none 0 0]) ∧ Upto [] w w') := fun g ln w => H_add_calls true true (some ⟨g, 0, none⟩) none ln 2 0 0 w
  have H59 : Hid (∀ g ln w, Calls Tryd.prog 59 #[.agg #[.iface 23 (.agg #[]), .nilIface], .agg #[.bool true, .slice (some ⟨g, 0, none⟩) ln 2], .agg #[.bool true, .slice none 0 0]] w fun e w' => e = .returned (.bool true) ∧ Upto [] w w') := fun g ln w => H_same_calls true true (some ⟨g, 0, none⟩) none ln 2 0 0 w
  have H59b : Hid (∀ g ln w, Calls Tryd.prog 59 #[.agg #[.iface 23 (.agg #[]), .nilIface], .agg #[.bool true, .slice (some ⟨g, 0, none⟩) ln 2], .agg #[.bool false, .slice none 0 0]] w fun e w' => e = .returned (.bool false) ∧ Upto [] w w') := fun g ln w => H_same_calls true false (some ⟨g, 0, none⟩) none ln 2 0 0 w
  have H35 : Hid (∀ w, Calls Tryd.prog 35 #[.agg #[.slice none 0 0]] w fun e w' => e = .returned (.bool true) ∧ Upto [] w w') := fun w => isZero_calls none 0 0 w
  have H60 : Hid (∀ g w, Calls Tryd.prog 60 #[.nilIface, .slice (some ⟨g, 0, none⟩) 1 1] w fun e w' => e = .returned (.bool false) ∧ Upto [] w w') := fun g w => bsum_nil _ 1 1 w
  have H61 : Hid (∀ g w, Calls Tryd.prog 61 #[.nilIface, .slice (some ⟨g, 0, none⟩) 1 1] w fun e w' => e = .returned (.bool false) ∧ Upto [] w w') := fun g w => bprod_nil _ 1 1 w
  have H62 : Hid (∀ w, Calls Tryd.prog 62 #[.nilIface, .bool true, .int .i64 m] w fun e w' => e = .returned (.bool false) ∧ Upto [] w w') := fun w => bmult_nil true m w hb
  have H63 : Hid (∀ w, Calls Tryd.prog 63 #[.nilIface, .bool true, .int .i64 m] w fun e w' => e = .returned (.bool false) ∧ Upto [] w w') := fun w => bpow_nil true m w hb
  have H60b : Hid (∀ w, Calls Tryd.prog 60 #[.iface 23 (.agg #[]), .slice none 0 0] w fun e w' => e = .returned (.bool false) ∧ Upto [] w w') := fun w => bsum_calls none 0 [] w (by simp) (Or.inl ⟨rfl, _, _, rfl⟩)
  have H61b : Hid (∀ w, Calls Tryd.prog 61 #[.iface 23 (.agg #[]), .slice none 0 0] w fun e w' => e = .returned (.bool true) ∧ Upto [] w w') := fun w => bprod_calls none 0 [] w (by simp) (Or.inl ⟨rfl, _, _, rfl⟩)
  have H62b : Hid (∀ w, Calls Tryd.prog 62 #[.iface 23 (.agg #[]), .bool true, .int .i64 m] w fun e w' => e = .returned (.bool true) ∧ Upto [] w w') := fun w => by have := bmult_calls true m w hb; simpa [e1, e2] using this
  have H63b : Hid (∀ w, Calls Tryd.prog 63 #[.iface 23 (.agg #[]), .bool true, .int .i64 m] w fun e w' => e = .returned (.bool true) ∧ Upto [] w w') := fun w => by have := bpow_calls true m w hb; simpa [e1, e2] using this
  have hf : ∀ (b : Bool) (u : World), (Instr.field 98 (.agg #[.bool b, .slice none 0 0]) 0).run Tryd.prog u = .ok (.bool b) u := fun _ _ => by kernel_rfl
  have b7 := new_at w (.cells #[.iface 23 (.agg #[]), .nilIface] 96)
  have hu0 : Upto [] w (w.alloc (.cells #[.iface 23 (.agg #[]), .nilIface] 96)) := (Upto.refl [] w).alloc _
  generalize hln : (W32 n).length = ln at FA
  clear hln hb
  go_enter Tryd.func10, Tryd.ntmps10
  go_wp2_with fail
  refine (FA.out _).mono ?_
  rintro e w1 ⟨g, rfl, n1, hu1⟩
  clear n1 FA
  replace b7 := alloc_old (hu1.at b7 (by simp)) (.cells #[.bool true, .slice (some ⟨g, 0, none⟩) ln 2] 98)
  have b8 := new_at w1 (.cells #[.bool true, .slice (some ⟨g, 0, none⟩) ln 2] 98)
  have hU := (hu0.trans_ext hu1).alloc (.cells #[.bool true, .slice (some ⟨g, 0, none⟩) ln 2] 98)
  clear hu0 hu1
  go_upto_region 3 with fail
  generalize w1.alloc (.cells #[.bool true, .slice (some ⟨g, 0, none⟩) ln 2] 98) = W at *
  generalize w1.heap.size = B8 at *
  generalize hsz : w.heap.size = B7 at *
  have e0 : ∀ u : Ext W, u.w.cell? ⟨B7, 0, none⟩ = some (.iface 23 (.agg #[])) := fun u => u.cell (cell_of b7 0)
  have e1 : ∀ u : Ext W, u.w.cell? ⟨B7, 1, none⟩ = some (.nilIface) := fun u => u.cell (cell_of b7 1)
  have e2 : ∀ u : Ext W, u.w.cell? ⟨B8, 0, none⟩ = some (.bool true) := fun u => u.cell (cell_of b8 0)
  have e3 : ∀ u : Ext W, u.w.cell? ⟨B8, 1, none⟩ = some (.slice (some ⟨g, 0, none⟩) ln 2) := fun u => u.cell (cell_of b8 1)
  refine wp_region_seg_at [3, 4] [5] [0, 1, 2, 3, 4, 5] [6] 6 (by kernel_rfl) (by kernel_rfl) (by kernel_rfl) ?_
  refine seg_plain rfl rfl rfl rfl rfl ?_
  intro K' hK'
  go_big_quiet_op
  go_big_quiet_on
  refine seg_plain rfl rfl rfl rfl rfl ?_
  intro K' hK'
  go_big_quiet_op
  go_big_quiet_on
  refine seg_plain rfl rfl rfl rfl rfl ?_
  intro K' hK'
  go_big_quiet_op
  go_big_quiet_on
  refine seg_call rfl rfl rfl rfl (fun w => by go_simp) (fun w _ _ => H57.out w) ?_
  simp only [Act.put, List.setIfInBounds_toArray, List.set_cons_zero, List.set_cons_succ]
  refine seg_call rfl rfl rfl rfl (fun w => by go_simp) (fun w _ _ => H56.out g ln w) ?_
  simp only [Act.put, List.setIfInBounds_toArray, List.set_cons_zero, List.set_cons_succ]
  refine seg_alloc (.cells #[.bool false, .slice none 0 0] 98) rfl rfl rfl (fun w => by go_simp) ?_
  intro B9
  simp only [Act.put, List.setIfInBounds_toArray, List.set_cons_zero, List.set_cons_succ]
  intro w9 hg
  have hv := hg.up
  have h9 := hg.hold.1
  simp only at h9
  have hB9 := (hg.inb _ (List.mem_cons_self ..) B9 (by simp)).1
  clear hg e0 e1 e2 e3
  simp only [List.drop_succ_cons, List.drop_zero]
  have hle := hU.size
  have hU9 := hU.trans_ext hv
  have l7 := lt_of_heap b7
  have l8 := lt_of_heap b8
  replace b7 := hv.at b7 (by simp)
  replace b8 := hv.at b8 (by simp)
  have hlt7 : B7 < B9 := by omega
  have hn7 : B7 ≠ B9 := by omega
  have hn8 : B8 ≠ B9 := by omega
  replace b7 := set_other (set_other b7 hn7 0 (.bool true)) hn7 1 (.slice none 0 0)
  replace b8 := set_other (set_other b8 hn8 0 (.bool true)) hn8 1 (.slice none 0 0)
  have c9 := set_same (set_same h9 0 (.bool true)) 1 (.slice none 0 0)
  have c90 := cell_of h9 0
  have c91 := cell_of h9 1
  have f90 := free_of h9 0
  have f91 := free_of h9 1
  simp only [List.getElem?_toArray, List.getElem?_cons_zero, List.getElem?_cons_succ] at c90 c91
  have hUs := (hU9.setCell (p := ⟨B9, 0, none⟩) (Or.inr (by show _ ≤ B9; omega)) (.bool true)).setCell (p := ⟨B9, 1, none⟩) (Or.inr (by show _ ≤ B9; omega)) (.slice none 0 0)
  simp at c9
  have d0 := cell_of b7 0
  have d1 := cell_of b7 1
  have d2 := cell_of b8 0
  have d3 := cell_of b8 1
  have d4 := cell_of c9 0
  have d5 := cell_of c9 1
  simp only [List.getElem?_toArray, List.getElem?_cons_zero, List.getElem?_cons_succ] at d0 d1 d2 d3 d4 d5
  clear hle hv hU9 hlt7 l7 l8 hn7 hn8 hB9 hU
  go_wp2_with fail
  clear c90 c91 f90 f91 h9
  refine (H35.out _).mono ?_
  rintro e w11 ⟨rfl, hv⟩
  clear d0 d1 d2 d3 d4 d5
  replace b7 := hv.at b7 (by simp)
  replace b8 := hv.at b8 (by simp)
  replace c9 := hv.at c9 (by simp)
  replace hUs := hUs.trans_ext hv
  clear hv
  have d0 := cell_of b7 0
  have d1 := cell_of b7 1
  have d2 := cell_of b8 0
  have d3 := cell_of b8 1
  have d4 := cell_of c9 0
  have d5 := cell_of c9 1
  simp only [List.getElem?_toArray, List.getElem?_cons_zero, List.getElem?_cons_succ] at d0 d1 d2 d3 d4 d5
  go_wp2_with fail
  refine (H58.out _).mono ?_
  rintro e w12 ⟨rfl, hv⟩
  clear d0 d1 d2 d3 d4 d5
  replace b7 := hv.at b7 (by simp)
  replace b8 := hv.at b8 (by simp)
  replace c9 := hv.at c9 (by simp)
  replace hUs := hUs.trans_ext hv
  clear hv
  have d0 := cell_of b7 0
  have d1 := cell_of b7 1
  have d2 := cell_of b8 0
  have d3 := cell_of b8 1
  have d4 := cell_of c9 0
  have d5 := cell_of c9 1
  simp only [List.getElem?_toArray, List.getElem?_cons_zero, List.getElem?_cons_succ] at d0 d1 d2 d3 d4 d5
  go_wp2_with fail
  refine (H59.out _ _ _).mono ?_
  rintro e w13 ⟨rfl, hv⟩
  clear d0 d1 d2 d3 d4 d5
  replace b7 := hv.at b7 (by simp)
  replace b8 := hv.at b8 (by simp)
  replace c9 := hv.at c9 (by simp)
  replace hUs := hUs.trans_ext hv
  clear hv
  have d0 := cell_of b7 0
  have d1 := cell_of b7 1
  have d2 := cell_of b8 0
  have d3 := cell_of b8 1
  have d4 := cell_of c9 0
  have d5 := cell_of c9 1
  simp only [List.getElem?_toArray, List.getElem?_cons_zero, List.getElem?_cons_succ] at d0 d1 d2 d3 d4 d5
  go_wp2_with fail
  refine (H59b.out _ _ _).mono ?_
  rintro e w14 ⟨rfl, hv⟩
  clear d0 d1 d2 d3 d4 d5
  replace b7 := hv.at b7 (by simp)
  replace b8 := hv.at b8 (by simp)
  replace c9 := hv.at c9 (by simp)
  replace hUs := hUs.trans_ext hv
  clear hv
  have d0 := cell_of b7 0
  have d1 := cell_of b7 1
  have d2 := cell_of b8 0
  have d3 := cell_of b8 1
  have d4 := cell_of c9 0
  have d5 := cell_of c9 1
  simp only [List.getElem?_toArray, List.getElem?_cons_zero, List.getElem?_cons_succ] at d0 d1 d2 d3 d4 d5
  go_wp2_with fail
  clear d0 d1 d2 d3 d4 d5 b7 b8 c9 H35 H58 H59 H59b H56 H57
  refine (H60.out _ _).mono ?_
  rintro e w21 ⟨rfl, hv⟩
  replace hUs := (hUs.alloc _).trans_ext hv
  clear hv
  go_wp2_with fail
  refine (H61.out _ _).mono ?_
  rintro e w22 ⟨rfl, hv⟩
  replace hUs := (hUs.alloc _).trans_ext hv
  clear hv
  go_wp2_with fail
  refine (H62.out _).mono ?_
  rintro e w23 ⟨rfl, hv⟩
  replace hUs := hUs.trans_ext hv
  clear hv
  go_wp2_with fail
  refine (H63.out _).mono ?_
  rintro e w24 ⟨rfl, hv⟩
  replace hUs := hUs.trans_ext hv
  clear hv
  go_wp2_with fail
  refine (H60b.out _).mono ?_
  rintro e w25 ⟨rfl, hv⟩
  replace hUs := hUs.trans_ext hv
  clear hv
  go_wp2_with fail
  refine (H61b.out _).mono ?_
  rintro e w26 ⟨rfl, hv⟩
  replace hUs := hUs.trans_ext hv
  clear hv
  go_wp2_with fail
  refine (H62b.out _).mono ?_
  rintro e w27 ⟨rfl, hv⟩
  replace hUs := hUs.trans_ext hv
  clear hv
  go_wp2_with fail
  refine (H63b.out _).mono ?_
  rintro e w28 ⟨rfl, hv⟩
  replace hUs := hUs.trans_ext hv
  clear hv
  go_wp2_with fail
  refine (HK.out _).mono ?_
  rintro e w29 ⟨rfl, hv⟩
  replace hUs := hUs.trans_ext hv
  go_wp2
  go_ret
  exact ⟨rfl, hUs⟩

set_option maxRecDepth 100000 in
set_option maxHeartbeats 6400000 in
theorem nil_walk_tn (n : Nat) (hn : n < 18446744073709551616) (m : Int) (hb : -9223372036854775808 ≤ m ∧ m ≤ 9223372036854775807) (hm : m < 1) (w : World) :
    Calls Tryd.prog 10 #[.bool true, .int .u64 n, .int .i64 m] w fun e w' => e = .returned (.bool true) ∧ Upto [] w w' := by
  have e1 : decide (0 < m) = false := by simp; omega
  have e2 : decide (m < 1) = true := by simp; omega
  have FA := Lib.hid (fromW_calls n hn)
  have HK := Lib.hid known_calls
  have H57 : Hid (∀ w, Calls Tryd.prog 57 #[.agg #[.iface 23 (.agg #[]), .nilIface]] w fun e w' => e = .returned (.agg #[.bool true, .slice none 0 0]) ∧ Upto [] w w') := fun w => H_one_calls w
  have H58 : Hid (∀ w, Calls Tryd.prog 58 #[.agg #[.iface 23 (.agg #[]), .nilIface]] w fun e w' => e = .returned (.agg #[.bool false, .slice none 0 0]) ∧ Upto [] w w') := fun w => H_zero_calls w
  have H56 : Hid (∀ g ln w, Calls Tryd.prog 56 #[.agg #[.iface 23 (.agg #[]), .nilIface], .agg #[.bool true, .slice (some ⟨g, 0, none⟩) ln 2], .agg #[.bool true, .slice none 0 0]] w fun e w' => e = .returned (.agg #[.bool true, .slice none 0 0]) ∧ Upto [] w w') := fun g ln w => H_add_calls true true (some ⟨g, 0, none⟩) none ln 2 0 0 w
  have H59 : Hid (∀ g ln w, Calls Tryd.prog 59 #[.agg #[.iface 23 (.agg #[]), .nilIface], .agg #[.bool true, .slice (some ⟨g, 0, none⟩) ln 2], .agg #[.bool true, .slice none 0 0]] w fun e w' => e = .returned (.bool true) ∧ Upto [] w w') := fun g ln w => H_same_calls true true (some ⟨g, 0, none⟩) none ln 2 0 0 w
  have H59b : Hid (∀ g ln w, Calls Tryd.prog 59 #[.agg #[.iface 23 (.agg #[]), .nilIface], .agg #[.bool true, .slice (some ⟨g, 0, none⟩) ln 2], .agg #[.bool false, .slice none 0 0]] w fun e w' => e = .returned (.bool false) ∧ Upto [] w w') := fun g ln w => H_same_calls true false (some ⟨g, 0, none⟩) none ln 2 0 0 w
  have H35 : Hid (∀ w, Calls Tryd.prog 35 #[.agg #[.slice none 0 0]] w fun e w' => e = .returned (.bool true) ∧ Upto [] w w') := fun w => isZero_calls none 0 0 w
  have H60 : Hid (∀ g w, Calls Tryd.prog 60 #[.nilIface, .slice (some ⟨g, 0, none⟩) 1 1] w fun e w' => e = .returned (.bool false) ∧ Upto [] w w') := fun g w => bsum_nil _ 1 1 w
  have H61 : Hid (∀ g w, Calls Tryd.prog 61 #[.nilIface, .slice (some ⟨g, 0, none⟩) 1 1] w fun e w' => e = .returned (.bool false) ∧ Upto [] w w') := fun g w => bprod_nil _ 1 1 w
  have H62 : Hid (∀ w, Calls Tryd.prog 62 #[.nilIface, .bool true, .int .i64 m] w fun e w' => e = .returned (.bool false) ∧ Upto [] w w') := fun w => bmult_nil true m w hb
  have H63 : Hid (∀ w, Calls Tryd.prog 63 #[.nilIface, .bool true, .int .i64 m] w fun e w' => e = .returned (.bool false) ∧ Upto [] w w') := fun w => bpow_nil true m w hb
  have H60b : Hid (∀ w, Calls Tryd.prog 60 #[.iface 23 (.agg #[]), .slice none 0 0] w fun e w' => e = .returned (.bool false) ∧ Upto [] w w') := fun w => bsum_calls none 0 [] w (by simp) (Or.inl ⟨rfl, _, _, rfl⟩)
  have H61b : Hid (∀ w, Calls Tryd.prog 61 #[.iface 23 (.agg #[]), .slice none 0 0] w fun e w' => e = .returned (.bool true) ∧ Upto [] w w') := fun w => bprod_calls none 0 [] w (by simp) (Or.inl ⟨rfl, _, _, rfl⟩)
  have H62b : Hid (∀ w, Calls Tryd.prog 62 #[.iface 23 (.agg #[]), .bool true, .int .i64 m] w fun e w' => e = .returned (.bool false) ∧ Upto [] w w') := fun w => by have := bmult_calls true m w hb; simpa [e1, e2] using this
  have H63b : Hid (∀ w, Calls Tryd.prog 63 #[.iface 23 (.agg #[]), .bool true, .int .i64 m] w fun e w' => e = .returned (.bool true) ∧ Upto [] w w') := fun w => by have := bpow_calls true m w hb; simpa [e1, e2] using this
  have hf : ∀ (b : Bool) (u : World), (Instr.field 98 (.agg #[.bool b, .slice none 0 0]) 0).run Tryd.prog u = .ok (.bool b) u := fun _ _ => by kernel_rfl
  have b7 := new_at w (.cells #[.iface 23 (.agg #[]), .nilIface] 96)
  have hu0 : Upto [] w (w.alloc (.cells #[.iface 23 (.agg #[]), .nilIface] 96)) := (Upto.refl [] w).alloc _
  generalize hln : (W32 n).length = ln at FA
  clear hln hb
  go_enter Tryd.func10, Tryd.ntmps10
  go_wp2_with fail
  refine (FA.out _).mono ?_
  rintro e w1 ⟨g, rfl, n1, hu1⟩
  clear n1 FA
  replace b7 := alloc_old (hu1.at b7 (by simp)) (.cells #[.bool true, .slice (some ⟨g, 0, none⟩) ln 2] 98)
  have b8 := new_at w1 (.cells #[.bool true, .slice (some ⟨g, 0, none⟩) ln 2] 98)
  have hU := (hu0.trans_ext hu1).alloc (.cells #[.bool true, .slice (some ⟨g, 0, none⟩) ln 2] 98)
  clear hu0 hu1
  go_upto_region 3 with fail
  generalize w1.alloc (.cells #[.bool true, .slice (some ⟨g, 0, none⟩) ln 2] 98) = W at *
  generalize w1.heap.size = B8 at *
  generalize hsz : w.heap.size = B7 at *
  have e0 : ∀ u : Ext W, u.w.cell? ⟨B7, 0, none⟩ = some (.iface 23 (.agg #[])) := fun u => u.cell (cell_of b7 0)
  have e1 : ∀ u : Ext W, u.w.cell? ⟨B7, 1, none⟩ = some (.nilIface) := fun u => u.cell (cell_of b7 1)
  have e2 : ∀ u : Ext W, u.w.cell? ⟨B8, 0, none⟩ = some (.bool true) := fun u => u.cell (cell_of b8 0)
  have e3 : ∀ u : Ext W, u.w.cell? ⟨B8, 1, none⟩ = some (.slice (some ⟨g, 0, none⟩) ln 2) := fun u => u.cell (cell_of b8 1)
  refine wp_region_seg_at [3, 4] [5] [0, 1, 2, 3, 4, 5] [6] 6 (by kernel_rfl) (by kernel_rfl) (by kernel_rfl) ?_
  refine seg_plain rfl rfl rfl rfl rfl ?_
  intro K' hK'
  go_big_quiet_op
  go_big_quiet_on
  refine seg_plain rfl rfl rfl rfl rfl ?_
  intro K' hK'
  go_big_quiet_op
  go_big_quiet_on
  refine seg_plain rfl rfl rfl rfl rfl ?_
  intro K' hK'
  go_big_quiet_op
  go_big_quiet_on
  refine seg_call rfl rfl rfl rfl (fun w => by go_simp) (fun w _ _ => H57.out w) ?_
  simp only [Act.put, List.setIfInBounds_toArray, List.set_cons_zero, List.set_cons_succ]
  refine seg_call rfl rfl rfl rfl (fun w => by go_simp) (fun w _ _ => H56.out g ln w) ?_
  simp only [Act.put, List.setIfInBounds_toArray, List.set_cons_zero, List.set_cons_succ]
  refine seg_alloc (.cells #[.bool false, .slice none 0 0] 98) rfl rfl rfl (fun w => by go_simp) ?_
  intro B9
  simp only [Act.put, List.setIfInBounds_toArray, List.set_cons_zero, List.set_cons_succ]
  intro w9 hg
  have hv := hg.up
  have h9 := hg.hold.1
  simp only at h9
  have hB9 := (hg.inb _ (List.mem_cons_self ..) B9 (by simp)).1
  clear hg e0 e1 e2 e3
  simp only [List.drop_succ_cons, List.drop_zero]
  have hle := hU.size
  have hU9 := hU.trans_ext hv
  have l7 := lt_of_heap b7
  have l8 := lt_of_heap b8
  replace b7 := hv.at b7 (by simp)
  replace b8 := hv.at b8 (by simp)
  have hlt7 : B7 < B9 := by omega
  have hn7 : B7 ≠ B9 := by omega
  have hn8 : B8 ≠ B9 := by omega
  replace b7 := set_other (set_other b7 hn7 0 (.bool true)) hn7 1 (.slice none 0 0)
  replace b8 := set_other (set_other b8 hn8 0 (.bool true)) hn8 1 (.slice none 0 0)
  have c9 := set_same (set_same h9 0 (.bool true)) 1 (.slice none 0 0)
  have c90 := cell_of h9 0
  have c91 := cell_of h9 1
  have f90 := free_of h9 0
  have f91 := free_of h9 1
  simp only [List.getElem?_toArray, List.getElem?_cons_zero, List.getElem?_cons_succ] at c90 c91
  have hUs := (hU9.setCell (p := ⟨B9, 0, none⟩) (Or.inr (by show _ ≤ B9; omega)) (.bool true)).setCell (p := ⟨B9, 1, none⟩) (Or.inr (by show _ ≤ B9; omega)) (.slice none 0 0)
  simp at c9
  have d0 := cell_of b7 0
  have d1 := cell_of b7 1
  have d2 := cell_of b8 0
  have d3 := cell_of b8 1
  have d4 := cell_of c9 0
  have d5 := cell_of c9 1
  simp only [List.getElem?_toArray, List.getElem?_cons_zero, List.getElem?_cons_succ] at d0 d1 d2 d3 d4 d5
  clear hle hv hU9 hlt7 l7 l8 hn7 hn8 hB9 hU
  go_wp2_with fail
  clear c90 c91 f90 f91 h9
  refine (H35.out _).mono ?_
  rintro e w11 ⟨rfl, hv⟩
  clear d0 d1 d2 d3 d4 d5
  replace b7 := hv.at b7 (by simp)
  replace b8 := hv.at b8 (by simp)
  replace c9 := hv.at c9 (by simp)
  replace hUs := hUs.trans_ext hv
  clear hv
  have d0 := cell_of b7 0
  have d1 := cell_of b7 1
  have d2 := cell_of b8 0
  have d3 := cell_of b8 1
  have d4 := cell_of c9 0
  have d5 := cell_of c9 1
  simp only [List.getElem?_toArray, List.getElem?_cons_zero, List.getElem?_cons_succ] at d0 d1 d2 d3 d4 d5
  go_wp2_with fail
  refine (H58.out _).mono ?_
  rintro e w12 ⟨rfl, hv⟩
  clear d0 d1 d2 d3 d4 d5
  replace b7 := hv.at b7 (by simp)
  replace b8 := hv.at b8 (by simp)
  replace c9 := hv.at c9 (by simp)
  replace hUs := hUs.trans_ext hv
  clear hv
  have d0 := cell_of b7 0
  have d1 := cell_of b7 1
  have d2 := cell_of b8 0
  have d3 := cell_of b8 1
  have d4 := cell_of c9 0
  have d5 := cell_of c9 1
  simp only [List.getElem?_toArray, List.getElem?_cons_zero, List.getElem?_cons_succ] at d0 d1 d2 d3 d4 d5
  go_wp2_with fail
  refine (H59.out _ _ _).mono ?_
  rintro e w13 ⟨rfl, hv⟩
  clear d0 d1 d2 d3 d4 d5
  replace b7 := hv.at b7 (by simp)
  replace b8 := hv.at b8 (by simp)
  replace c9 := hv.at c9 (by simp)
  replace hUs := hUs.trans_ext hv
  clear hv
  have d0 := cell_of b7 0
  have d1 := cell_of b7 1
  have d2 := cell_of b8 0
  have d3 := cell_of b8 1
  have d4 := cell_of c9 0
  have d5 := cell_of c9 1
  simp only [List.getElem?_toArray, List.getElem?_cons_zero, List.getElem?_cons_succ] at d0 d1 d2 d3 d4 d5
  go_wp2_with fail
  refine (H59b.out _ _ _).mono ?_
  rintro e w14 ⟨rfl, hv⟩
  clear d0 d1 d2 d3 d4 d5
  replace b7 := hv.at b7 (by simp)
  replace b8 := hv.at b8 (by simp)
  replace c9 := hv.at c9 (by simp)
  replace hUs := hUs.trans_ext hv
  clear hv
  have d0 := cell_of b7 0
  have d1 := cell_of b7 1
  have d2 := cell_of b8 0
  have d3 := cell_of b8 1
  have d4 := cell_of c9 0
  have d5 := cell_of c9 1
  simp only [List.getElem?_toArray, List.getElem?_cons_zero, List.getElem?_cons_succ] at d0 d1 d2 d3 d4 d5
  go_wp2_with fail
  clear d0 d1 d2 d3 d4 d5 b7 b8 c9 H35 H58 H59 H59b H56 H57
  refine (H60.out _ _).mono ?_
  rintro e w21 ⟨rfl, hv⟩
  replace hUs := (hUs.alloc _).trans_ext hv
  clear hv
  go_wp2_with fail
  refine (H61.out _ _).mono ?_
  rintro e w22 ⟨rfl, hv⟩
  replace hUs := (hUs.alloc _).trans_ext hv
  clear hv
  go_wp2_with fail
  refine (H62.out _).mono ?_
  rintro e w23 ⟨rfl, hv⟩
  replace hUs := hUs.trans_ext hv
  clear hv
  go_wp2_with fail
  refine (H63.out _).mono ?_
  rintro e w24 ⟨rfl, hv⟩
  replace hUs := hUs.trans_ext hv
  clear hv
  go_wp2_with fail
  refine (H60b.out _).mono ?_
  rintro e w25 ⟨rfl, hv⟩
  replace hUs := hUs.trans_ext hv
  clear hv
  go_wp2_with fail
  refine (H61b.out _).mono ?_
  rintro e w26 ⟨rfl, hv⟩
  replace hUs := hUs.trans_ext hv
  clear hv
  go_wp2_with fail
  refine (H62b.out _).mono ?_
  rintro e w27 ⟨rfl, hv⟩
  replace hUs := hUs.trans_ext hv
  clear hv
  go_wp2_with fail
  refine (H63b.out _).mono ?_
  rintro e w28 ⟨rfl, hv⟩
  replace hUs := hUs.trans_ext hv
  clear hv
  go_wp2_with fail
  refine (HK.out _).mono ?_
  rintro e w29 ⟨rfl, hv⟩
  replace hUs := hUs.trans_ext hv
  go_wp2
  go_ret
  exact ⟨rfl, hUs⟩

set_option maxRecDepth 100000 in
set_option maxHeartbeats 6400000 in
theorem nil_walk_fp (n : Nat) (hn : n < 18446744073709551616) (m : Int) (hb : -9223372036854775808 ≤ m ∧ m ≤ 9223372036854775807) (hm : 0 < m) (w : World) :
    Calls Tryd.prog 10 #[.bool false, .int .u64 n, .int .i64 m] w fun e w' => e = .returned (.bool true) ∧ Upto [] w w' := by
  have e1 : decide (0 < m) = true := by simp; omega
  have e2 : decide (m < 1) = false := by simp; omega
  have FA := Lib.hid (fromW_calls n hn)
  have HK := Lib.hid known_calls
  have H57 : Hid (∀ w, Calls Tryd.prog 57 #[.agg #[.iface 23 (.agg #[]), .nilIface]] w fun e w' => e = .returned (.agg #[.bool true, .slice none 0 0]) ∧ Upto [] w w') := fun w => H_one_calls w
  have H58 : Hid (∀ w, Calls Tryd.prog 58 #[.agg #[.iface 23 (.agg #[]), .nilIface]] w fun e w' => e = .returned (.agg #[.bool false, .slice none 0 0]) ∧ Upto [] w w') := fun w => H_zero_calls w
  have H56 : Hid (∀ g ln w, Calls Tryd.prog 56 #[.agg #[.iface 23 (.agg #[]), .nilIface], .agg #[.bool false, .slice (some ⟨g, 0, none⟩) ln 2], .agg #[.bool true, .slice none 0 0]] w fun e w' => e = .returned (.agg #[.bool true, .slice none 0 0]) ∧ Upto [] w w') := fun g ln w => H_add_calls false true (some ⟨g, 0, none⟩) none ln 2 0 0 w
  have H59 : Hid (∀ g ln w, Calls Tryd.prog 59 #[.agg #[.iface 23 (.agg #[]), .nilIface], .agg #[.bool false, .slice (some ⟨g, 0, none⟩) ln 2], .agg #[.bool false, .slice none 0 0]] w fun e w' => e = .returned (.bool true) ∧ Upto [] w w') := fun g ln w => H_same_calls false false (some ⟨g, 0, none⟩) none ln 2 0 0 w
  have H59b : Hid (∀ g ln w, Calls Tryd.prog 59 #[.agg #[.iface 23 (.agg #[]), .nilIface], .agg #[.bool false, .slice (some ⟨g, 0, none⟩) ln 2], .agg #[.bool true, .slice none 0 0]] w fun e w' => e = .returned (.bool false) ∧ Upto [] w w') := fun g ln w => H_same_calls false true (some ⟨g, 0, none⟩) none ln 2 0 0 w
  have H35 : Hid (∀ w, Calls Tryd.prog 35 #[.agg #[.slice none 0 0]] w fun e w' => e = .returned (.bool true) ∧ Upto [] w w') := fun w => isZero_calls none 0 0 w
  have H60 : Hid (∀ g w, Calls Tryd.prog 60 #[.nilIface, .slice (some ⟨g, 0, none⟩) 1 1] w fun e w' => e = .returned (.bool false) ∧ Upto [] w w') := fun g w => bsum_nil _ 1 1 w
  have H61 : Hid (∀ g w, Calls Tryd.prog 61 #[.nilIface, .slice (some ⟨g, 0, none⟩) 1 1] w fun e w' => e = .returned (.bool false) ∧ Upto [] w w') := fun g w => bprod_nil _ 1 1 w
  have H62 : Hid (∀ w, Calls Tryd.prog 62 #[.nilIface, .bool false, .int .i64 m] w fun e w' => e = .returned (.bool false) ∧ Upto [] w w') := fun w => bmult_nil false m w hb
  have H63 : Hid (∀ w, Calls Tryd.prog 63 #[.nilIface, .bool false, .int .i64 m] w fun e w' => e = .returned (.bool false) ∧ Upto [] w w') := fun w => bpow_nil false m w hb
  have H60b : Hid (∀ w, Calls Tryd.prog 60 #[.iface 23 (.agg #[]), .slice none 0 0] w fun e w' => e = .returned (.bool false) ∧ Upto [] w w') := fun w => bsum_calls none 0 [] w (by simp) (Or.inl ⟨rfl, _, _, rfl⟩)
  have H61b : Hid (∀ w, Calls Tryd.prog 61 #[.iface 23 (.agg #[]), .slice none 0 0] w fun e w' => e = .returned (.bool true) ∧ Upto [] w w') := fun w => bprod_calls none 0 [] w (by simp) (Or.inl ⟨rfl, _, _, rfl⟩)
  have H62b : Hid (∀ w, Calls Tryd.prog 62 #[.iface 23 (.agg #[]), .bool false, .int .i64 m] w fun e w' => e = .returned (.bool false) ∧ Upto [] w w') := fun w => by have := bmult_calls false m w hb; simpa [e1, e2] using this
  have H63b : Hid (∀ w, Calls Tryd.prog 63 #[.iface 23 (.agg #[]), .bool false, .int .i64 m] w fun e w' => e = .returned (.bool false) ∧ Upto [] w w') := fun w => by have := bpow_calls false m w hb; simpa [e1, e2] using this
  have hf : ∀ (b : Bool) (u : World), (Instr.field 98 (.agg #[.bool b, .slice none 0 0]) 0).run Tryd.prog u = .ok (.bool b) u := fun _ _ => by kernel_rfl
  have b7 := new_at w (.cells #[.iface 23 (.agg #[]), .nilIface] 96)
  have hu0 : Upto [] w (w.alloc (.cells #[.iface 23 (.agg #[]), .nilIface] 96)) := (Upto.refl [] w).alloc _
  generalize hln : (W32 n).length = ln at FA
  clear hln hb
  go_enter Tryd.func10, Tryd.ntmps10
  go_wp2_with fail
  refine (FA.out _).mono ?_
  rintro e w1 ⟨g, rfl, n1, hu1⟩
  clear n1 FA
  replace b7 := alloc_old (hu1.at b7 (by simp)) (.cells #[.bool false, .slice (some ⟨g, 0, none⟩) ln 2] 98)
  have b8 := new_at w1 (.cells #[.bool false, .slice (some ⟨g, 0, none⟩) ln 2] 98)
  have hU := (hu0.trans_ext hu1).alloc (.cells #[.bool false, .slice (some ⟨g, 0, none⟩) ln 2] 98)
  clear hu0 hu1
  go_upto_region 3 with fail
  generalize w1.alloc (.cells #[.bool false, .slice (some ⟨g, 0, none⟩) ln 2] 98) = W at *
  generalize w1.heap.size = B8 at *
  generalize hsz : w.heap.size = B7 at *
  have e0 : ∀ u : Ext W, u.w.cell? ⟨B7, 0, none⟩ = some (.iface 23 (.agg #[])) := fun u => u.cell (cell_of b7 0)
  have e1 : ∀ u : Ext W, u.w.cell? ⟨B7, 1, none⟩ = some (.nilIface) := fun u => u.cell (cell_of b7 1)
  have e2 : ∀ u : Ext W, u.w.cell? ⟨B8, 0, none⟩ = some (.bool false) := fun u => u.cell (cell_of b8 0)
  have e3 : ∀ u : Ext W, u.w.cell? ⟨B8, 1, none⟩ = some (.slice (some ⟨g, 0, none⟩) ln 2) := fun u => u.cell (cell_of b8 1)
  refine wp_region_seg_at [3, 4] [5] [0, 1, 2, 3, 4, 5] [6] 6 (by kernel_rfl) (by kernel_rfl) (by kernel_rfl) ?_
  refine seg_plain rfl rfl rfl rfl rfl ?_
  intro K' hK'
  go_big_quiet_op
  go_big_quiet_on
  refine seg_plain rfl rfl rfl rfl rfl ?_
  intro K' hK'
  go_big_quiet_op
  go_big_quiet_on
  refine seg_plain rfl rfl rfl rfl rfl ?_
  intro K' hK'
  go_big_quiet_op
  go_big_quiet_on
  refine seg_call rfl rfl rfl rfl (fun w => by go_simp) (fun w _ _ => H57.out w) ?_
  simp only [Act.put, List.setIfInBounds_toArray, List.set_cons_zero, List.set_cons_succ]
  refine seg_call rfl rfl rfl rfl (fun w => by go_simp) (fun w _ _ => H56.out g ln w) ?_
  simp only [Act.put, List.setIfInBounds_toArray, List.set_cons_zero, List.set_cons_succ]
  refine seg_alloc (.cells #[.bool false, .slice none 0 0] 98) rfl rfl rfl (fun w => by go_simp) ?_
  intro B9
  simp only [Act.put, List.setIfInBounds_toArray, List.set_cons_zero, List.set_cons_succ]
  intro w9 hg
  have hv := hg.up
  have h9 := hg.hold.1
  simp only at h9
  have hB9 := (hg.inb _ (List.mem_cons_self ..) B9 (by simp)).1
  clear hg e0 e1 e2 e3
  simp only [List.drop_succ_cons, List.drop_zero]
  have hle := hU.size
  have hU9 := hU.trans_ext hv
  have l7 := lt_of_heap b7
  have l8 := lt_of_heap b8
  replace b7 := hv.at b7 (by simp)
  replace b8 := hv.at b8 (by simp)
  have hlt7 : B7 < B9 := by omega
  have hn7 : B7 ≠ B9 := by omega
  have hn8 : B8 ≠ B9 := by omega
  replace b7 := set_other (set_other b7 hn7 0 (.bool true)) hn7 1 (.slice none 0 0)
  replace b8 := set_other (set_other b8 hn8 0 (.bool true)) hn8 1 (.slice none 0 0)
  have c9 := set_same (set_same h9 0 (.bool true)) 1 (.slice none 0 0)
  have c90 := cell_of h9 0
  have c91 := cell_of h9 1
  have f90 := free_of h9 0
  have f91 := free_of h9 1
  simp only [List.getElem?_toArray, List.getElem?_cons_zero, List.getElem?_cons_succ] at c90 c91
  have hUs := (hU9.setCell (p := ⟨B9, 0, none⟩) (Or.inr (by show _ ≤ B9; omega)) (.bool true)).setCell (p := ⟨B9, 1, none⟩) (Or.inr (by show _ ≤ B9; omega)) (.slice none 0 0)
  simp at c9
  have d0 := cell_of b7 0
  have d1 := cell_of b7 1
  have d2 := cell_of b8 0
  have d3 := cell_of b8 1
  have d4 := cell_of c9 0
  have d5 := cell_of c9 1
  simp only [List.getElem?_toArray, List.getElem?_cons_zero, List.getElem?_cons_succ] at d0 d1 d2 d3 d4 d5
  clear hle hv hU9 hlt7 l7 l8 hn7 hn8 hB9 hU
  go_wp2_with fail
  clear c90 c91 f90 f91 h9
  refine (H35.out _).mono ?_
  rintro e w11 ⟨rfl, hv⟩
  clear d0 d1 d2 d3 d4 d5
  replace b7 := hv.at b7 (by simp)
  replace b8 := hv.at b8 (by simp)
  replace c9 := hv.at c9 (by simp)
  replace hUs := hUs.trans_ext hv
  clear hv
  have d0 := cell_of b7 0
  have d1 := cell_of b7 1
  have d2 := cell_of b8 0
  have d3 := cell_of b8 1
  have d4 := cell_of c9 0
  have d5 := cell_of c9 1
  simp only [List.getElem?_toArray, List.getElem?_cons_zero, List.getElem?_cons_succ] at d0 d1 d2 d3 d4 d5
  go_wp2_with fail
  refine (H58.out _).mono ?_
  rintro e w12 ⟨rfl, hv⟩
  clear d0 d1 d2 d3 d4 d5
  replace b7 := hv.at b7 (by simp)
  replace b8 := hv.at b8 (by simp)
  replace c9 := hv.at c9 (by simp)
  replace hUs := hUs.trans_ext hv
  clear hv
  have d0 := cell_of b7 0
  have d1 := cell_of b7 1
  have d2 := cell_of b8 0
  have d3 := cell_of b8 1
  have d4 := cell_of c9 0
  have d5 := cell_of c9 1
  simp only [List.getElem?_toArray, List.getElem?_cons_zero, List.getElem?_cons_succ] at d0 d1 d2 d3 d4 d5
  go_wp2_with fail
  refine (H59.out _ _ _).mono ?_
  rintro e w13 ⟨rfl, hv⟩
  clear d0 d1 d2 d3 d4 d5
  replace b7 := hv.at b7 (by simp)
  replace b8 := hv.at b8 (by simp)
  replace c9 := hv.at c9 (by simp)
  replace hUs := hUs.trans_ext hv
  clear hv
  have d0 := cell_of b7 0
  have d1 := cell_of b7 1
  have d2 := cell_of b8 0
  have d3 := cell_of b8 1
  have d4 := cell_of c9 0
  have d5 := cell_of c9 1
  simp only [List.getElem?_toArray, List.getElem?_cons_zero, List.getElem?_cons_succ] at d0 d1 d2 d3 d4 d5
  go_wp2_with fail
  refine (H59b.out _ _ _).mono ?_
  rintro e w14 ⟨rfl, hv⟩
  clear d0 d1 d2 d3 d4 d5
  replace b7 := hv.at b7 (by simp)
  replace b8 := hv.at b8 (by simp)
  replace c9 := hv.at c9 (by simp)
  replace hUs := hUs.trans_ext hv
  clear hv
  have d0 := cell_of b7 0
  have d1 := cell_of b7 1
  have d2 := cell_of b8 0
  have d3 := cell_of b8 1
  have d4 := cell_of c9 0
  have d5 := cell_of c9 1
  simp only [List.getElem?_toArray, List.getElem?_cons_zero, List.getElem?_cons_succ] at d0 d1 d2 d3 d4 d5
  go_wp2_with fail
  clear d0 d1 d2 d3 d4 d5 b7 b8 c9 H35 H58 H59 H59b H56 H57
  refine (H60.out _ _).mono ?_
  rintro e w21 ⟨rfl, hv⟩
  replace hUs := (hUs.alloc _).trans_ext hv
  clear hv
  go_wp2_with fail
  refine (H61.out _ _).mono ?_
  rintro e w22 ⟨rfl, hv⟩
  replace hUs := (hUs.alloc _).trans_ext hv
  clear hv
  go_wp2_with fail
  refine (H62.out _).mono ?_
  rintro e w23 ⟨rfl, hv⟩
  replace hUs := hUs.trans_ext hv
  clear hv
  go_wp2_with fail
  refine (H63.out _).mono ?_
  rintro e w24 ⟨rfl, hv⟩
  replace hUs := hUs.trans_ext hv
  clear hv
  go_wp2_with fail
  refine (H60b.out _).mono ?_
  rintro e w25 ⟨rfl, hv⟩
  replace hUs := hUs.trans_ext hv
  clear hv
  go_wp2_with fail
  refine (H61b.out _).mono ?_
  rintro e w26 ⟨rfl, hv⟩
  replace hUs := hUs.trans_ext hv
  clear hv
  go_wp2_with fail
  refine (H62b.out _).mono ?_
  rintro e w27 ⟨rfl, hv⟩
  replace hUs := hUs.trans_ext hv
  clear hv
  go_wp2_with fail
  refine (H63b.out _).mono ?_
  rintro e w28 ⟨rfl, hv⟩
  replace hUs := hUs.trans_ext hv
  clear hv
  go_wp2_with fail
  refine (HK.out _).mono ?_
  rintro e w29 ⟨rfl, hv⟩
  replace hUs := hUs.trans_ext hv
  go_wp2
  go_ret
  exact ⟨rfl, hUs⟩

set_option maxRecDepth 100000 in
set_option maxHeartbeats 6400000 in
theorem nil_walk_fn (n : Nat) (hn : n < 18446744073709551616) (m : Int) (hb : -9223372036854775808 ≤ m ∧ m ≤ 9223372036854775807) (hm : m < 1) (w : World) :
    Calls Tryd.prog 10 #[.bool false, .int .u64 n, .int .i64 m] w fun e w' => e = .returned (.bool true) ∧ Upto [] w w' := by
  have e1 : decide (0 < m) = false := by simp; omega
  have e2 : decide (m < 1) = true := by simp; omega
  have FA := Lib.hid (fromW_calls n hn)
  have HK := Lib.hid known_calls
  have H57 : Hid (∀ w, Calls Tryd.prog 57 #[.agg #[.iface 23 (.agg #[]), .nilIface]] w fun e w' => e = .returned (.agg #[.bool true, .slice none 0 0]) ∧ Upto [] w w') := fun w => H_one_calls w
  have H58 : Hid (∀ w, Calls Tryd.prog 58 #[.agg #[.iface 23 (.agg #[]), .nilIface]] w fun e w' => e = .returned (.agg #[.bool false, .slice none 0 0]) ∧ Upto [] w w') := fun w => H_zero_calls w
  have H56 : Hid (∀ g ln w, Calls Tryd.prog 56 #[.agg #[.iface 23 (.agg #[]), .nilIface], .agg #[.bool false, .slice (some ⟨g, 0, none⟩) ln 2], .agg #[.bool true, .slice none 0 0]] w fun e w' => e = .returned (.agg #[.bool true, .slice none 0 0]) ∧ Upto [] w w') := fun g ln w => H_add_calls false true (some ⟨g, 0, none⟩) none ln 2 0 0 w
  have H59 : Hid (∀ g ln w, Calls Tryd.prog 59 #[.agg #[.iface 23 (.agg #[]), .nilIface], .agg #[.bool false, .slice (some ⟨g, 0, none⟩) ln 2], .agg #[.bool false, .slice none 0 0]] w fun e w' => e = .returned (.bool true) ∧ Upto [] w w') := fun g ln w => H_same_calls false false (some ⟨g, 0, none⟩) none ln 2 0 0 w
  have H59b : Hid (∀ g ln w, Calls Tryd.prog 59 #[.agg #[.iface 23 (.agg #[]), .nilIface], .agg #[.bool false, .slice (some ⟨g, 0, none⟩) ln 2], .agg #[.bool true, .slice none 0 0]] w fun e w' => e = .returned (.bool false) ∧ Upto [] w w') := fun g ln w => H_same_calls false true (some ⟨g, 0, none⟩) none ln 2 0 0 w
  have H35 : Hid (∀ w, Calls Tryd.prog 35 #[.agg #[.slice none 0 0]] w fun e w' => e = .returned (.bool true) ∧ Upto [] w w') := fun w => isZero_calls none 0 0 w
  have H60 : Hid (∀ g w, Calls Tryd.prog 60 #[.nilIface, .slice (some ⟨g, 0, none⟩) 1 1] w fun e w' => e = .returned (.bool false) ∧ Upto [] w w') := fun g w => bsum_nil _ 1 1 w
  have H61 : Hid (∀ g w, Calls Tryd.prog 61 #[.nilIface, .slice (some ⟨g, 0, none⟩) 1 1] w fun e w' => e = .returned (.bool false) ∧ Upto [] w w') := fun g w => bprod_nil _ 1 1 w
  have H62 : Hid (∀ w, Calls Tryd.prog 62 #[.nilIface, .bool false, .int .i64 m] w fun e w' => e = .returned (.bool false) ∧ Upto [] w w') := fun w => bmult_nil false m w hb
  have H63 : Hid (∀ w, Calls Tryd.prog 63 #[.nilIface, .bool false, .int .i64 m] w fun e w' => e = .returned (.bool false) ∧ Upto [] w w') := fun w => bpow_nil false m w hb
  have H60b : Hid (∀ w, Calls Tryd.prog 60 #[.iface 23 (.agg #[]), .slice none 0 0] w fun e w' => e = .returned (.bool false) ∧ Upto [] w w') := fun w => bsum_calls none 0 [] w (by simp) (Or.inl ⟨rfl, _, _, rfl⟩)
  have H61b : Hid (∀ w, Calls Tryd.prog 61 #[.iface 23 (.agg #[]), .slice none 0 0] w fun e w' => e = .returned (.bool true) ∧ Upto [] w w') := fun w => bprod_calls none 0 [] w (by simp) (Or.inl ⟨rfl, _, _, rfl⟩)
  have H62b : Hid (∀ w, Calls Tryd.prog 62 #[.iface 23 (.agg #[]), .bool false, .int .i64 m] w fun e w' => e = .returned (.bool false) ∧ Upto [] w w') := fun w => by have := bmult_calls false m w hb; simpa [e1, e2] using this
  have H63b : Hid (∀ w, Calls Tryd.prog 63 #[.iface 23 (.agg #[]), .bool false, .int .i64 m] w fun e w' => e = .returned (.bool true) ∧ Upto [] w w') := fun w => by have := bpow_calls false m w hb; simpa [e1, e2] using this
  have hf : ∀ (b : Bool) (u : World), (Instr.field 98 (.agg #[.bool b, .slice none 0 0]) 0).run Tryd.prog u = .ok (.bool b) u := fun _ _ => by kernel_rfl
  have b7 := new_at w (.cells #[.iface 23 (.agg #[]), .nilIface] 96)
  have hu0 : Upto [] w (w.alloc (.cells #[.iface 23 (.agg #[]), .nilIface] 96)) := (Upto.refl [] w).alloc _
  generalize hln : (W32 n).length = ln at FA
  clear hln hb
  go_enter Tryd.func10, Tryd.ntmps10
  go_wp2_with fail
  refine (FA.out _).mono ?_
  rintro e w1 ⟨g, rfl, n1, hu1⟩
  clear n1 FA
  replace b7 := alloc_old (hu1.at b7 (by simp)) (.cells #[.bool false, .slice (some ⟨g, 0, none⟩) ln 2] 98)
  have b8 := new_at w1 (.cells #[.bool false, .slice (some ⟨g, 0, none⟩) ln 2] 98)
  have hU := (hu0.trans_ext hu1).alloc (.cells #[.bool false, .slice (some ⟨g, 0, none⟩) ln 2] 98)
  clear hu0 hu1
  go_upto_region 3 with fail
  generalize w1.alloc (.cells #[.bool false, .slice (some ⟨g, 0, none⟩) ln 2] 98) = W at *
  generalize w1.heap.size = B8 at *
  generalize hsz : w.heap.size = B7 at *
  have e0 : ∀ u : Ext W, u.w.cell? ⟨B7, 0, none⟩ = some (.iface 23 (.agg #[])) := fun u => u.cell (cell_of b7 0)
  have e1 : ∀ u : Ext W, u.w.cell? ⟨B7, 1, none⟩ = some (.nilIface) := fun u => u.cell (cell_of b7 1)
  have e2 : ∀ u : Ext W, u.w.cell? ⟨B8, 0, none⟩ = some (.bool false) := fun u => u.cell (cell_of b8 0)
  have e3 : ∀ u : Ext W, u.w.cell? ⟨B8, 1, none⟩ = some (.slice (some ⟨g, 0, none⟩) ln 2) := fun u => u.cell (cell_of b8 1)
  refine wp_region_seg_at [3, 4] [5] [0, 1, 2, 3, 4, 5] [6] 6 (by kernel_rfl) (by kernel_rfl) (by kernel_rfl) ?_
  refine seg_plain rfl rfl rfl rfl rfl ?_
  intro K' hK'
  go_big_quiet_op
  go_big_quiet_on
  refine seg_plain rfl rfl rfl rfl rfl ?_
  intro K' hK'
  go_big_quiet_op
  go_big_quiet_on
  refine seg_plain rfl rfl rfl rfl rfl ?_
  intro K' hK'
  go_big_quiet_op
  go_big_quiet_on
  refine seg_call rfl rfl rfl rfl (fun w => by go_simp) (fun w _ _ => H57.out w) ?_
  simp only [Act.put, List.setIfInBounds_toArray, List.set_cons_zero, List.set_cons_succ]
  refine seg_call rfl rfl rfl rfl (fun w => by go_simp) (fun w _ _ => H56.out g ln w) ?_
  simp only [Act.put, List.setIfInBounds_toArray, List.set_cons_zero, List.set_cons_succ]
  refine seg_alloc (.cells #[.bool false, .slice none 0 0] 98) rfl rfl rfl (fun w => by go_simp) ?_
  intro B9
  simp only [Act.put, List.setIfInBounds_toArray, List.set_cons_zero, List.set_cons_succ]
  intro w9 hg
  have hv := hg.up
  have h9 := hg.hold.1
  simp only at h9
  have hB9 := (hg.inb _ (List.mem_cons_self ..) B9 (by simp)).1
  clear hg e0 e1 e2 e3
  simp only [List.drop_succ_cons, List.drop_zero]
  have hle := hU.size
  have hU9 := hU.trans_ext hv
  have l7 := lt_of_heap b7
  have l8 := lt_of_heap b8
  replace b7 := hv.at b7 (by simp)
  replace b8 := hv.at b8 (by simp)
  have hlt7 : B7 < B9 := by omega
  have hn7 : B7 ≠ B9 := by omega
  have hn8 : B8 ≠ B9 := by omega
  replace b7 := set_other (set_other b7 hn7 0 (.bool true)) hn7 1 (.slice none 0 0)
  replace b8 := set_other (set_other b8 hn8 0 (.bool true)) hn8 1 (.slice none 0 0)
  have c9 := set_same (set_same h9 0 (.bool true)) 1 (.slice none 0 0)
  have c90 := cell_of h9 0
  have c91 := cell_of h9 1
  have f90 := free_of h9 0
  have f91 := free_of h9 1
  simp only [List.getElem?_toArray, List.getElem?_cons_zero, List.getElem?_cons_succ] at c90 c91
  have hUs := (hU9.setCell (p := ⟨B9, 0, none⟩) (Or.inr (by show _ ≤ B9; omega)) (.bool true)).setCell (p := ⟨B9, 1, none⟩) (Or.inr (by show _ ≤ B9; omega)) (.slice none 0 0)
  simp at c9
  have d0 := cell_of b7 0
  have d1 := cell_of b7 1
  have d2 := cell_of b8 0
  have d3 := cell_of b8 1
  have d4 := cell_of c9 0
  have d5 := cell_of c9 1
  simp only [List.getElem?_toArray, List.getElem?_cons_zero, List.getElem?_cons_succ] at d0 d1 d2 d3 d4 d5
  clear hle hv hU9 hlt7 l7 l8 hn7 hn8 hB9 hU
  go_wp2_with fail
  clear c90 c91 f90 f91 h9
  refine (H35.out _).mono ?_
  rintro e w11 ⟨rfl, hv⟩
  clear d0 d1 d2 d3 d4 d5
  replace b7 := hv.at b7 (by simp)
  replace b8 := hv.at b8 (by simp)
  replace c9 := hv.at c9 (by simp)
  replace hUs := hUs.trans_ext hv
  clear hv
  have d0 := cell_of b7 0
  have d1 := cell_of b7 1
  have d2 := cell_of b8 0
  have d3 := cell_of b8 1
  have d4 := cell_of c9 0
  have d5 := cell_of c9 1
  simp only [List.getElem?_toArray, List.getElem?_cons_zero, List.getElem?_cons_succ] at d0 d1 d2 d3 d4 d5
  go_wp2_with fail
  refine (H58.out _).mono ?_
  rintro e w12 ⟨rfl, hv⟩
  clear d0 d1 d2 d3 d4 d5
  replace b7 := hv.at b7 (by simp)
  replace b8 := hv.at b8 (by simp)
  replace c9 := hv.at c9 (by simp)
  replace hUs := hUs.trans_ext hv
  clear hv
  have d0 := cell_of b7 0
  have d1 := cell_of b7 1
  have d2 := cell_of b8 0
  have d3 := cell_of b8 1
  have d4 := cell_of c9 0
  have d5 := cell_of c9 1
  simp only [List.getElem?_toArray, List.getElem?_cons_zero, List.getElem?_cons_succ] at d0 d1 d2 d3 d4 d5
  go_wp2_with fail
  refine (H59.out _ _ _).mono ?_
  rintro e w13 ⟨rfl, hv⟩
  clear d0 d1 d2 d3 d4 d5
  replace b7 := hv.at b7 (by simp)
  replace b8 := hv.at b8 (by simp)
  replace c9 := hv.at c9 (by simp)
  replace hUs := hUs.trans_ext hv
  clear hv
  have d0 := cell_of b7 0
  have d1 := cell_of b7 1
  have d2 := cell_of b8 0
  have d3 := cell_of b8 1
  have d4 := cell_of c9 0
  have d5 := cell_of c9 1
  simp only [List.getElem?_toArray, List.getElem?_cons_zero, List.getElem?_cons_succ] at d0 d1 d2 d3 d4 d5
  go_wp2_with fail
  refine (H59b.out _ _ _).mono ?_
  rintro e w14 ⟨rfl, hv⟩
  clear d0 d1 d2 d3 d4 d5
  replace b7 := hv.at b7 (by simp)
  replace b8 := hv.at b8 (by simp)
  replace c9 := hv.at c9 (by simp)
  replace hUs := hUs.trans_ext hv
  clear hv
  have d0 := cell_of b7 0
  have d1 := cell_of b7 1
  have d2 := cell_of b8 0
  have d3 := cell_of b8 1
  have d4 := cell_of c9 0
  have d5 := cell_of c9 1
  simp only [List.getElem?_toArray, List.getElem?_cons_zero, List.getElem?_cons_succ] at d0 d1 d2 d3 d4 d5
  go_wp2_with fail
  clear d0 d1 d2 d3 d4 d5 b7 b8 c9 H35 H58 H59 H59b H56 H57
  refine (H60.out _ _).mono ?_
  rintro e w21 ⟨rfl, hv⟩
  replace hUs := (hUs.alloc _).trans_ext hv
  clear hv
  go_wp2_with fail
  refine (H61.out _ _).mono ?_
  rintro e w22 ⟨rfl, hv⟩
  replace hUs := (hUs.alloc _).trans_ext hv
  clear hv
  go_wp2_with fail
  refine (H62.out _).mono ?_
  rintro e w23 ⟨rfl, hv⟩
  replace hUs := hUs.trans_ext hv
  clear hv
  go_wp2_with fail
  refine (H63.out _).mono ?_
  rintro e w24 ⟨rfl, hv⟩
  replace hUs := hUs.trans_ext hv
  clear hv
  go_wp2_with fail
  refine (H60b.out _).mono ?_
  rintro e w25 ⟨rfl, hv⟩
  replace hUs := hUs.trans_ext hv
  clear hv
  go_wp2_with fail
  refine (H61b.out _).mono ?_
  rintro e w26 ⟨rfl, hv⟩
  replace hUs := hUs.trans_ext hv
  clear hv
  go_wp2_with fail
  refine (H62b.out _).mono ?_
  rintro e w27 ⟨rfl, hv⟩
  replace hUs := hUs.trans_ext hv
  clear hv
  go_wp2_with fail
  refine (H63b.out _).mono ?_
  rintro e w28 ⟨rfl, hv⟩
  replace hUs := hUs.trans_ext hv
  clear hv
  go_wp2_with fail
  refine (HK.out _).mono ?_
  rintro e w29 ⟨rfl, hv⟩
  replace hUs := hUs.trans_ext hv
  go_wp2
  go_ret
  exact ⟨rfl, hUs⟩

theorem nil_walk (a : Bool) (n : Nat) (hn : n < 18446744073709551616) (m : Int) (hb : -9223372036854775808 ≤ m ∧ m ≤ 9223372036854775807) (w : World) :
    Calls Tryd.prog 10 #[.bool a, .int .u64 n, .int .i64 m] w fun e w' => e = .returned (.bool true) ∧ Upto [] w w' := by
  rcases (by omega : 0 < m ∨ m < 1) with h | h
  · cases a
    · exact nil_walk_fp n hn m hb h w
    · exact nil_walk_tp n hn m hb h w
  · cases a
    · exact nil_walk_fn n hn m hb (by omega) w
    · exact nil_walk_tn n hn m hb (by omega) w
end Go.Proofs.YtifellalnojomaaDoor
