/- The pair of the booleans and of nothing; multiples and powers of a bool. -/
import Derived.Test.YtifellalnojomaaDoorBFold
import Derived.Test.YtifellalnojomaaDoorPairI
namespace Go.Proofs.YtifellalnojomaaDoor
open Go.RowKit Go.PL Go.Maps

set_option maxRecDepth 100000 in
set_option maxHeartbeats 1600000 in
theorem H_add1 (i j : Nat) (hij : i + j ≤ 20) (pa pb : Nat) (ka : Bool) (ga : Option Addr) (na : Nat) (ca : Nat) (kb : Bool) (gb : Option Addr) (nb : Nat) (cb : Nat) {x y : Bool} (w : World)
    (ba : w.heap[pa]? = some (.cells #[.bool ka, .slice ga na ca] 98)) (bb : w.heap[pb]? = some (.cells #[.bool kb, .slice gb nb cb] 98)) (ha : RepB i w (.bool ka) x) (hb : RepB j w (.bool kb) y) :
    Calls Tryd.prog 86 #[.iface 23 (.agg #[]), .pointer (some ⟨pa, 0, none⟩), .pointer (some ⟨pb, 0, none⟩)] w fun e w' => ∃ k, e = .returned (.bool k) ∧ Upto [] w w' ∧ RepB (i + j) w' (.bool k) ((fun a b => a || b) x y) := by
  have H := Lib.hid (fun u (hu : Upto [] w u) => ringB.ha i j u _ _ x y hij (ringB.stable _ _ _ _ _ ha hu) (ringB.stable _ _ _ _ _ hb hu))
  have a0 := cell_of ba 0
  have b10 := cell_of bb 0
  simp only [List.getElem?_toArray, List.getElem?_cons_zero, List.getElem?_cons_succ] at a0 b10
  have la := lt_of_heap ba
  have lb := lt_of_heap bb
  have hup := Upto.refl [] w
  clear ba bb ha hb
  have mAB : ∀ w, (method 292 23 (.agg #[]) "Add").run Tryd.prog w = .ok (13, .agg #[]) w := fun _ => by kernel_rfl
  go_enter Tryd.func86, Tryd.ntmps86
  go_wp2_with fail
  refine (H.out _ hup).mono ?_
  rintro e w1 ⟨v, rfl, hu1, hr⟩
  obtain ⟨kr, rfl⟩ := repB_shape _ _ _ _ hr
  clear H
  go_wp2
  go_ret
  exact ⟨_, rfl, hup.trans_ext hu1, hr⟩

set_option maxRecDepth 100000 in
set_option maxHeartbeats 1600000 in
theorem H_half_add1 (i j : Nat) (hij : i + j ≤ 20) (pa pb : Nat) (ka : Bool) (ga : Option Addr) (na : Nat) (ca : Nat) (kb : Bool) (gb : Option Addr) (nb : Nat) (cb : Nat) {x y : Bool} (w : World)
    (ba : w.heap[pa]? = some (.cells #[.bool ka, .slice ga na ca] 98)) (bb : w.heap[pb]? = some (.cells #[.bool kb, .slice gb nb cb] 98)) (ha : RepB i w (.bool ka) x) (hb : RepB j w (.bool kb) y) :
    Calls Tryd.prog 70 #[.iface 23 (.agg #[]), .func (.func 86) #[] #[.pointer (some ⟨pa, 0, none⟩), .pointer (some ⟨pb, 0, none⟩)]] w fun e w' => ∃ k, e = .returned (.bool k) ∧ Upto [] w w' ∧ RepB (i + j) w' (.bool k) ((fun a b => a || b) x y) := by
  have H := Lib.hid (fun u (hu : Upto [] w u) => H_add1 i j hij pa pb ka ga na ca kb gb nb cb u (hu.at ba (by simp)) (hu.at bb (by simp)) (ringB.stable _ _ _ _ _ ha hu) (ringB.stable _ _ _ _ _ hb hu))
  have hup := Upto.refl [] w
  clear ba bb ha hb
  have qn : ∀ w, (binOp .eql 72 (.iface 23 (.agg #[])) .nilIface).run Tryd.prog w = .ok (.bool false) w := fun _ => by kernel_rfl
  go_enter Tryd.func70, Tryd.ntmps70
  go_wp2_with fail
  refine (H.out _ hup).mono ?_
  rintro e w1 ⟨kr, rfl, hu1, hr⟩
  clear H
  go_wp2
  go_ret
  exact ⟨_, rfl, hup.trans_ext hu1, hr⟩

set_option maxRecDepth 100000 in
set_option maxHeartbeats 1600000 in
theorem H_half_Zero1 (w : World) :
    Calls Tryd.prog 70 #[.iface 23 (.agg #[]), .func (.methodOf 72 "Zero") #[] #[]] w fun e w' => ∃ k, e = .returned (.bool k) ∧ Upto [] w w' ∧ RepB 1 w' (.bool k) false := by
  have H := Lib.hid (fun u (_ : Upto [] w u) => ringB.hz u)
  have mZB : ∀ w, (method 292 23 (.agg #[]) "Zero").run Tryd.prog w = .ok (11, .agg #[]) w := fun _ => by kernel_rfl
  have hup := Upto.refl [] w
  have qn : ∀ w, (binOp .eql 72 (.iface 23 (.agg #[])) .nilIface).run Tryd.prog w = .ok (.bool false) w := fun _ => by kernel_rfl
  go_enter Tryd.func70, Tryd.ntmps70
  go_wp2_with fail
  refine (H.out _ hup).mono ?_
  rintro e w1 ⟨v, rfl, hu1, hr⟩
  obtain ⟨kr, rfl⟩ := repB_shape _ _ _ _ hr
  clear H
  go_wp2
  go_ret
  exact ⟨_, rfl, hup.trans_ext hu1, hr⟩

set_option maxRecDepth 100000 in
set_option maxHeartbeats 1600000 in
theorem H_half_One1 (w : World) :
    Calls Tryd.prog 70 #[.iface 23 (.agg #[]), .func (.methodOf 72 "One") #[] #[]] w fun e w' => ∃ k, e = .returned (.bool k) ∧ Upto [] w w' ∧ RepB 1 w' (.bool k) true := by
  have H := Lib.hid (fun u (_ : Upto [] w u) => ringB.ho u)
  have mOB : ∀ w, (method 292 23 (.agg #[]) "One").run Tryd.prog w = .ok (12, .agg #[]) w := fun _ => by kernel_rfl
  have hup := Upto.refl [] w
  have qn : ∀ w, (binOp .eql 72 (.iface 23 (.agg #[])) .nilIface).run Tryd.prog w = .ok (.bool false) w := fun _ => by kernel_rfl
  go_enter Tryd.func70, Tryd.ntmps70
  go_wp2_with fail
  refine (H.out _ hup).mono ?_
  rintro e w1 ⟨v, rfl, hu1, hr⟩
  obtain ⟨kr, rfl⟩ := repB_shape _ _ _ _ hr
  clear H
  go_wp2
  go_ret
  exact ⟨_, rfl, hup.trans_ext hu1, hr⟩

set_option maxRecDepth 100000 in
set_option maxHeartbeats 1600000 in
theorem half_nil_nf (f : FuncId) (cap : Array Value) (w : World) :
    Calls Tryd.prog 79 #[.nilIface, .func (.func f) #[] cap] w fun e w' => e = .returned (.agg #[.slice none 0 0]) ∧ Upto [] w w' := by
  have qn : ∀ w, (binOp .eql 66 .nilIface .nilIface).run Tryd.prog w = .ok (.bool true) w := fun _ => by kernel_rfl
  have hu : Upto [] w ((w.alloc (.cells #[.slice none 0 0] 45)).alloc (.cells #[.slice none 0 0] 45)) := ((Upto.refl [] w).alloc _).alloc _
  have b3 := alloc_old (new_at w (.cells #[.slice none 0 0] 45)) (.cells #[.slice none 0 0] 45)
  have f3 := free_of b3 0
  have q3 := cell_of b3 0
  simp only [List.getElem?_toArray, List.getElem?_cons_zero] at q3
  go_enter Tryd.func79, Tryd.ntmps79
  go_wp2
  exact bodyPost_ret (v := .agg #[.slice none 0 0]) (by simp [results, Tryd.results79, go_sem, q3]) rfl ⟨rfl, hu⟩

set_option maxRecDepth 100000 in
set_option maxHeartbeats 1600000 in
theorem half_nil_nm (m : String) (cap : Array Value) (w : World) :
    Calls Tryd.prog 79 #[.nilIface, .func (.methodOf 66 m) #[] cap] w fun e w' => e = .returned (.agg #[.slice none 0 0]) ∧ Upto [] w w' := by
  have qn : ∀ w, (binOp .eql 66 .nilIface .nilIface).run Tryd.prog w = .ok (.bool true) w := fun _ => by kernel_rfl
  have hu : Upto [] w ((w.alloc (.cells #[.slice none 0 0] 45)).alloc (.cells #[.slice none 0 0] 45)) := ((Upto.refl [] w).alloc _).alloc _
  have b3 := alloc_old (new_at w (.cells #[.slice none 0 0] 45)) (.cells #[.slice none 0 0] 45)
  have f3 := free_of b3 0
  have q3 := cell_of b3 0
  simp only [List.getElem?_toArray, List.getElem?_cons_zero] at q3
  go_enter Tryd.func79, Tryd.ntmps79
  go_wp2
  exact bodyPost_ret (v := .agg #[.slice none 0 0]) (by simp [results, Tryd.results79, go_sem, q3]) rfl ⟨rfl, hu⟩

set_option maxRecDepth 100000 in
set_option maxHeartbeats 1600000 in
theorem H_add_calls (a b : Bool) (ga gb : Option Addr) (na ca nb cb : Nat) (w : World) :
    Calls Tryd.prog 56 #[.agg #[.iface 23 (.agg #[]), .nilIface], .agg #[.bool a, .slice ga na ca], .agg #[.bool b, .slice gb nb cb]] w fun e w' => e = .returned (.agg #[.bool (a || b), .slice none 0 0]) ∧ Upto [] w w' := by
  obtain ⟨W, hW⟩ : ∃ W, W = ((((w.alloc (.cells #[.iface 23 (.agg #[]), .nilIface] 96)).alloc (.cells #[.bool a, .slice ga na ca] 98)).alloc (.cells #[.bool b, .slice gb nb cb] 98)).alloc (.cells #[.bool false, .slice none 0 0] 98)) := ⟨_, rfl⟩
  have hup : Upto [] w W := by rw [hW]; exact ((((Upto.refl [] w).alloc _).alloc _).alloc _).alloc _
  have d0 := alloc_old (alloc_old (alloc_old (new_at w (.cells #[.iface 23 (.agg #[]), .nilIface] 96)) (.cells #[.bool a, .slice ga na ca] 98)) (.cells #[.bool b, .slice gb nb cb] 98)) (.cells #[.bool false, .slice none 0 0] 98)
  rw [← hW] at d0
  try simp only [World.size_alloc] at d0
  have d1 := alloc_old (alloc_old (new_at (w.alloc (.cells #[.iface 23 (.agg #[]), .nilIface] 96)) (.cells #[.bool a, .slice ga na ca] 98)) (.cells #[.bool b, .slice gb nb cb] 98)) (.cells #[.bool false, .slice none 0 0] 98)
  rw [← hW] at d1
  try simp only [World.size_alloc] at d1
  have d2 := alloc_old (new_at ((w.alloc (.cells #[.iface 23 (.agg #[]), .nilIface] 96)).alloc (.cells #[.bool a, .slice ga na ca] 98)) (.cells #[.bool b, .slice gb nb cb] 98)) (.cells #[.bool false, .slice none 0 0] 98)
  rw [← hW] at d2
  try simp only [World.size_alloc] at d2
  have d3 := new_at (((w.alloc (.cells #[.iface 23 (.agg #[]), .nilIface] 96)).alloc (.cells #[.bool a, .slice ga na ca] 98)).alloc (.cells #[.bool b, .slice gb nb cb] 98)) (.cells #[.bool false, .slice none 0 0] 98)
  rw [← hW] at d3
  try simp only [World.size_alloc] at d3
  go_enter Tryd.func56, Tryd.ntmps56
  go_wp2_with fail
  simp only [← hW]
  generalize hsz : w.heap.size = sz at *
  clear hW
  have i0 : ∀ u : Ext W, u.w.cell? ⟨sz, 0, none⟩ = some (.iface 23 (.agg #[])) := fun u => u.cell (cell_of d0 0)
  have i1 : ∀ u : Ext W, u.w.cell? ⟨sz, 1, none⟩ = some .nilIface := fun u => u.cell (cell_of d0 1)
  refine wp_region_seg_at [3, 7] [] [0, 1, 2, 3, 4, 5, 6, 7, 8] [9] 9 (by kernel_rfl) (by kernel_rfl) (by kernel_rfl) ?_
  refine seg_plain rfl rfl rfl rfl rfl ?_
  intro K' hK'
  go_big_quiet_op
  go_big_quiet_on
  refine seg_plain rfl rfl rfl rfl rfl ?_
  intro K' hK'
  go_big_quiet_op
  go_big_quiet_on
  refine seg_plain rfl rfl rfl rfl rfl ?_
  intro K' hK'
  go_big_quiet_op
  go_big_quiet_on
  refine seg_call (v := .bool (a || b)) rfl rfl rfl rfl (fun w => by go_simp) (fun w hu hd => (H_half_add1 0 0 (by decide) (sz + 1) (sz + 1 + 1) a ga na ca b gb nb cb w (hu.at d1 (by simp)) (hu.at d2 (by simp)) rfl rfl).mono fun e w' ⟨k, h1, h2, h3⟩ => ⟨by rw [h1]; exact congrArg Ending.returned h3, h2⟩) ?_
  simp only [Act.put, List.setIfInBounds_toArray, List.set_cons_zero, List.set_cons_succ]
  refine seg_plain rfl rfl rfl rfl rfl ?_
  intro K' hK'
  go_big_quiet_op
  go_big_quiet_on
  refine seg_plain rfl rfl rfl rfl rfl ?_
  intro K' hK'
  go_big_quiet_op
  go_big_quiet_on
  refine seg_plain rfl rfl rfl rfl rfl ?_
  intro K' hK'
  go_big_quiet_op
  go_big_quiet_on
  refine seg_call rfl rfl rfl rfl (fun w => by go_simp) (fun w hu hd => (half_nil_nf 87 #[.pointer (some ⟨sz + 1, 0, none⟩), .pointer (some ⟨sz + 1 + 1, 0, none⟩)] w)) ?_
  simp only [Act.put, List.setIfInBounds_toArray, List.set_cons_zero, List.set_cons_succ]
  refine seg_plain rfl rfl rfl rfl rfl ?_
  intro K' hK'
  go_big_quiet_op
  go_big_quiet_on
  intro w9 hg
  have hv := hg.up
  clear hg i0 i1
  simp only [List.drop_succ_cons, List.drop_zero]
  have c3 := hv.at d3 (by simp)
  have f20 := free_of c3 0
  have q20 := cell_of c3 0
  have f21 := free_of c3 1
  have q21 := cell_of c3 1
  simp only [List.getElem?_toArray, List.getElem?_cons_zero, List.getElem?_cons_succ] at q20 q21
  have hall := hup.trans_ext hv
  clear hv d0 d1 d2 d3
  have hsz2 := hsz
  go_wp2
  exact bodyPost_ret (v := .agg #[.bool (a || b), .slice none 0 0]) (by simp [results, Tryd.results56, go_sem, q20, q21]) rfl ⟨rfl, ((hall).setCell (p := ⟨sz + 1 + 1 + 1, 0, none⟩) (Or.inr (by show _ ≤ sz + 1 + 1 + 1; omega)) (.bool (a || b))).setCell (p := ⟨sz + 1 + 1 + 1, 1, none⟩) (Or.inr (by show _ ≤ sz + 1 + 1 + 1; omega)) (.slice none 0 0)⟩

set_option maxRecDepth 100000 in
set_option maxHeartbeats 1600000 in
theorem H_one_calls (w : World) :
    Calls Tryd.prog 57 #[.agg #[.iface 23 (.agg #[]), .nilIface]] w fun e w' => e = .returned (.agg #[.bool true, .slice none 0 0]) ∧ Upto [] w w' := by
  obtain ⟨W, hW⟩ : ∃ W, W = ((w.alloc (.cells #[.iface 23 (.agg #[]), .nilIface] 96)).alloc (.cells #[.bool false, .slice none 0 0] 98)) := ⟨_, rfl⟩
  have hup : Upto [] w W := by rw [hW]; exact ((Upto.refl [] w).alloc _).alloc _
  have d0 := alloc_old (new_at w (.cells #[.iface 23 (.agg #[]), .nilIface] 96)) (.cells #[.bool false, .slice none 0 0] 98)
  rw [← hW] at d0
  try simp only [World.size_alloc] at d0
  have d1 := new_at (w.alloc (.cells #[.iface 23 (.agg #[]), .nilIface] 96)) (.cells #[.bool false, .slice none 0 0] 98)
  rw [← hW] at d1
  try simp only [World.size_alloc] at d1
  go_enter Tryd.func57, Tryd.ntmps57
  go_wp2_with fail
  simp only [← hW]
  generalize hsz : w.heap.size = sz at *
  clear hW
  have i0 : ∀ u : Ext W, u.w.cell? ⟨sz, 0, none⟩ = some (.iface 23 (.agg #[])) := fun u => u.cell (cell_of d0 0)
  have i1 : ∀ u : Ext W, u.w.cell? ⟨sz, 1, none⟩ = some .nilIface := fun u => u.cell (cell_of d0 1)
  refine wp_region_seg_at [3, 7] [] [0, 1, 2, 3, 4, 5, 6, 7, 8] [9] 9 (by kernel_rfl) (by kernel_rfl) (by kernel_rfl) ?_
  refine seg_plain rfl rfl rfl rfl rfl ?_
  intro K' hK'
  go_big_quiet_op
  go_big_quiet_on
  refine seg_plain rfl rfl rfl rfl rfl ?_
  intro K' hK'
  go_big_quiet_op
  go_big_quiet_on
  refine seg_plain rfl rfl rfl rfl rfl ?_
  intro K' hK'
  go_big_quiet_op
  go_big_quiet_on
  refine seg_call (v := .bool true) rfl rfl rfl rfl (fun w => by go_simp) (fun w hu hd => (H_half_One1 w).mono fun e w' ⟨k, h1, h2, h3⟩ => ⟨by rw [h1]; exact congrArg Ending.returned h3, h2⟩) ?_
  simp only [Act.put, List.setIfInBounds_toArray, List.set_cons_zero, List.set_cons_succ]
  refine seg_plain rfl rfl rfl rfl rfl ?_
  intro K' hK'
  go_big_quiet_op
  go_big_quiet_on
  refine seg_plain rfl rfl rfl rfl rfl ?_
  intro K' hK'
  go_big_quiet_op
  go_big_quiet_on
  refine seg_plain rfl rfl rfl rfl rfl ?_
  intro K' hK'
  go_big_quiet_op
  go_big_quiet_on
  refine seg_call rfl rfl rfl rfl (fun w => by go_simp) (fun w hu hd => (half_nil_nm "One" #[] w)) ?_
  simp only [Act.put, List.setIfInBounds_toArray, List.set_cons_zero, List.set_cons_succ]
  refine seg_plain rfl rfl rfl rfl rfl ?_
  intro K' hK'
  go_big_quiet_op
  go_big_quiet_on
  intro w9 hg
  have hv := hg.up
  clear hg i0 i1
  simp only [List.drop_succ_cons, List.drop_zero]
  have c3 := hv.at d1 (by simp)
  have f20 := free_of c3 0
  have q20 := cell_of c3 0
  have f21 := free_of c3 1
  have q21 := cell_of c3 1
  simp only [List.getElem?_toArray, List.getElem?_cons_zero, List.getElem?_cons_succ] at q20 q21
  have hall := hup.trans_ext hv
  clear hv d0 d1
  have hsz2 := hsz
  go_wp2
  exact bodyPost_ret (v := .agg #[.bool true, .slice none 0 0]) (by simp [results, Tryd.results57, go_sem, q20, q21]) rfl ⟨rfl, ((hall).setCell (p := ⟨sz + 1, 0, none⟩) (Or.inr (by show _ ≤ sz + 1; omega)) (.bool true)).setCell (p := ⟨sz + 1, 1, none⟩) (Or.inr (by show _ ≤ sz + 1; omega)) (.slice none 0 0)⟩

set_option maxRecDepth 100000 in
set_option maxHeartbeats 1600000 in
theorem H_zero_calls (w : World) :
    Calls Tryd.prog 58 #[.agg #[.iface 23 (.agg #[]), .nilIface]] w fun e w' => e = .returned (.agg #[.bool false, .slice none 0 0]) ∧ Upto [] w w' := by
  obtain ⟨W, hW⟩ : ∃ W, W = ((w.alloc (.cells #[.iface 23 (.agg #[]), .nilIface] 96)).alloc (.cells #[.bool false, .slice none 0 0] 98)) := ⟨_, rfl⟩
  have hup : Upto [] w W := by rw [hW]; exact ((Upto.refl [] w).alloc _).alloc _
  have d0 := alloc_old (new_at w (.cells #[.iface 23 (.agg #[]), .nilIface] 96)) (.cells #[.bool false, .slice none 0 0] 98)
  rw [← hW] at d0
  try simp only [World.size_alloc] at d0
  have d1 := new_at (w.alloc (.cells #[.iface 23 (.agg #[]), .nilIface] 96)) (.cells #[.bool false, .slice none 0 0] 98)
  rw [← hW] at d1
  try simp only [World.size_alloc] at d1
  go_enter Tryd.func58, Tryd.ntmps58
  go_wp2_with fail
  simp only [← hW]
  generalize hsz : w.heap.size = sz at *
  clear hW
  have i0 : ∀ u : Ext W, u.w.cell? ⟨sz, 0, none⟩ = some (.iface 23 (.agg #[])) := fun u => u.cell (cell_of d0 0)
  have i1 : ∀ u : Ext W, u.w.cell? ⟨sz, 1, none⟩ = some .nilIface := fun u => u.cell (cell_of d0 1)
  refine wp_region_seg_at [3, 7] [] [0, 1, 2, 3, 4, 5, 6, 7, 8] [9] 9 (by kernel_rfl) (by kernel_rfl) (by kernel_rfl) ?_
  refine seg_plain rfl rfl rfl rfl rfl ?_
  intro K' hK'
  go_big_quiet_op
  go_big_quiet_on
  refine seg_plain rfl rfl rfl rfl rfl ?_
  intro K' hK'
  go_big_quiet_op
  go_big_quiet_on
  refine seg_plain rfl rfl rfl rfl rfl ?_
  intro K' hK'
  go_big_quiet_op
  go_big_quiet_on
  refine seg_call (v := .bool false) rfl rfl rfl rfl (fun w => by go_simp) (fun w hu hd => (H_half_Zero1 w).mono fun e w' ⟨k, h1, h2, h3⟩ => ⟨by rw [h1]; exact congrArg Ending.returned h3, h2⟩) ?_
  simp only [Act.put, List.setIfInBounds_toArray, List.set_cons_zero, List.set_cons_succ]
  refine seg_plain rfl rfl rfl rfl rfl ?_
  intro K' hK'
  go_big_quiet_op
  go_big_quiet_on
  refine seg_plain rfl rfl rfl rfl rfl ?_
  intro K' hK'
  go_big_quiet_op
  go_big_quiet_on
  refine seg_plain rfl rfl rfl rfl rfl ?_
  intro K' hK'
  go_big_quiet_op
  go_big_quiet_on
  refine seg_call rfl rfl rfl rfl (fun w => by go_simp) (fun w hu hd => (half_nil_nm "Zero" #[] w)) ?_
  simp only [Act.put, List.setIfInBounds_toArray, List.set_cons_zero, List.set_cons_succ]
  refine seg_plain rfl rfl rfl rfl rfl ?_
  intro K' hK'
  go_big_quiet_op
  go_big_quiet_on
  intro w9 hg
  have hv := hg.up
  clear hg i0 i1
  simp only [List.drop_succ_cons, List.drop_zero]
  have c3 := hv.at d1 (by simp)
  have f20 := free_of c3 0
  have q20 := cell_of c3 0
  have f21 := free_of c3 1
  have q21 := cell_of c3 1
  simp only [List.getElem?_toArray, List.getElem?_cons_zero, List.getElem?_cons_succ] at q20 q21
  have hall := hup.trans_ext hv
  clear hv d0 d1
  have hsz2 := hsz
  go_wp2
  exact bodyPost_ret (v := .agg #[.bool false, .slice none 0 0]) (by simp [results, Tryd.results58, go_sem, q20, q21]) rfl ⟨rfl, ((hall).setCell (p := ⟨sz + 1, 0, none⟩) (Or.inr (by show _ ≤ sz + 1; omega)) (.bool false)).setCell (p := ⟨sz + 1, 1, none⟩) (Or.inr (by show _ ≤ sz + 1; omega)) (.slice none 0 0)⟩

set_option maxRecDepth 100000 in
set_option maxHeartbeats 1600000 in
theorem H_same_calls (a b : Bool) (ga gb : Option Addr) (na ca nb cb : Nat) (w : World) :
    Calls Tryd.prog 59 #[.agg #[.iface 23 (.agg #[]), .nilIface], .agg #[.bool a, .slice ga na ca], .agg #[.bool b, .slice gb nb cb]] w fun e w' => e = .returned (.bool (a == b)) ∧ Upto [] w w' := by
  have hup : Upto [] w (((w.alloc (.cells #[.iface 23 (.agg #[]), .nilIface] 96)).alloc (.cells #[.bool a, .slice ga na ca] 98)).alloc (.cells #[.bool b, .slice gb nb cb] 98)) := (((Upto.refl [] w).alloc _).alloc _).alloc _
  have d0 := alloc_old (alloc_old (new_at w (.cells #[.iface 23 (.agg #[]), .nilIface] 96)) (.cells #[.bool a, .slice ga na ca] 98)) (.cells #[.bool b, .slice gb nb cb] 98)
  try simp only [World.size_alloc] at d0
  have d1 := alloc_old (new_at (w.alloc (.cells #[.iface 23 (.agg #[]), .nilIface] 96)) (.cells #[.bool a, .slice ga na ca] 98)) (.cells #[.bool b, .slice gb nb cb] 98)
  try simp only [World.size_alloc] at d1
  have d2 := new_at ((w.alloc (.cells #[.iface 23 (.agg #[]), .nilIface] 96)).alloc (.cells #[.bool a, .slice ga na ca] 98)) (.cells #[.bool b, .slice gb nb cb] 98)
  try simp only [World.size_alloc] at d2
  have H := Lib.hid (bsame_is a b)
  have HX := Lib.hid (show ∃ x, x = (a == b) from ⟨_, rfl⟩)
  have mSB : ∀ w, (method 292 23 (.agg #[]) "Same").run Tryd.prog w = .ok (15, .agg #[]) w := fun _ => by kernel_rfl
  have qB : ∀ w, (binOp .eql 72 (.iface 23 (.agg #[])) .nilIface).run Tryd.prog w = .ok (.bool false) w := fun _ => by kernel_rfl
  have qN : ∀ w, (binOp .eql 66 .nilIface .nilIface).run Tryd.prog w = .ok (.bool true) w := fun _ => by kernel_rfl
  generalize (a == b) = x at *
  clear HX
  go_enter Tryd.func59, Tryd.ntmps59
  go_wp2_with fail
  refine (H.out _).mono ?_
  rintro e w1 ⟨rfl, hv⟩
  have hall := hup.trans_ext hv
  replace d0 := hv.at d0 (by simp)
  replace d1 := hv.at d1 (by simp)
  replace d2 := hv.at d2 (by simp)
  have e0 := cell_of d0 0
  have e1 := cell_of d0 1
  have e2 := cell_of d1 0
  have e3 := cell_of d1 1
  have e4 := cell_of d2 0
  have e5 := cell_of d2 1
  simp only [List.getElem?_toArray, List.getElem?_cons_zero, List.getElem?_cons_succ] at e0 e1 e2 e3 e4 e5
  clear d0 d1 d2 hv hup H
  cases x
  · go_wp2
    go_ret
    exact ⟨rfl, hall⟩
  · go_wp2
    go_ret
    exact ⟨rfl, hall⟩

set_option maxRecDepth 100000 in
set_option maxHeartbeats 1600000 in
theorem rep_mult (a : Bool) (n : Int) : (List.replicate (max 0 (min n 65536)).toNat a).any id = (a && decide (0 < n)) := by
  by_cases h : 0 < n
  · obtain ⟨k, hk⟩ : ∃ k, (max 0 (min n 65536)).toNat = k + 1 := ⟨(max 0 (min n 65536)).toNat - 1, by omega⟩
    rw [hk]
    cases a <;> simp [h] <;> omega
  · rw [show (max 0 (min n 65536)).toNat = 0 by omega]
    cases a <;> simp <;> omega

set_option maxRecDepth 100000 in
set_option maxHeartbeats 1600000 in
theorem bmult_calls (a : Bool) (n : Int) (w : World) (hn : -9223372036854775808 ≤ n ∧ n ≤ 9223372036854775807) :
    Calls Tryd.prog 62 #[.iface 23 (.agg #[]), .bool a, .int .i64 n] w fun e w' => e = .returned (.bool (a && decide (0 < n))) ∧ Upto [] w w' := by
  have HA := Lib.hid (bagain_calls a n 65536 w hn (by omega))
  have HR := Lib.hid (rep_mult a n)
  have hb : (max 0 (min n 65536)).toNat ≤ 100000000 := by omega
  generalize (max 0 (min n 65536)).toNat = ln at *
  generalize (a && decide (0 < n)) = r at *
  clear hn
  go_enter Tryd.func62, Tryd.ntmps62
  go_wp2_with fail
  refine HA.out.mono ?_
  rintro e w1 ⟨sa, sc, rfl, hs, hu⟩
  have HB := Lib.hid (bsum_calls sa sc (List.replicate ln a) w1 (by simpa using hb) (by simpa using hs))
  rw [List.length_replicate, HR.out] at HB
  clear hs HA HR
  go_wp2_with fail
  refine HB.out.mono ?_
  rintro e w2 ⟨rfl, hu2⟩
  go_wp2
  go_ret
  exact ⟨rfl, hu.trans_ext hu2⟩

theorem bmult_nil (a : Bool) (n : Int) (w : World) (hn : -9223372036854775808 ≤ n ∧ n ≤ 9223372036854775807) :
    Calls Tryd.prog 62 #[.nilIface, .bool a, .int .i64 n] w fun e w' => e = .returned (.bool false) ∧ Upto [] w w' := by
  have HA := Lib.hid (bagain_calls a n 65536 w hn (by omega))
  have HB := Lib.hid bsum_nil
  generalize (max 0 (min n 65536)).toNat = ln at *
  clear hn
  go_enter Tryd.func62, Tryd.ntmps62
  go_wp2_with fail
  refine HA.out.mono ?_
  rintro e w1 ⟨sa, sc, rfl, hs, hu⟩
  clear hs HA
  go_wp2_with fail
  refine (HB.out _ _ _ _).mono ?_
  rintro e w2 ⟨rfl, hu2⟩
  go_wp2
  go_ret
  exact ⟨rfl, hu.trans_ext hu2⟩

set_option maxRecDepth 100000 in
set_option maxHeartbeats 1600000 in
theorem rep_pow (a : Bool) (n : Int) : (List.replicate (max 0 (min n 256)).toNat a).all id = (a || decide (n < 1)) := by
  by_cases h : 0 < n
  · obtain ⟨k, hk⟩ : ∃ k, (max 0 (min n 256)).toNat = k + 1 := ⟨(max 0 (min n 256)).toNat - 1, by omega⟩
    rw [hk]
    cases a <;> simp [h] <;> omega
  · rw [show (max 0 (min n 256)).toNat = 0 by omega]
    cases a <;> simp <;> omega

set_option maxRecDepth 100000 in
set_option maxHeartbeats 1600000 in
theorem bpow_calls (a : Bool) (n : Int) (w : World) (hn : -9223372036854775808 ≤ n ∧ n ≤ 9223372036854775807) :
    Calls Tryd.prog 63 #[.iface 23 (.agg #[]), .bool a, .int .i64 n] w fun e w' => e = .returned (.bool (a || decide (n < 1))) ∧ Upto [] w w' := by
  have HA := Lib.hid (bagain_calls a n 256 w hn (by omega))
  have HR := Lib.hid (rep_pow a n)
  have hb : (max 0 (min n 256)).toNat ≤ 100000000 := by omega
  generalize (max 0 (min n 256)).toNat = ln at *
  generalize (a || decide (n < 1)) = r at *
  clear hn
  go_enter Tryd.func63, Tryd.ntmps63
  go_wp2_with fail
  refine HA.out.mono ?_
  rintro e w1 ⟨sa, sc, rfl, hs, hu⟩
  have HB := Lib.hid (bprod_calls sa sc (List.replicate ln a) w1 (by simpa using hb) (by simpa using hs))
  rw [List.length_replicate, HR.out] at HB
  clear hs HA HR
  go_wp2_with fail
  refine HB.out.mono ?_
  rintro e w2 ⟨rfl, hu2⟩
  go_wp2
  go_ret
  exact ⟨rfl, hu.trans_ext hu2⟩

theorem bpow_nil (a : Bool) (n : Int) (w : World) (hn : -9223372036854775808 ≤ n ∧ n ≤ 9223372036854775807) :
    Calls Tryd.prog 63 #[.nilIface, .bool a, .int .i64 n] w fun e w' => e = .returned (.bool false) ∧ Upto [] w w' := by
  have HA := Lib.hid (bagain_calls a n 256 w hn (by omega))
  have HB := Lib.hid bprod_nil
  generalize (max 0 (min n 256)).toNat = ln at *
  clear hn
  go_enter Tryd.func63, Tryd.ntmps63
  go_wp2_with fail
  refine HA.out.mono ?_
  rintro e w1 ⟨sa, sc, rfl, hs, hu⟩
  clear hs HA
  go_wp2_with fail
  refine (HB.out _ _ _ _).mono ?_
  rintro e w2 ⟨rfl, hu2⟩
  go_wp2
  go_ret
  exact ⟨rfl, hu.trans_ext hu2⟩

end Go.Proofs.YtifellalnojomaaDoor
